/- How an argument that a row reads becomes a value of the print's kinds: whole numbers, bools, strings, slices, structs, nested as they like; with its bulk. Over any program. -/
import Derived.Test.YtpmbfibjldnaiaaGreatDoorWWords
import Derived.Test.YtpmbfibjldnaiaaGreatDoorRows
import Derived.Deep.Slices
import Derived.ChangeArms
import Derived.DataReads
import Derived.ProofKit
namespace Go.Proofs.YtpmbfibjldnaiaaGreatDoor.opens
open Go Go.RowKit Go.ChangeShapes Go.WideShapes Go.Deep Go.Proofs.YtpmbfibjldnaiaaGreatDoorW.PrintWords
variable {P : Program}

/-- t is read as d: whatever reads at t is a value y of d's, of bulk at most what the reading says. -/
def Opens {α : Type} (P : Program) (t : TypeId) (d : Kd α) (ok : α → Prop) (B : α → Nat) : Prop :=
  ∀ (H : Type) (enc : TypeId × Value → H) (w : World) (base : Nat) (sp : Nat → Bool) (held : Bool) (fuel : Nat) (cs : List Value) (x : DataW H × List MemPlace),
    DataW.trod enc P w base sp held fuel t cs = some x → ∃ y, d.K w y cs ∧ ok y ∧ B y ≤ Rows.uptoBulk x.1

theorem opens_int {t : TypeId} {k : IntKind} (ht : P.underlying t = some (.int k)) : Opens P t (Kd.int k) (fun n => (Lit.int k n).wf = true) (fun _ => 1) := by
  intro H enc w base sp held fuel cs x h
  cases fuel with
  | zero => simp [DataW.trod] at h
  | succ n =>
    unfold DataW.trod at h
    rw [ht] at h
    split at h <;> simp_all
    obtain ⟨⟨rfl, hw⟩, rfl⟩ := h
    exact ⟨_, rfl, hw, by simp [Rows.uptoBulk]⟩
theorem opens_bool {t : TypeId} (ht : P.underlying t = some .bool) : Opens P t Kd.bool (fun _ => True) (fun _ => 1) := by
  intro H enc w base sp held fuel cs x h
  have hs : ∃ b, cs = [.bool b] ∧ x = (.lit (.bool b), []) := by
    cases fuel with
    | zero => simp [DataW.trod] at h
    | succ n =>
      unfold DataW.trod at h
      rw [ht] at h
      split at h <;> simp_all
  obtain ⟨b, rfl, rfl⟩ := hs
  exact ⟨b, rfl, trivial, by simp [Rows.uptoBulk]⟩
theorem opens_string {t : TypeId} (ht : P.underlying t = some .string) : Opens P t Kd.string (fun s => s.size ≤ maxLen) (fun s => s.size + 1) := by
  intro H enc w base sp held fuel cs x h
  cases fuel with
  | zero => simp [DataW.trod] at h
  | succ n =>
    unfold DataW.trod at h
    rw [ht] at h
    split at h <;> simp_all
    obtain ⟨hs, rfl⟩ := h
    refine ⟨_, rfl, hs, ?_⟩
    simp [Rows.uptoBulk]
theorem opens_iso {α β : Type} {t : TypeId} {d : Kd α} {ok : α → Prop} {B : α → Nat} (f : β → α) (g : α → β) (hfg : ∀ x, f (g x) = x) (h : Opens P t d ok B) : Opens P t (Kd.iso d f) (fun y => ok (f y)) (fun y => B (f y)) := by
  intro H enc w base sp held fuel cs x hx
  obtain ⟨y, h1, h2, h3⟩ := h H enc w base sp held fuel cs x hx
  exact ⟨g y, by show d.K w (f (g y)) cs; rw [hfg]; exact h1, by show ok (f (g y)); rw [hfg]; exact h2, by show B (f (g y)) ≤ _; rw [hfg]; exact h3⟩

/-- The fields of a struct from number 'start' on (a cell's number). -/
def OpensFields {α : Type} (P : Program) (fs : List Field) (start : Nat) (d : Kd α) (ok : α → Prop) (B : α → Nat) : Prop :=
  ∀ (H : Type) (enc : TypeId × Value → H) (w : World) (base : Nat) (sp : Nat → Bool) (held : Bool) (n : Nat) (cs : List Value) (xs : List (DataW H × List MemPlace)),
    cs.length = start + d.sz → xs.length = fs.length → (∀ (i : Nat) (f : Field), fs[i]? = some f → DataW.trod enc P w base sp held n f.type ((cs.drop f.offset).take (P.cellsOf f.type)) = xs[i]?) →
    ∃ y, d.K w y (cs.drop start) ∧ ok y ∧ B y ≤ Rows.uptoBulkAll (xs.map (·.1))
theorem fields_one {α : Type} {f : Field} {start : Nat} {d : Kd α} {ok : α → Prop} {B : α → Nat} (ho : f.offset = start) (hc : P.cellsOf f.type = d.sz) (h : Opens P f.type d ok B) : OpensFields P [f] start d ok B := by
  intro H enc w base sp held n cs xs hl hx hf
  have h0 := hf 0 f rfl
  match xs, hx with
  | [x], _ =>
    rw [ho, hc, List.take_of_length_le (by rw [List.length_drop, hl]; omega)] at h0
    obtain ⟨y, h1, h2, h3⟩ := h H enc w base sp held n _ x h0
    exact ⟨y, h1, h2, by simp only [List.map_cons, List.map_nil, Rows.uptoBulkAll]; omega⟩
theorem fields_cons {α β : Type} {f : Field} {fs : List Field} {start : Nat} {d : Kd α} {e : Kd β} {ok : α → Prop} {ok' : β → Prop} {B : α → Nat} {B' : β → Nat} (ho : f.offset = start) (hc : P.cellsOf f.type = d.sz)
    (h : Opens P f.type d ok B) (hr : OpensFields P fs (start + d.sz) e ok' B') : OpensFields P (f :: fs) start (Kd.pair d e) (fun y => ok y.1 ∧ ok' y.2) (fun y => B y.1 + B' y.2) := by
  intro H enc w base sp held n cs xs hl hx hf
  have h0 := hf 0 f rfl
  have hl' : cs.length = start + (d.sz + e.sz) := hl
  match xs, hx with
  | x :: xs, hx =>
    rw [ho, hc] at h0
    obtain ⟨y, h1, h2, h3⟩ := h H enc w base sp held n _ x h0
    obtain ⟨z, k1, k2, k3⟩ := hr H enc w base sp held n cs xs (by rw [hl']; omega) (by simpa using hx) (fun i g hg => by simpa using hf (i + 1) g (by simpa using hg))
    refine ⟨(y, z), ⟨(cs.drop start).take d.sz, cs.drop (start + d.sz), ?_, h1, k1⟩, ⟨h2, k2⟩, ?_⟩
    · rw [← List.drop_drop]; exact (List.take_append_drop d.sz (cs.drop start)).symm
    · simp only [List.map_cons, Rows.uptoBulkAll]; omega
theorem opens_struct {α : Type} {t : TypeId} {fs : List Field} {d : Kd α} {ok : α → Prop} {B : α → Nat} (ht : P.underlying t = some (.struct fs.toArray)) (hc : P.cellsOf t = d.sz) (h : OpensFields P fs 0 d ok B) :
    Opens P t d ok (fun y => B y + 1) := by
  intro H enc w base sp held fuel cs x hx
  obtain ⟨xs, n, _, rfl, hl, hxl, hf⟩ := DataW.trod_struct ht hx
  obtain ⟨y, h1, h2, h3⟩ := h H enc w base sp held n cs xs (by rw [hl, hc]; omega) (by simpa using hxl) (fun i f hi => hf i f (by simpa using hi))
  exact ⟨y, by simpa using h1, h2, by simp only [Rows.uptoBulk]; omega⟩

theorem choose_list {α : Type} {n : Nat} {Q : Nat → α → Prop} (h : ∀ i, i < n → ∃ y, Q i y) : ∃ ys : List α, ys.length = n ∧ ∀ i y, ys[i]? = some y → Q i y := by
  induction n with
  | zero => exact ⟨[], rfl, fun i y hy => by simp at hy⟩
  | succ n ih =>
    obtain ⟨ys, hl, hy⟩ := ih (fun i hi => h i (by omega))
    obtain ⟨y, hq⟩ := h n (by omega)
    refine ⟨ys ++ [y], by simp [hl], fun i z hz => ?_⟩
    rcases Nat.lt_or_ge i n with hi | hi
    · rw [List.getElem?_append_left (by omega)] at hz; exact hy i z hz
    · rw [List.getElem?_append_right (by omega)] at hz
      have : i = n := by
        have := (List.getElem?_eq_some_iff.1 hz).1
        simp at this; omega
      subst this
      simp [hl] at hz
      subst hz
      exact hq
theorem sum_le {α : Type} {H : Type} {B : α → Nat} : ∀ (ys : List α) (ds : List (DataW H)), ys.length = ds.length → (∀ (i : Nat) (y : α) (d : DataW H), ys[i]? = some y → ds[i]? = some d → B y ≤ Rows.uptoBulk d) → (ys.map B).sum ≤ Rows.uptoBulkAll ds
  | [], [], _, _ => by simp
  | y :: ys, d :: ds, hl, h => by
    have h1 := h 0 y d rfl rfl
    have h2 := sum_le ys ds (by simpa using hl) (fun i a b ha hb => h (i + 1) a b (by simpa using ha) (by simpa using hb))
    simp only [List.map_cons, List.sum_cons, Rows.uptoBulkAll]
    omega
  | [], d :: ds, hl, _ => by simp at hl
  | y :: ys, [], hl, _ => by simp at hl

theorem opens_slice {α : Type} {t e : TypeId} {d : Kd α} {ok : α → Prop} {B : α → Nat} (ht : P.underlying t = some (.slice e)) (hc : P.cellsOf e = d.sz) (h : Opens P e d ok B) :
    Opens P t (Kd.slice e d) (fun ys => ∀ y ∈ ys, ok y) (fun ys => (ys.map B).sum + 1) := by
  intro H enc w base sp held fuel cs x hx
  rcases open_slice ht hx with ⟨rfl, rfl⟩ | ⟨a, len, cap, m, n, D, Pl, rfl, hb, hl, hm, hmm, rfl, hi⟩
  · exact ⟨[], ⟨none, 0, rfl, Nat.le_refl _, ⟨rfl, by simp, fun h0 => absurd h0 (by simp)⟩⟩, fun y hy => by simp at hy, by simp [Rows.uptoBulk]⟩
  · have hlm : len ≤ m := by rw [hmm]; split <;> omega
    obtain ⟨ys, hyl, hys⟩ := choose_list (n := len) (Q := fun i y => ok y ∧ B y ≤ Rows.uptoBulk (D i) ∧ ∃ c : List Value, c.length = d.sz ∧ d.K w y c ∧ ∀ j u, c[j]? = some u → w.cell? (a.add (i * d.sz + j)) = some u) (fun i hil => by
      obtain ⟨cs', hcs, htr⟩ := hi i (by omega)
      obtain ⟨y, h1, h2, h3⟩ := h H enc w base sp held n cs' _ htr
      obtain ⟨_, hcl, hat⟩ := World.cells?_some hcs
      refine ⟨y, h2, h3, cs', by rw [hcl, hc], h1, fun j u hu => ?_⟩
      have hj : j < P.cellsOf e := by have := (List.getElem?_eq_some_iff.1 hu).1; omega
      have := hat j hj
      rw [← hc, ← Go.Deep.add_add, this, hu])
    have hmax : len ≤ 9223372036854775807 := by simp only [maxLen] at hm; omega
    refine ⟨ys, ⟨some a, cap, by rw [hyl], by rw [hyl]; exact hl, ⟨rfl, by rw [hyl]; exact hmax, fun _ => ⟨a, rfl, fun j p hj => ?_⟩⟩⟩, ?_, ?_⟩
    · obtain ⟨_, _, c, h1, h2, h3⟩ := hys j p hj
      exact ⟨c, h1, h2, h3⟩
    · intro y hy
      obtain ⟨i, hi'⟩ := List.getElem?_of_mem hy
      exact (hys i y hi').1
    · have := sum_le (B := B) ys ((List.range len).map D) (by simp [hyl]) (fun i y dd hyi hdi => by
        rw [List.getElem?_map] at hdi
        have hil : i < len := by have := (List.getElem?_eq_some_iff.1 hyi).1; omega
        rw [List.getElem?_range hil] at hdi
        simp at hdi
        subst hdi
        exact (hys i y hyi).2.1)
      simp only [Rows.uptoBulk]
      omega

/-- What a row hands over of one argument. -/
theorem opened {α : Type} {H : Type} {enc : TypeId × Value → H} {t : TypeId} {d : Kd α} {ok : α → Prop} {B : α → Nat} (h : Opens P t d ok B) {w : World} {base : Nat} {sp : Nat → Bool} {held : Bool} {v : Value} {dd : DataW H} {p : List MemPlace}
    (ht : DataW.Trod enc P w base sp held t v dd p) : ∃ y, d.K w y v.cells.toList ∧ ok y ∧ B y ≤ Rows.uptoBulk dd := by
  obtain ⟨fuel, hf⟩ := ht
  exact h H enc w base sp held fuel _ _ hf
end Go.Proofs.YtpmbfibjldnaiaaGreatDoor.opens
