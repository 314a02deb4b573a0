/- The law ShellReads: what both readers hand back, in one form; two lines that are alike. The law ShellReads: what lies where. The law ShellReads: its walk. The law ShellReads, for every input: the walk of the Go text returns true and writes nothing that was there; here that walk becomes the row. (Merged by merge.py.) -/
import Derived.Test.YtkoldjmhcifpjaaMT
import Derived.Test.YtkoldjmhcifpjaaMM
import Derived.Test.YtkoldjmhcifpjaaMO
import Derived.Test.YtkoldjmhcifpjaaPShellReadsx3
import Derived.Deep.Onto
import Derived.Maps.AppendAt
import Derived.Test.YtkoldjmhcifpjaaRows
import Derived.WalkKit
import Derived.ProofKit
import Derived.OpenShut
import Derived.ShutString
import Derived.ChangeOld
import Derived.Below
import Derived.SizedLaws
import Derived.JoinedCond
/-! ## LawA -/
namespace Go.Proofs.Ytkoldjmhcifpjaa.lawa
open Go Go.RowKit Go.Proofs.Ytkoldjmhcifpjaa.parsep Go.Proofs.Ytkoldjmhcifpjaa.reada Go.Proofs.Ytkoldjmhcifpjaa.readi Go.Proofs.Ytkoldjmhcifpjaa.readp Go.Proofs.Ytkoldjmhcifpjaa.refb Go.Proofs.Ytkoldjmhcifpjaa.optrow Go.Proofs.Ytkoldjmhcifpjaa.PShellReads Go.Proofs.YtkoldjmhcifpjaaW.PrintWords
set_option linter.unusedVariables false
set_option linter.unusedSimpArgs false
/-- What is said of a line: the line, the error, its place. -/
def resOf (s : ByteArray) : Ln × Int × Int :=
  if 4096 < s.size then (⟨[], [], []⟩, 160, 4097) else
  match prog (s.size + 1) 0 ⟨[], [], []⟩ s.data.toList 0 with
  | .error q => (⟨[], [], []⟩, 160, ((q + 1 : Nat) : Int))
  | .ok L => (L, 0, 0)
/-- What a reader hands back. -/
def EndsU (w0 : World) (L : Ln) (cd pl : Int) (e : Ending) (w' : World) : Prop :=
  ∃ A c, e = .returned (.tuple #[.agg #[.string ⟨L.cmd.toArray⟩, .string ⟨L.name.toArray⟩, .slice A L.opts.length c], .int .i64 cd, .int .i64 pl]) ∧ Below w0.heap.size w0 w' ∧ w'.ownsRow w0.heap.size 34 2 (.slice A L.opts.length c) L.opts.length (oc L.opts)
theorem row_len {w : World} {base n : Nat} {v : Value} {xs : List Value} (h : w.ownsRow base 34 2 v n xs) : ∃ A c, v = .slice A n c := by
  rcases h.2 with ⟨rfl, rfl⟩ | ⟨g1, cap, cur, rfl, _⟩
  · exact ⟨_, _, rfl⟩
  · exact ⟨_, _, rfl⟩
theorem parse_u (s : ByteArray) (w : World) (L : Ln) (cd pl : Int) (h : resOf s = (L, cd, pl)) : Calls Try.prog 7 #[.string s] w (EndsU w L cd pl) := by
  refine (parse_call s w).mono ?_
  rintro e w' ⟨hb, H⟩
  unfold resOf at h
  by_cases hs : 4096 < s.size
  · rw [if_pos hs] at h H
    obtain ⟨rfl, rfl, rfl⟩ : (⟨[], [], []⟩ : Ln) = L ∧ (160 : Int) = cd ∧ (4097 : Int) = pl := by simpa using h
    exact ⟨none, 0, H, hb, World.ownsRow_nil _ _ _ _⟩
  · rw [if_neg hs] at h H
    cases hX : prog (s.size + 1) 0 ⟨[], [], []⟩ s.data.toList 0 with
    | error q =>
      rw [hX] at h H
      obtain ⟨rfl, rfl, rfl⟩ : (⟨[], [], []⟩ : Ln) = L ∧ (160 : Int) = cd ∧ ((q + 1 : Nat) : Int) = pl := by simpa using h
      exact ⟨none, 0, H, hb, World.ownsRow_nil _ _ _ _⟩
    | ok L' =>
      rw [hX] at h H
      obtain ⟨rfl, rfl, rfl⟩ : L' = L ∧ (0 : Int) = cd ∧ (0 : Int) = pl := by simpa using h
      obtain ⟨v, rfl, hr⟩ := H
      obtain ⟨A, c, rfl⟩ := row_len hr
      exact ⟨A, c, rfl, hb, hr⟩
theorem ref_u (s : ByteArray) (w : World) (L : Ln) (cd pl : Int) (h : resOf s = (L, cd, pl)) : Calls Try.prog 6 #[.string s] w (EndsU w L cd pl) := by
  have hr : run ⟨0, 0, [], [], 0, ⟨[], [], []⟩⟩ s.data.toList 0 = prog (s.size + 1) 0 ⟨[], [], []⟩ s.data.toList 0 := run_prog (s.size + 1) 0 ⟨[], [], []⟩ s.data.toList 0 [] 0 (by simp)
  unfold resOf at h
  by_cases hs : 4096 < s.size
  · refine (ref_long s w hs).mono ?_
    rintro e w' ⟨hb, H⟩
    rw [if_pos hs] at h H
    obtain ⟨rfl, rfl, rfl⟩ : (⟨[], [], []⟩ : Ln) = L ∧ (160 : Int) = cd ∧ (4097 : Int) = pl := by simpa using h
    exact ⟨none, 0, H, hb, World.ownsRow_nil _ _ _ _⟩
  · refine (ref_short s w hs).mono ?_
    rintro e w' ⟨hb, H⟩
    rw [if_neg hs] at h H
    rw [hr] at H
    cases hX : prog (s.size + 1) 0 ⟨[], [], []⟩ s.data.toList 0 with
    | error q =>
      rw [hX] at h H
      obtain ⟨rfl, rfl, rfl⟩ : (⟨[], [], []⟩ : Ln) = L ∧ (160 : Int) = cd ∧ ((q + 1 : Nat) : Int) = pl := by simpa using h
      exact ⟨none, 0, H, hb, World.ownsRow_nil _ _ _ _⟩
    | ok L' =>
      rw [hX] at h H
      obtain ⟨rfl, rfl, rfl⟩ : L' = L ∧ (0 : Int) = cd ∧ (0 : Int) = pl := by simpa using h
      obtain ⟨v, rfl, hr⟩ := H
      obtain ⟨A, c, rfl⟩ := row_len hr
      exact ⟨A, c, rfl, hb, hr⟩
/-! ### how many options -/
theorem stepe_bd {x : Sv} {L : Ln} (h : stepe x = some L) : L.opts.length ≤ x.ln.opts.length + 1 := by
  unfold stepe at h
  split at h
  all_goals (first | (simp only [reduceCtorEq] at h; done) | (simp only [Option.some.injEq] at h; subst h; simp))
theorem run_bd : ∀ (l : Bs) (x : Sv) (p : Nat) (L : Ln), run x l p = .ok L → L.opts.length ≤ x.ln.opts.length + l.length + 1
  | [], x, p, L, h => by
    unfold run at h
    split at h
    · cases h
    · rename_i L' hL
      simp only [Except.ok.injEq] at h
      subst h
      have := stepe_bd hL
      simp; omega
  | c :: t, x, p, L, h => by
    unfold run at h
    split at h
    · split at h
      · cases h
      · rename_i x' hx
        have h1 := run_bd t _ _ _ h
        have h2 := (stepc_bd hx).2.2.2.1
        simp; omega
    · cases h
theorem res_bd {s : ByteArray} {L : Ln} {cd pl : Int} (h : resOf s = (L, cd, pl)) : L.opts.length ≤ 4097 := by
  unfold resOf at h
  by_cases hs : 4096 < s.size
  · rw [if_pos hs] at h
    obtain ⟨rfl, _⟩ : (⟨[], [], []⟩ : Ln) = L ∧ _ := by simpa using h
    simp
  · rw [if_neg hs] at h
    cases hX : prog (s.size + 1) 0 ⟨[], [], []⟩ s.data.toList 0 with
    | error q =>
      rw [hX] at h
      obtain ⟨rfl, _⟩ : (⟨[], [], []⟩ : Ln) = L ∧ _ := by simpa using h
      simp
    | ok L' =>
      rw [hX] at h
      obtain ⟨rfl, _⟩ : L' = L ∧ _ := by simpa using h
      have hr : run ⟨0, 0, [], [], 0, ⟨[], [], []⟩⟩ s.data.toList 0 = prog (s.size + 1) 0 ⟨[], [], []⟩ s.data.toList 0 := run_prog (s.size + 1) 0 ⟨[], [], []⟩ s.data.toList 0 [] 0 (by simp)
      have := run_bd _ _ _ _ (hr.trans hX)
      simp at this; omega
/-! ### two lines that are alike -/
theorem same_l0 (c n : ByteArray) (xs : List S34) (hx : xs.length ≤ 4097) : ∀ (m i k : Nat), i + m = xs.length → m < k → cofferlaw16_same.l0 k (i : Int) c n xs c n xs = some true
  | 0, i, k, hi, hk => by
    obtain ⟨k, rfl⟩ : ∃ j, k = j + 1 := ⟨k - 1, by omega⟩
    unfold cofferlaw16_same.l0
    rw [if_neg (by omega)]
  | m + 1, i, k, hi, hk => by
    obtain ⟨k, rfl⟩ : ∃ j, k = j + 1 := ⟨k - 1, by omega⟩
    unfold cofferlaw16_same.l0
    rw [if_pos (by omega), if_pos (by omega), if_pos (by omega)]
    have e : wrap64 ((i : Int) + 1) = ((i + 1 : Nat) : Int) := by rw [IntWalk.wrap64_in _ (by omega)]; push_cast; rfl
    rw [e, same_l0 c n xs hx m (i + 1) k (by omega) (by omega)]
    simp
theorem same_f (c n : ByteArray) (xs : List S34) (hx : xs.length ≤ 4097) : cofferlaw16_same.f (xs.length + 1 + 1) c n xs c n xs = some true := by
  unfold cofferlaw16_same.f
  rw [if_pos rfl, if_pos rfl]
  have e : ((xs.length : Int) != (xs.length : Int)) = false := by simp
  rw [e]
  simp only [cofferlaw16_same.j0]
  rw [if_neg (by decide)]
  exact same_l0 c n xs hx xs.length 0 _ (by omega) (by omega)
/-- Two lines that are alike, asked. -/
theorem same_call {w : World} {b1 b2 : Nat} {A1 A2 : Option Addr} {c1 c2 : Nat} (L : Ln) (hL : L.opts.length ≤ 4097)
    (h1 : w.ownsRow b1 34 2 (.slice A1 L.opts.length c1) L.opts.length (oc L.opts)) (h2 : w.ownsRow b2 34 2 (.slice A2 L.opts.length c2) L.opts.length (oc L.opts)) :
    Calls Try.prog 8 #[.agg #[.string ⟨L.cmd.toArray⟩, .string ⟨L.name.toArray⟩, .slice A1 L.opts.length c1], .agg #[.string ⟨L.cmd.toArray⟩, .string ⟨L.name.toArray⟩, .slice A2 L.opts.length c2]] w fun e w' => e = .returned (.bool true) ∧ Below w.heap.size w w' := by
  have r1 := Kd.R_reads' (row_R h1)
  have r2 := Kd.R_reads' (row_R h2)
  have e : (L.opts.map so).length = L.opts.length := List.length_map _
  have := cofferlaw16_same.calls _ ⟨L.cmd.toArray⟩ ⟨L.name.toArray⟩ A1 c1 (L.opts.map so) ⟨L.cmd.toArray⟩ ⟨L.name.toArray⟩ A2 c2 (L.opts.map so) true w r1.2.2 (by rw [e]; exact r1.2.1) r2.2.2 (by rw [e]; exact r2.2.1) (same_f _ _ _ (by rw [e]; exact hL))
  rw [e] at this
  exact this
theorem num_call (a : Int) (w : World) : Calls Try.prog 9 #[.int .i64 a] w fun e w' => e = .returned (.int .i64 a) ∧ ∃ m, w' = w.drewN m := (cofferlaw16_num.calls a a w rfl).mono fun e w' ⟨h1, h2⟩ => ⟨h1, h2.out⟩
end Go.Proofs.Ytkoldjmhcifpjaa.lawa
/-! ## LawB -/
namespace Go.Proofs.Ytkoldjmhcifpjaa.lawb
open Go Go.RowKit Go.Proofs.Ytkoldjmhcifpjaa.parsep Go.Proofs.Ytkoldjmhcifpjaa.reada Go.Proofs.Ytkoldjmhcifpjaa.readi Go.Proofs.Ytkoldjmhcifpjaa.readp Go.Proofs.Ytkoldjmhcifpjaa.optrow Go.Proofs.Ytkoldjmhcifpjaa.lawa Go.Proofs.Ytkoldjmhcifpjaa.PShellReads Go.Proofs.YtkoldjmhcifpjaaW.PrintWords
set_option linter.unusedVariables false
set_option linter.unusedSimpArgs false
/-- What lies where behind the four calls: the reference's line, the first, the second; their rows. -/
structure Lw (w W : World) (g5 g8 g11 : Nat) (L : Ln) (v1 v2 v3 : Value) (n : Nat) : Prop where
  below : Below w.heap.size w W
  p5 : w.heap.size ≤ g5
  p8 : w.heap.size ≤ g8
  p11 : w.heap.size ≤ g11
  n58 : g5 ≠ g8
  n811 : g11 ≠ g8
  b5 : W.heap[g5]? = some (.cells #[.string ⟨L.cmd.toArray⟩, .string ⟨L.name.toArray⟩, v1] 25 (0, 0))
  b8 : W.heap[g8]? = some (.cells #[.string ⟨L.cmd.toArray⟩, .string ⟨L.name.toArray⟩, v2] 25 (0, 0))
  b11 : W.heap[g11]? = some (.cells #[.string ⟨L.cmd.toArray⟩, .string ⟨L.name.toArray⟩, v3] 25 (0, 0))
  r1 : W.ownsRow w.heap.size 34 2 v1 L.opts.length (oc L.opts)
  r3 : W.ownsRow w.heap.size 34 2 v3 L.opts.length (oc L.opts)
  r2 : ∃ xs, W.ownsRow w.heap.size 34 2 v2 n xs
  a1 : ∀ k, v2.ownBlock = some k → v1.ownBlock ≠ some k
  a3 : ∀ k, v2.ownBlock = some k → v3.ownBlock ≠ some k
/-- All but the first line's row lies on. -/
theorem Lw.kept {w W W' : World} {g5 g8 g11 : Nat} {L : Ln} {v1 v2 v3 : Value} {n : Nat} {row : Option Nat} (h : Lw w W g5 g8 g11 L v1 v2 v3 n) (hg : W.grownBy W' row) (hB : Below w.heap.size w W') (h5 : some g5 ≠ row) (h8 : some g8 ≠ row) (h11 : some g11 ≠ row)
    (h1 : v1.ownBlock = none ∨ v1.ownBlock ≠ row) (h3 : v3.ownBlock = none ∨ v3.ownBlock ≠ row) (h2 : ∃ xs, W'.ownsRow w.heap.size 34 2 v2 n xs) : Lw w W' g5 g8 g11 L v1 v2 v3 n :=
  ⟨hB, h.p5, h.p8, h.p11, h.n58, h.n811, (hg.block _ (blk_lt h.b5) h5).trans h.b5, (hg.block _ (blk_lt h.b8) h8).trans h.b8, (hg.block _ (blk_lt h.b11) h11).trans h.b11, h.r1.kept hg h1, h.r3.kept hg h3, h2, h.a1, h.a3⟩
theorem none_ne {v : Value} {k : Nat} (h : v.ownBlock ≠ some k) : v.ownBlock = none ∨ v.ownBlock ≠ some k := .inr h
/-- A call that makes memory and no more. -/
theorem Lw.step {w W W' : World} {g5 g8 g11 : Nat} {L : Ln} {v1 v2 v3 : Value} {n : Nat} (h : Lw w W g5 g8 g11 L v1 v2 v3 n) (hb : Below W.heap.size W W') : Lw w W' g5 g8 g11 L v1 v2 v3 n := by
  obtain ⟨xs, hx⟩ := h.r2
  have hg : W.grownBy W' none := ⟨hb.os, hb.tape, hb.output, hb.size, fun k hk _ => hb.block k hk⟩
  have hn : ∀ v : Value, v.ownBlock = none ∨ v.ownBlock ≠ none := fun v => by cases v.ownBlock <;> simp
  exact h.kept hg (h.below.trans (hb.mono h.below.size)) (by simp) (by simp) (by simp) (hn _) (hn _) ⟨xs, hx.kept hg (hn _)⟩
theorem Lw.drewN {w W : World} {g5 g8 g11 : Nat} {L : Ln} {v1 v2 v3 : Value} {n : Nat} (h : Lw w W g5 g8 g11 L v1 v2 v3 n) (m : Nat) : Lw w (W.drewN m) g5 g8 g11 L v1 v2 v3 n :=
  ⟨⟨h.below.os, h.below.tape, h.below.output, h.below.size, h.below.block⟩, h.p5, h.p8, h.p11, h.n58, h.n811, h.b5, h.b8, h.b11, h.r1, h.r3, h.r2, h.a1, h.a3⟩
/-- A cell of the first line's row is written. -/
theorem Lw.store {w W : World} {g5 g8 g11 : Nat} {L : Ln} {v1 v3 : Value} {n ga c : Nat} (h : Lw w W g5 g8 g11 L v1 (.slice (some ⟨ga, 0, none⟩) n c) v3 n) (j : Nat) (u : Value) : Lw w (W.setCell ⟨ga, j, none⟩ u) g5 g8 g11 L v1 (.slice (some ⟨ga, 0, none⟩) n c) v3 n := by
  obtain ⟨xs, hx⟩ := h.r2
  obtain ⟨hr, hg⟩ := hx.stored j u
  have hne : ∀ (g : Nat) (o : Obj), W.heap[g]? = some o → (∀ c, o ≠ .cells c 34 (0, 0)) → some g ≠ some ga := fun g o hb ho e => row_other hx hb ho e.symm
  exact h.kept hg (h.below.setCell (hx.lt ga rfl).1 _) (hne _ _ h.b5 (by simp)) (hne _ _ h.b8 (by simp)) (hne _ _ h.b11 (by simp)) (.inr (h.a1 ga rfl)) (.inr (h.a3 ga rfl)) ⟨_, hr⟩
/-- An option more behind the first line's. -/
theorem Lw.more {w W W1 : World} {g5 g8 g11 : Nat} {L : Ln} {v1 v2 v3 v : Value} {n : Nat} {xs : List Value} (h : Lw w W g5 g8 g11 L v1 v2 v3 n) (hg : W.grownBy W1 v2.ownBlock) (hr : W1.ownsRow w.heap.size 34 2 v (n + 1) xs) (ho : v.ownBlock = v2.ownBlock ∨ v.ownBlock = some W.heap.size) :
    Lw w (W1.setCell ⟨g8, 2, none⟩ v) g5 g8 g11 L v1 v v3 (n + 1) := by
  obtain ⟨ys, hx⟩ := h.r2
  have hne : ∀ (g : Nat) (o : Obj), W.heap[g]? = some o → (∀ c, o ≠ .cells c 34 (0, 0)) → some g ≠ v2.ownBlock := fun g o hb ho e => row_other hx hb ho e.symm
  have hB1 : Below w.heap.size w W1 := h.below.grown hg h.below.size (fun k e => by have := (hx.lt k e).1; omega)
  have hd : ∀ v0 : Value, (∀ k, v2.ownBlock = some k → v0.ownBlock ≠ some k) → v0.ownBlock = none ∨ v0.ownBlock ≠ v2.ownBlock := fun v0 h0 => by
    cases h9 : v0.ownBlock with
    | none => exact .inl rfl
    | some k => exact .inr (fun e => h0 k e.symm h9)
  have b5 := (hg.block _ (blk_lt h.b5) (hne _ _ h.b5 (by simp))).trans h.b5
  have b8 := (hg.block _ (blk_lt h.b8) (hne _ _ h.b8 (by simp))).trans h.b8
  have b11 := (hg.block _ (blk_lt h.b11) (hne _ _ h.b11 (by simp))).trans h.b11
  have r1 := h.r1.kept hg (hd _ h.a1)
  have r3 := h.r3.kept hg (hd _ h.a3)
  have hk : KeepBut W1 (W1.setCell ⟨g8, 2, none⟩ v) g8 none := KeepBut.set_ (KeepBut.refl _ _ _) _ _
  have hn : ∀ v : Value, v.ownBlock = none ∨ v.ownBlock ≠ none := fun v => by cases v.ownBlock <;> simp
  have ap : ∀ v0 : Value, (∀ k, v0.ownBlock = some k → k < W.heap.size) → (∀ k, v2.ownBlock = some k → v0.ownBlock ≠ some k) → ∀ k, v.ownBlock = some k → v0.ownBlock ≠ some k := fun v0 hl h0 k hk e => by
    rcases ho with ho | ho
    · exact h0 k (ho ▸ hk) e
    · rw [ho] at hk
      have := hl k e
      simp only [Option.some.injEq] at hk
      omega
  exact ⟨hB1.setCell h.p8 _, h.p5, h.p8, h.p11, h.n58, h.n811, hk.blk b5 h.n58 (by simp), blk_put b8 2 _ rfl, hk.blk b11 h.n811 (by simp),
    hk.own r1 (row_other r1 b8 (by simp)) (hn _), hk.own r3 (row_other r3 b8 (by simp)) (hn _), ⟨_, hk.own hr (row_other hr b8 (by simp)) (hn _)⟩,
    ap v1 (fun k e => (h.r1.lt k e).2) h.a1, ap v3 (fun k e => (h.r3.lt k e).2) h.a3⟩
/-- Behind the four calls. -/
theorem Lw.mk4 {w W1 W2 W3 W4 : World} {L : Ln} {v1 v2 v3 : Value} {o1 o2 o3 : Obj} (ho1 : o1 = .cells #[.string ⟨L.cmd.toArray⟩, .string ⟨L.name.toArray⟩, v1] 25 (0, 0)) (ho2 : o2 = .cells #[.string ⟨L.cmd.toArray⟩, .string ⟨L.name.toArray⟩, v2] 25 (0, 0)) (ho3 : o3 = .cells #[.string ⟨L.cmd.toArray⟩, .string ⟨L.name.toArray⟩, v3] 25 (0, 0))
    (hb1 : Below w.heap.size w W1) (hr1 : W1.ownsRow w.heap.size 34 2 v1 L.opts.length (oc L.opts))
    (hb2 : Below (W1.alloc o1).heap.size (W1.alloc o1) W2) (hr2 : W2.ownsRow (W1.alloc o1).heap.size 34 2 v2 L.opts.length (oc L.opts))
    (hb3 : Below (W2.alloc o2).heap.size (W2.alloc o2) W3) (hr3 : W3.ownsRow (W2.alloc o2).heap.size 34 2 v3 L.opts.length (oc L.opts))
    (hb4 : Below (W3.alloc o3).heap.size (W3.alloc o3) W4) : Lw w W4 W1.heap.size W2.heap.size W3.heap.size L v1 v2 v3 L.opts.length ∧ W4.ownsRow w.heap.size 34 2 v2 L.opts.length (oc L.opts) := by
  have s1 := hb1.size
  have s2 := hb2.size
  have s3 := hb3.size
  have s4 := hb4.size
  rw [World.size_alloc] at s2 s3 s4
  have hn : ∀ v : Value, v.ownBlock = none ∨ v.ownBlock ≠ none := fun v => by cases v.ownBlock <;> simp
  have mv : ∀ {V V' : World}, Below V.heap.size V V' → V.grownBy V' none := fun hb => ⟨hb.os, hb.tape, hb.output, hb.size, fun k hk _ => hb.block k hk⟩
  have c5 := blk_new W1 o1
  have c5' := (hb2.block _ (blk_lt c5)).trans c5
  have c5a := blk_alloc c5' o2
  have c5b := (hb3.block _ (blk_lt c5a)).trans c5a
  have c5c := blk_alloc c5b o3
  have c5d := (hb4.block _ (blk_lt c5c)).trans c5c
  have c8 := blk_new W2 o2
  have c8' := (hb3.block _ (blk_lt c8)).trans c8
  have c8a := blk_alloc c8' o3
  have c8b := (hb4.block _ (blk_lt c8a)).trans c8a
  have c11 := blk_new W3 o3
  have c11' := (hb4.block _ (blk_lt c11)).trans c11
  have R1 := ((((hr1.alloc o1).kept (mv hb2) (hn _)).alloc o2).kept (mv hb3) (hn _))
  have R1' := (R1.alloc o3).kept (mv hb4) (hn _)
  have R2 := (((hr2.alloc o2).kept (mv hb3) (hn _)).alloc o3).kept (mv hb4) (hn _)
  have R3 := (hr3.alloc o3).kept (mv hb4) (hn _)
  have hB : Below w.heap.size w W4 := ((((((hb1.alloc (Nat.le_trans s1 (Nat.le_refl _)) o1).trans (hb2.mono (by simp; omega))).alloc (by omega) o2).trans (hb3.mono (by simp; omega))).alloc (by omega) o3).trans (hb4.mono (by simp; omega)))
  subst ho1 ho2 ho3
  rw [World.size_alloc] at R2 R3
  exact ⟨⟨hB, by omega, by omega, by omega, by omega, by omega, c5d, c8b, c11', R1', R3.mono (by omega), ⟨_, R2.mono (by omega)⟩,
    fun k e e1 => by
      have h1 := (hr1.lt k e1).2
      have h2 := (hr2.lt k e).1
      rw [World.size_alloc] at h2
      omega,
    fun k e e3 => by
      have h2 := (hr2.lt k e).2
      have h3 := (hr3.lt k e3).1
      rw [World.size_alloc] at h3
      omega⟩, R2.mono (by omega)⟩
end Go.Proofs.Ytkoldjmhcifpjaa.lawb
/-! ## LawC -/
namespace Go.Proofs.Ytkoldjmhcifpjaa.lawc
open Go Go.RowKit Go.Proofs.Ytkoldjmhcifpjaa.parsep Go.Proofs.Ytkoldjmhcifpjaa.reada Go.Proofs.Ytkoldjmhcifpjaa.readi Go.Proofs.Ytkoldjmhcifpjaa.readp Go.Proofs.Ytkoldjmhcifpjaa.optrow Go.Proofs.Ytkoldjmhcifpjaa.lawa Go.Proofs.Ytkoldjmhcifpjaa.lawb Go.Proofs.Ytkoldjmhcifpjaa.PShellReads Go.Proofs.YtkoldjmhcifpjaaW.PrintWords
set_option linter.unusedVariables false
set_option linter.unusedSimpArgs false
set_option maxHeartbeats 2000000 in
set_option maxRecDepth 100000 in
theorem reads_walk (s t : ByteArray) (w : World) : Calls Try.prog 4 #[.string s, .string t] w fun e w' => e = .returned (.bool true) ∧ Below w.heap.size w w' := by
  obtain ⟨L, cd, pl, hR⟩ : ∃ L cd pl, resOf s = (L, cd, pl) := ⟨_, _, _, rfl⟩
  obtain ⟨L2, cd2, pl2, hR2⟩ : ∃ L cd pl, resOf t = (L, cd, pl) := ⟨_, _, _, rfl⟩
  have hbd := res_bd hR
  have HR := Aside0.mk hR
  have HR2 := Aside0.mk hR2
  clear hR hR2
  go_enter Try.func4, Try.ntmps4
  go_wp2_with (first | (go_at_call 6; refine (ref_u s _ L cd pl HR.out).mono ?_; rintro e W1 ⟨A1, c1, rfl, hb1, hr1⟩) | fail)
  refine (parse_u s _ L cd pl HR.out).mono ?_
  rintro e W2 ⟨A2, c2, rfl, hb2, hr2⟩
  go_wp2_with fail
  refine (parse_u s _ L cd pl HR.out).mono ?_
  rintro e W3 ⟨A3, c3, rfl, hb3, hr3⟩
  go_wp2_with fail
  refine (parse_u t _ L2 cd2 pl2 HR2.out).mono ?_
  rintro e W4 ⟨A4, c4, rfl, hb4, hr4⟩
  obtain ⟨hL, r2l⟩ := Lw.mk4 rfl rfl rfl hb1 hr1 hb2 hr2 hb3 hr3 hb4
  have HR2L := Aside0.mk r2l
  clear r2l
  clear hb1 hb2 hb3 hb4 hr1 hr2 hr3 hr4
  generalize W1.heap.size = g5 at *
  generalize W2.heap.size = g8 at *
  generalize W3.heap.size = g11 at *
  have c50 : W4.cell? ⟨g5, 0, none⟩ = some (.string ⟨L.cmd.toArray⟩) := (blk_cell hL.b5 0).trans rfl
  have c51 : W4.cell? ⟨g5, 1, none⟩ = some (.string ⟨L.name.toArray⟩) := (blk_cell hL.b5 1).trans rfl
  have c52 : W4.cell? ⟨g5, 2, none⟩ = some (.slice A1 L.opts.length c1) := (blk_cell hL.b5 2).trans rfl
  have c80 : W4.cell? ⟨g8, 0, none⟩ = some (.string ⟨L.cmd.toArray⟩) := (blk_cell hL.b8 0).trans rfl
  have c81 : W4.cell? ⟨g8, 1, none⟩ = some (.string ⟨L.name.toArray⟩) := (blk_cell hL.b8 1).trans rfl
  have c82 : W4.cell? ⟨g8, 2, none⟩ = some (.slice A2 L.opts.length c2) := (blk_cell hL.b8 2).trans rfl
  have HL := Aside0.mk hL
  clear hL
  go_wp2_with fail
  refine (same_call L hbd HR2L.out HL.out.r1).mono ?_
  rintro e W5 ⟨rfl, hb5⟩
  have hL5 := HL.out.step hb5
  have c50 : W5.cell? ⟨g5, 0, none⟩ = some (.string ⟨L.cmd.toArray⟩) := (blk_cell hL5.b5 0).trans rfl
  have c51 : W5.cell? ⟨g5, 1, none⟩ = some (.string ⟨L.name.toArray⟩) := (blk_cell hL5.b5 1).trans rfl
  have c52 : W5.cell? ⟨g5, 2, none⟩ = some (.slice A1 L.opts.length c1) := (blk_cell hL5.b5 2).trans rfl
  have d0 : W5.cell? ⟨g11, 0, none⟩ = some (.string ⟨L.cmd.toArray⟩) := (blk_cell hL5.b11 0).trans rfl
  have d1 : W5.cell? ⟨g11, 1, none⟩ = some (.string ⟨L.name.toArray⟩) := (blk_cell hL5.b11 1).trans rfl
  have d2 : W5.cell? ⟨g11, 2, none⟩ = some (.slice A3 L.opts.length c3) := (blk_cell hL5.b11 2).trans rfl
  have HL5 := Aside0.mk hL5
  clear hL5 hb5
  go_wp2_with fail
  refine (same_call L hbd HL5.out.r3 HL5.out.r1).mono ?_
  rintro e W6 ⟨rfl, hb6⟩
  have hL6 := HL5.out.step hb6
  have HL6 := Aside0.mk hL6
  clear hL6 hb6
  go_wp2_with fail
  refine (num_call cd _).mono ?_
  rintro e w' ⟨rfl, m7, rfl⟩
  have HL7 := Aside0.mk (HL6.out.drewN m7)
  go_wp2_with fail
  go_loopg [14] (L.opts.length + 1) (fun kq v14 wr => ∃ i : Nat, Aside0 (v14 = .int .i64 (i : Int)) ∧ Aside0 (i ≤ L.opts.length ∧ kq + i = L.opts.length + 1) ∧ Aside0 (Lw w wr g5 g8 g11 L (.slice A1 L.opts.length c1) (.slice A2 L.opts.length c2) (.slice A3 L.opts.length c3) L.opts.length))
  case atStart => exact ⟨0, ⟨rfl⟩, ⟨by omega⟩, HL7⟩
  case round =>
    obtain ⟨i, H14, HI, HW⟩ := hrel
    obtain rfl := H14.out
    obtain ⟨hin, hk⟩ := HI.out
    have HK := Aside0.mk hk
    clear hk
    by_cases hi : i < L.opts.length
    · obtain ⟨ga, cap, hA, hga⟩ : ∃ ga cap, (Value.slice A2 L.opts.length c2) = .slice (some ⟨ga, 0, none⟩) L.opts.length cap ∧ True := by
        obtain ⟨xs, hx⟩ := HW.out.r2
        obtain ⟨g, cap, e, _⟩ := hx.form (by omega)
        exact ⟨g, cap, e, trivial⟩
      have hW' : Lw w wr g5 g8 g11 L (.slice A1 L.opts.length c1) (.slice (some ⟨ga, 0, none⟩) L.opts.length cap) (.slice A3 L.opts.length c3) L.opts.length := hA ▸ HW.out
      have c82 : wr.cell? ⟨g8, 2, none⟩ = some (.slice (some ⟨ga, 0, none⟩) L.opts.length cap) := (blk_cell hW'.b8 2).trans rfl
      have fr : ∀ j, wr.frozen? ⟨ga, j, none⟩ = false := fun j => by obtain ⟨xs, hx⟩ := hW'.r2; exact hx.frozenAt j
      obtain ⟨u0, e0⟩ : ∃ u, wr.cell? ⟨ga, i * 2, none⟩ = some u := by
        obtain ⟨xs, hx⟩ := hW'.r2
        have hl := hx.1
        exact ⟨xs[i * 2]'(by omega), (hx.cellAt (i * 2) (by omega)).trans (List.getElem?_eq_getElem (by omega))⟩
      obtain ⟨u1, e1⟩ : ∃ u, wr.cell? ⟨ga, i * 2 + 1, none⟩ = some u := by
        obtain ⟨xs, hx⟩ := hW'.r2
        have hl := hx.1
        exact ⟨xs[i * 2 + 1]'(by omega), (hx.cellAt (i * 2 + 1) (by omega)).trans (List.getElem?_eq_getElem (by omega))⟩
      have HA := Aside0.mk hA
      have HW' := Aside0.mk hW'
      clear hA hW' hga
      go_wp2_with fail
      go_roundg (L.opts.length - i)
      case rel => exact ⟨i + 1, ⟨by go_num⟩, ⟨by omega, by omega⟩, ⟨by rw [HA.out]; exact (HW'.out.store _ _).store _ _⟩⟩
      case measure => have := HK.out; omega
    · have c82 : wr.cell? ⟨g8, 2, none⟩ = some (.slice A2 L.opts.length c2) := (blk_cell HW.out.b8 2).trans rfl
      go_wp2_with fail
      have HW1 := Aside0.mk HW.out
      clear c82 HK HW
      go_loopg [15] 31 (fun kq v15 wr => ∃ (i : Nat) (v2 : Value), Aside0 (v15 = .int .i64 (i : Int)) ∧ Aside0 (i ≤ 30 ∧ kq + i = 31) ∧ Aside0 (Lw w wr g5 g8 g11 L (.slice A1 L.opts.length c1) v2 (.slice A3 L.opts.length c3) (L.opts.length + i)))
      case atStart => exact ⟨0, _, ⟨rfl⟩, ⟨by omega⟩, HW1⟩
      case round =>
        obtain ⟨k, v2, H15, HI2, HW2⟩ := hrel
        obtain rfl := H15.out
        obtain ⟨hkn, hk2⟩ := HI2.out
        have HK2 := Aside0.mk hk2
        clear hk2
        obtain ⟨xs, hx⟩ := HW2.out.r2
        obtain ⟨Ax, cx, rfl⟩ := row_len hx
        have HX := Aside0.mk hx
        clear hx
        have c82 := (blk_cell HW2.out.b8 2).trans (show _ = some (Value.slice Ax (L.opts.length + k) cx) from rfl)
        by_cases hk30 : k < 30
        · obtain ⟨i0, hi0, hz0, hz1, hz2⟩ := info_parts info34
          have hmx : (4200 : Nat) ≤ maxLen := by decide
          have HMX := Aside0.mk hmx
          clear hmx
          go_wp2_with (first | (at_builtin; refine wpList_append_own_at _ rfl (.tmp 74) (.tmp 76) 23 rfl w.heap.size 34 i0 (.agg #[(.string ⟨#[]⟩), (.string ⟨#[]⟩)]) 2 32 Try.underlying23 hi0 hz0 hz1 hz2 rfl (by decide) (.slice Ax (L.opts.length + k) cx) (L.opts.length + k) xs rfl (HX.out.alloc _) ⟨wr.heap.size, 0, none⟩ 1 1 [.string ⟨#[109, 111, 114, 101]⟩, .string ⟨#[]⟩] rfl rfl (cell_two_new _ _ _ _) (by simp [Value.oneCell']) (by have := HMX.out; omega) (by omega) (by have := HW2.out.below.size; simp; omega) ?_; intro v1 w1 hown1 hgrow1 hn1 ho1; clear hn1; have hstep := HW2.out.step ((Below.refl _ wr).alloc (Nat.le_refl _) (.cells #[.string ⟨#[109, 111, 114, 101]⟩, .string ⟨#[]⟩] 34)); have HM := Aside0.mk (Lw.more hstep hgrow1 hown1 ho1); have gb := (hgrow1.block _ (blk_lt hstep.b8) (fun e => row_other (HX.out.alloc _) hstep.b8 (by simp) e.symm)).trans hstep.b8; obtain ⟨g1, cap1, rfl⟩ := ownsRow_succ hown1; have d2 : w1.cell? ⟨g8, 2, none⟩ = some (.slice Ax (L.opts.length + k) cx) := (blk_cell gb 2).trans rfl; have e2 : w1.frozen? ⟨g8, 2, none⟩ = false := blk_frozen gb 2; clear gb hown1 hgrow1 hstep ho1) | fail)
          go_roundg (30 - k)
          case rel => exact ⟨k + 1, _, ⟨by go_num⟩, ⟨by omega, by omega⟩, HM⟩
          case measure => have := HK2.out; omega
        · have hw5 := HW2.out
          have c50 : wr.cell? ⟨g5, 0, none⟩ = some (.string ⟨L.cmd.toArray⟩) := (blk_cell hw5.b5 0).trans rfl
          have c51 : wr.cell? ⟨g5, 1, none⟩ = some (.string ⟨L.name.toArray⟩) := (blk_cell hw5.b5 1).trans rfl
          have c52 : wr.cell? ⟨g5, 2, none⟩ = some (.slice A1 L.opts.length c1) := (blk_cell hw5.b5 2).trans rfl
          have d0 : wr.cell? ⟨g11, 0, none⟩ = some (.string ⟨L.cmd.toArray⟩) := (blk_cell hw5.b11 0).trans rfl
          have d1 : wr.cell? ⟨g11, 1, none⟩ = some (.string ⟨L.name.toArray⟩) := (blk_cell hw5.b11 1).trans rfl
          have d2 : wr.cell? ⟨g11, 2, none⟩ = some (.slice A3 L.opts.length c3) := (blk_cell hw5.b11 2).trans rfl
          clear hw5
          go_wp2_with fail
          refine (same_call L hbd HW2.out.r3 HW2.out.r1).mono ?_
          rintro e W8 ⟨rfl, hb8⟩
          have hL8 := HW2.out.step hb8
          have c83 : W8.cell? ⟨g8, 2, none⟩ = some (.slice Ax (L.opts.length + k) cx) := (blk_cell hL8.b8 2).trans rfl
          have HL8 := Aside0.mk hL8
          clear hL8 hb8
          go_wp2_with fail
          go_ret
          exact ⟨by rw [decide_eq_true (by omega : (30 : Int) ≤ (L.opts.length : Int) + (k : Int))]; rfl, HL8.out.below⟩
end Go.Proofs.Ytkoldjmhcifpjaa.lawc
/-! ## LawShellReads -/
namespace Go.Proofs.Ytkoldjmhcifpjaa.shellReads
open Go.ChangeShapes Go.WideShapes Go.ChangeAt Go.RowKit
open Go.ChangeMaps (open_string shut_string)
set_option linter.unusedVariables false
theorem own : ownKnob Try.prog.godebug = none := by kernel_rfl
theorem contract (H : Type) (enc : TypeId × Value → H) (W : World) (base : Nat) (args : Array Value) (ds gs : List (DataW H)) (before : List MemPlace)
    (hval : ∀ (j : Nat) t v, Try.f4.params[j]? = some t → args[j]? = some v → Value.okWide Try.prog W .any base t v)
    (hW : DataW.Whole enc Try.prog Try.f4.params.toList Rows.shellReadsSpec.vars false W args.toList ds gs before) :
    Calls Try.prog 4 args W fun e W' => ∃ v, e = .returned v ∧ Rows.shellReadsSpec.post enc Try.prog Try.f4 false true false false W args v W' := by
  have hW' := hW
  obtain ⟨p, q, hA0, hV, rfl, hfz, hnd⟩ := hW
  have hA : DataW.TrodAll enc Try.prog W 0 (fun _ => true) true Try.f4.params.toList args.toList ds p := hA0
  rw [Try.params4] at hA hval
  obtain ⟨v0, vs0, d0, ds0, p0, q0, hargs, rfl, rfl, h0, r0⟩ := trodAll_cons hA
  obtain ⟨v1, vs1, d1, ds1, p1, q1, rfl, rfl, rfl, h1, r1⟩ := trodAll_cons r0
  obtain ⟨rfl, rfl, rfl⟩ := trodAll_nil r1
  obtain rfl : args = #[v0, v1] := by cases args; simp_all
  obtain ⟨rfl, rfl⟩ := trodVars_none hV
  obtain ⟨a0, rfl, rfl, rfl, y0⟩ := open_string Try.underlying9 (hval 0 9 v0 rfl rfl) h0
  obtain ⟨a1, rfl, rfl, rfl, y1⟩ := open_string Try.underlying9 (hval 1 9 v1 rfl rfl) h1
  clear hA0
  refine (lawc.reads_walk a0 a1 W).mono fun e W' ⟨he, bel⟩ => ?_
  subst he
  exact ⟨_, rfl, _, _, _, [], _, [], hW', trodAll_mk1 (shut_bool Try.underlying4 _), (trodAll_cons_mk (shut_string Try.underlying9 y0) (trodAll_cons_mk (shut_string Try.underlying9 y1) trodAll_mk0)), rfl, bel.frame _, fun h => by cases h⟩
set_option maxRecDepth 100000 in
theorem lifted (os : Os) (started : os.Started) (H : Type) (enc : TypeId × Value → H) :
    ReturnsInHanded {} Try.checked os 4 .any (Rows.shellReadsSpec.pre6 enc Try.prog Try.f4 Rows.shellReadsRow.domain false) (Rows.shellReadsSpec.post enc Try.prog Try.f4 false true false false) := by
  refine returnsInHanded_of_change (C := Try.checked) own started (by kernel_rfl) Try.func4
    (ChangeSpec.witness6 (enc := enc) (C := Try.checked) false ⟨#[], #[.string ByteArray.empty, .string ByteArray.empty], []⟩ 8 (by kernel_rfl) (by kernel_rfl) (by kernel_rfl) (by kernel_rfl)) ?_
  intro W base args ds gs before hval hW hcnd _
  exact contract H enc W base args ds gs before hval hW
theorem proved : Rows.ShellReadsSaid :=
  OpenClaim.holds_of_wide 4 Try.f4 rfl rfl rfl rfl rfl rfl rfl ⟨rfl, rfl, rfl, rfl, rfl⟩ rfl rfl rfl rfl rfl (by kernel_rfl) Try.func4 (by kernel_rfl)
    (of_decide_eq_true (by kernel_rfl)) (by unfold Func.isWrapper; first | (rw [if_pos (by decide +kernel)]; kernel_rfl) | (rw [if_neg (by decide +kernel)]; exact ⟨rfl, rfl⟩))
    (fun os started H enc _ => lifted os started H enc)
#print axioms proved
end Go.Proofs.Ytkoldjmhcifpjaa.shellReads
