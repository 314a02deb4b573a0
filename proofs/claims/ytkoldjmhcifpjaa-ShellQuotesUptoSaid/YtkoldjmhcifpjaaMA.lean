/- The reader of a line: what lies here; the end; giving up. The reader of a line: letters. The reader of a line: a word. The reader of a line: on to the next field. (Merged by merge.py.) -/
import Derived.Test.YtkoldjmhcifpjaaParsePlain
import Derived.Test.YtkoldjmhcifpjaaPShellReadsx2
import Derived.WalkKit
import Derived.WalkLawsBesides
import Derived.Deep.LoopGhost
import Derived.BigQuiet
import Derived.Deep.QuietTactic
/-! ## ReadA -/
namespace Go.Proofs.Ytkoldjmhcifpjaa.reada
open Go Go.RowKit Go.Proofs.Ytkoldjmhcifpjaa.parsep Go.Proofs.Ytkoldjmhcifpjaa.PShellReads Go.Proofs.YtkoldjmhcifpjaaW.PrintWords
set_option linter.unusedVariables false
set_option linter.unusedSimpArgs false
def hd (l : Bs) : UInt8 := l.head?.getD 0
/-- The reader at block g: the line s, the place a, the bytes l from there on. -/
structure RdS (w0 W : World) (g : Nat) (s : ByteArray) (a : Nat) (l : Bs) : Prop where
  st : IsS44 w0 W g s (a : Int)
  below : Below w0.heap.size w0 W
  rest : s.data.toList.drop a = l
  le : a + l.length = s.size
  small : s.size ≤ 4096
theorem bt_cons {s : ByteArray} {a : Nat} {c : UInt8} {t : Bs} (h : s.data.toList.drop a = c :: t) : bt s (a : Int) = (c.toNat : Int) := by
  have hl : a < s.data.toList.length := by
    rcases Nat.lt_or_ge a s.data.toList.length with h1 | h1
    · exact h1
    · rw [List.drop_eq_nil_of_le h1] at h
      cases h
  have e : s.data.toList[a] = c := by
    have := List.drop_eq_getElem_cons hl
    rw [h] at this
    injection this with h1 _
    exact h1.symm
  have hs : a < s.size := by simpa using hl
  unfold bt
  rw [Int.toNat_natCast, dif_pos hs]
  have e2 : s[a] = s.data.toList[a] := by simp [ByteArray.getElem_eq_getElem_data]
  rw [e2, e]
theorem RdS.tail {w0 W : World} {g : Nat} {s : ByteArray} {a : Nat} {c : UInt8} {t : Bs} (h : RdS w0 W g s a (c :: t)) {W1 : World} (hs : IsS44 w0 W1 g s ((a + 1 : Nat) : Int)) (hb : Below w0.heap.size w0 W1) : RdS w0 W1 g s (a + 1) t :=
  ⟨hs, hb, by rw [← List.drop_drop, h.rest]; rfl, by have := h.le; simp at this; omega, h.small⟩
theorem RdS.to {w0 W W1 : World} {g : Nat} {s : ByteArray} {a : Nat} {l : Bs} (h : RdS w0 W g s a l) (hs : IsS44 w0 W1 g s (a : Int)) (hb : Below w0.heap.size w0 W1) : RdS w0 W1 g s a l := ⟨hs, hb, h.rest, h.le, h.small⟩
theorem RdS.c0 {w0 W : World} {g : Nat} {s : ByteArray} {a : Nat} {l : Bs} (h : RdS w0 W g s a l) : W.cell? ⟨g, 0, none⟩ = some (.string s) := (blk_cell h.st.1 0).trans rfl
theorem RdS.c1 {w0 W : World} {g : Nat} {s : ByteArray} {a : Nat} {l : Bs} (h : RdS w0 W g s a l) : W.cell? ⟨g, 1, none⟩ = some (.int .i64 (a : Int)) := (blk_cell h.st.1 1).trans rfl
theorem RdS.f1 {w0 W : World} {g : Nat} {s : ByteArray} {a : Nat} {l : Bs} (h : RdS w0 W g s a l) : W.frozen? ⟨g, 1, none⟩ = false := blk_frozen h.st.1 1
theorem RdS.set {w0 W : World} {g : Nat} {s : ByteArray} {a : Nat} {l : Bs} (h : RdS w0 W g s a l) (b : Nat) : IsS44 w0 (W.setCell ⟨g, 1, none⟩ (.int .i64 (b : Int))) g s (b : Int) ∧ Below w0.heap.size w0 (W.setCell ⟨g, 1, none⟩ (.int .i64 (b : Int))) :=
  ⟨⟨blk_set h.st.1 1 _, h.st.2⟩, h.below.setCell h.st.2 _⟩
theorem look_call {w0 w : World} {g : Nat} {s : ByteArray} {a : Nat} {l : Bs} (h : RdS w0 w g s a l) : Calls Try.prog 29 #[.pointer (some ⟨g, 0, none⟩)] w fun e w' => e = .returned (.int .u8 ((hd l).toNat : Int)) ∧ RdS w0 w' g s a l ∧ KeepBut w w' g none := by
  have hf : shell_reader_look.f s (a : Int) = some (((hd l).toNat : Int), s, (a : Int)) := by
    unfold shell_reader_look.f
    have hle := h.le
    cases l with
    | nil =>
      rw [if_neg (by simp at hle; omega)]
      rfl
    | cons c t =>
      rw [if_pos (by simp at hle; omega), if_pos (by omega), bt_cons h.rest]
      rfl
  exact (shell_reader_look.calls g s a _ _ _ w0 w h.st h.below hf).mono fun e w' ⟨h1, h2, h3, h4⟩ => ⟨h1, h.to h2 h3, h4⟩
theorem blank_f (c : UInt8) : shell_isBlank.f (c.toNat : Int) = some (isBl c) := of_decide_eq_true (all_u8 (p := fun c => decide (shell_isBlank.f (c.toNat : Int) = some (isBl c))) (by decide +kernel) c)
theorem letter_f (c : UInt8) : shell_isLetter.f (c.toNat : Int) = some (isLet c) := of_decide_eq_true (all_u8 (p := fun c => decide (shell_isLetter.f (c.toNat : Int) = some (isLet c))) (by decide +kernel) c)
theorem digit_f (c : UInt8) : shell_isDigit.f (c.toNat : Int) = some (isDig c) := of_decide_eq_true (all_u8 (p := fun c => decide (shell_isDigit.f (c.toNat : Int) = some (isDig c))) (by decide +kernel) c)
theorem named_f (c : UInt8) : shell_isNamed.f (c.toNat : Int) = some (isNam c) := of_decide_eq_true (all_u8 (p := fun c => decide (shell_isNamed.f (c.toNat : Int) = some (isNam c))) (by decide +kernel) c)
theorem plain_f (c : UInt8) : shell_isPlain.f (c.toNat : Int) = some (isPl c) := of_decide_eq_true (all_u8 (p := fun c => decide (shell_isPlain.f (c.toNat : Int) = some (isPl c))) (by decide +kernel) c)
theorem over_call {w0 w : World} {g : Nat} {s : ByteArray} {a : Nat} {l : Bs} (h : RdS w0 w g s a l) : Calls Try.prog 28 #[.pointer (some ⟨g, 0, none⟩)] w fun e w' => e = .returned (.bool (over l)) ∧ RdS w0 w' g s a l ∧ KeepBut w w' g none := by
  have hf : shell_reader_over.f s (a : Int) = some (over l, s, (a : Int)) := by
    unfold shell_reader_over.f
    have hle := h.le
    cases l with
    | nil =>
      rw [if_pos (by simp at hle; omega)]
      rfl
    | cons c t =>
      rw [if_neg (by simp at hle; omega), if_pos (by omega), if_pos (by simp at hle; omega), bt_cons h.rest, blank_f]
      rfl
  exact (shell_reader_over.calls g s a _ _ _ w0 w h.st h.below hf).mono fun e w' ⟨h1, h2, h3, h4⟩ => ⟨h1, h.to h2 h3, h4⟩
theorem drawn_rd {w0 w w' : World} {g : Nat} {s : ByteArray} {a : Nat} {l : Bs} (h : RdS w0 w g s a l) (hd : Drawn0 w w') : RdS w0 w' g s a l ∧ KeepBut w w' g none := by
  obtain ⟨n, rfl⟩ := hd.out
  exact ⟨⟨⟨h.st.1, h.st.2⟩, ⟨h.below.os, h.below.tape, h.below.output, h.below.size, h.below.block⟩, h.rest, h.le, h.small⟩, ⟨Nat.le_refl _, fun _ _ _ _ => rfl⟩⟩
/-- Giving up at place q. -/
abbrev gaveUp (q : Nat) : Ending := .panicked [{ v := .iface 41 (.int .i64 (q : Int)), recovered := false }]
theorem fail_call {w0 w : World} {g : Nat} {s : ByteArray} {a : Nat} {l : Bs} (h : RdS w0 w g s a l) : Calls Try.prog 30 #[.pointer (some ⟨g, 0, none⟩)] w fun e w' => e = gaveUp a ∧ w' = w := by
  have k1 := h.c1
  clear h
  go_enter Try.func30, Try.ntmps30
  go_wp2
  exact ⟨rfl, rfl, rfl⟩
end Go.Proofs.Ytkoldjmhcifpjaa.reada
/-! ## ReadB -/
namespace Go.Proofs.Ytkoldjmhcifpjaa.readb
open Go Go.RowKit Go.Proofs.Ytkoldjmhcifpjaa.parsep Go.Proofs.Ytkoldjmhcifpjaa.reada Go.Proofs.Ytkoldjmhcifpjaa.PShellReads Go.Proofs.YtkoldjmhcifpjaaW.PrintWords
set_option linter.unusedVariables false
set_option linter.unusedSimpArgs false
/-- How a reading ends: given up at a place, or a text read, the reader behind it. -/
def EndsR (w0 w : World) (g : Nat) (s : ByteArray) (X : Except Nat (Bs × Bs × Nat)) (e : Ending) (w' : World) : Prop :=
  KeepBut w w' g none ∧ Below w0.heap.size w0 w' ∧ match X with | .error q => e = gaveUp q | .ok (x, r, q) => e = .returned (.string ⟨x.toArray⟩) ∧ RdS w0 w' g s q r
theorem keep_trans {w w1 w2 : World} {g : Nat} (h : KeepBut w w1 g none) (k : KeepBut w1 w2 g none) : KeepBut w w2 g none := h.trans k (.inl rfl)
theorem hd_let {r : Bs} (h : isLet (hd r) = true) : ∃ c t, r = c :: t ∧ isLet c = true := by
  cases r with
  | nil => exact absurd h (by decide)
  | cons c t => exact ⟨c, t, rfl, h⟩
theorem wrap_sub (a m : Nat) (h : a + m ≤ 4096) : wrap64 (((a + m : Nat) : Int) - (a : Int)) = (m : Int) := by unfold wrap64; omega
theorem span_app (f : UInt8 → Bool) : ∀ (k : Nat) (l : Bs), (span f k l).1 ++ (span f k l).2 = l
  | 0, l => rfl
  | k + 1, [] => rfl
  | k + 1, c :: t => by
    by_cases h : f c = true
    · simp only [span, h, if_true, List.cons_append]
      rw [span_app f k t]
    · simp [span, h]
theorem extract_eq (s : ByteArray) (a b : Nat) (x r : Bs) (h : s.data.toList.drop a = x ++ r) (hb : b = a + x.length) : s.extract a b = ⟨x.toArray⟩ := by
  apply ByteArray.ext
  rw [ByteArray.data_extract]
  apply Array.ext'
  rw [Array.toList_extract, List.extract_eq_take_drop, h, hb, Nat.add_sub_cancel_left, List.take_left]
theorem wrap_succ (b : Nat) (h : b ≤ 4096) : wrap64 ((b : Int) + 1) = ((b + 1 : Nat) : Int) := by unfold wrap64; omega
set_option maxHeartbeats 1000000 in
set_option maxRecDepth 100000 in
theorem letters_call {w0 w : World} {g : Nat} {s : ByteArray} {a : Nat} {l : Bs} (h : RdS w0 w g s a l) : Calls Try.prog 26 #[.pointer (some ⟨g, 0, none⟩)] w (EndsR w0 w g s (letters l a)) := by
  have k1 := h.c1
  have HR := Aside0.mk h
  clear h
  go_enter Try.func26, Try.ntmps26
  go_wp2_with fail
  clear k1
  go_loopg [] (l.length + 1) (fun kq wr => ∃ x r, Aside0 (span isLet 16 l = (x ++ (span isLet (16 - x.length) r).1, (span isLet (16 - x.length) r).2)) ∧ Aside0 (x.length ≤ 16) ∧ Aside0 (RdS w0 wr g s (a + x.length) r) ∧ Aside0 (KeepBut w wr g none) ∧ Aside0 (r.length < kq))
  case atStart => exact ⟨[], l, ⟨by simp⟩, ⟨by simp⟩, HR, ⟨KeepBut.refl _ _ _⟩, ⟨by omega⟩⟩
  case round =>
    obtain ⟨x, r, HS, HX, HRr, HK, HQ⟩ := hrel
    cases gk with
    | zero => exact absurd HQ.out (by omega)
    | succ k1 =>
      have hle := HRr.out.le
      have hsm := HRr.out.small
      have hws := wrap_sub a x.length (by omega)
      obtain ⟨m, hm⟩ : ∃ m, m = x.length := ⟨_, rfl⟩
      obtain ⟨b, hb⟩ : ∃ b, b = a + x.length := ⟨_, rfl⟩
      rw [← hb, ← hm] at hws
      by_cases hc : isLet (hd r) = true ∧ x.length < 16
      · have hlt : decide ((m : Int) < 16) = true := by rw [hm]; exact decide_eq_true (by omega)
        obtain ⟨c, t, rfl, hcl⟩ := hd_let hc.1
        have HM := Aside0.mk hm
        have HBB := Aside0.mk hb
        have HRb : Aside0 (RdS w0 wr g s b (c :: t)) := ⟨by rw [hb]; exact HRr.out⟩
        have HRb2 := Aside0.mk (show b ≤ 4096 by omega)
        clear hm hb hle hsm HRr
        go_wp2_with (first | (go_at_call 29; refine (look_call HRb.out).mono ?_; rintro e W1 ⟨rfl, hR1, hK1⟩; have HR1 := Aside0.mk hR1; have HK1 := Aside0.mk (keep_trans HK.out hK1); clear hR1 hK1 HRb HK) | (go_at_call 36; refine (shell_isLetter.calls _ true _ ((letter_f _).trans (by rw [hc.1]))).mono ?_; rintro e W2 ⟨rfl, hd2⟩; have HR2 := Aside0.mk (drawn_rd HR1.out hd2).1; have HK2 := Aside0.mk (keep_trans HK1.out (drawn_rd HR1.out hd2).2); have j1 := HR2.out.c1; have j2 := HR2.out.f1; clear hd2 HR1 HK1) | fail)
        have hw1 : wrap64 ((b : Int) + 1) = ((b + 1 : Nat) : Int) := wrap_succ b (by have := HRb2.out; omega)
        rw [hw1]
        go_roundg k1
        case measure => omega
        case rel =>
          refine ⟨x ++ [c], t, ⟨?_⟩, ⟨by simp; omega⟩, ⟨?_⟩, ⟨keep_trans HK2.out (KeepBut.set_ (KeepBut.refl _ _ _) _ _)⟩, ⟨by have := HQ.out; simp at this; omega⟩⟩
          · have hs := HS.out
            rw [sub_succ hc.2] at hs
            simp only [span, hcl, if_true] at hs
            rw [hs]
            simp
          · have hq := HR2.out.tail (HR2.out.set (b + 1)).1 (HR2.out.set (b + 1)).2
            have hbx : b + 1 = a + (x ++ [c]).length := by rw [HBB.out]; simp; omega
            rw [← hbx]
            exact hq
      · have hcase : isLet (hd r) = false ∨ (isLet (hd r) = true ∧ x.length = 16) := by
          cases hl : isLet (hd r)
          · exact .inl rfl
          · exact .inr ⟨rfl, by have := HX.out; have := not_and.1 hc hl; omega⟩
        have hspan : span isLet 16 l = (x, r) := by
          have e : span isLet (16 - x.length) r = ([], r) := by
            rcases hcase with h1 | ⟨_, h1⟩
            · cases r with
              | nil => cases 16 - x.length <;> rfl
              | cons c t =>
                cases 16 - x.length with
                | zero => rfl
                | succ k => simp [span, show isLet c = false from h1]
            · rw [h1]
              rfl
          have hs := HS.out
          rw [e] at hs
          simpa using hs
        have hlet : letters l a = if x = [] then .error a else .ok (x, r, b) := by
          unfold letters
          rw [hspan, hb]
        have HL := Aside0.mk hlet
        have HSP := Aside0.mk hspan
        have HM := Aside0.mk hm
        have HBB := Aside0.mk hb
        have HRb : Aside0 (RdS w0 wr g s b r) := ⟨by rw [hb]; exact HRr.out⟩
        have hab : a ≤ b := by omega
        have hbs : b ≤ s.size := by omega
        have heq : ((b : Int) == (a : Int)) = decide (x = []) := by
          cases x with
          | nil => simp [hb]
          | cons c t => simp [hb]; omega
        clear hle hsm HRr hspan hlet
        have hxr : s.data.toList.drop a = x ++ r := by
          rw [HR.out.rest]
          have := span_app isLet 16 l
          rw [HSP.out] at this
          exact this.symm
        have HX2 := Aside0.mk hxr
        clear hxr
        by_cases hx : x = []
        · have he : ((b : Int) == (a : Int)) = true := by rw [heq, decide_eq_true hx]
          have hl : isLet (hd r) = false := by
            rcases hcase with h | ⟨_, h⟩
            · exact h
            · rw [hx] at h
              simp at h
          have hb2 : b = a := by rw [hb, hx]; rfl
          clear hm hb heq hab hbs hcase
          subst hb2
          go_wp2_with (first | (go_at_call 29; refine (look_call HRb.out).mono ?_; rintro e W1 ⟨rfl, hR1, hK1⟩; have HR1 := Aside0.mk hR1; have HK1 := Aside0.mk (keep_trans HK.out hK1); clear hR1 hK1 HRb HK) | (go_at_call 36; refine (shell_isLetter.calls _ false _ ((letter_f _).trans (by rw [hl]))).mono ?_; rintro e W2 ⟨rfl, hd2⟩; have HR2 := Aside0.mk (drawn_rd HR1.out hd2).1; have HK2 := Aside0.mk (keep_trans HK1.out (drawn_rd HR1.out hd2).2); have j0 := HR2.out.c0; have j1 := HR2.out.c1; clear hd2 HR1 HK1) | (go_at_call 30; refine (fail_call HR2.out).mono ?_; rintro e W3 ⟨rfl, hW3⟩; rw [hW3]; clear hW3) | fail)
          refine ⟨rfl, HK2.out, HR2.out.below, ?_⟩
          have hl2 := HL.out
          rw [if_pos hx] at hl2
          rw [hl2]
        · have he : ((b : Int) == (a : Int)) = false := by rw [heq, decide_eq_false hx]
          have i0 : (0 : Int) ≤ (a : Int) := by omega
          have i1 : (a : Int) ≤ (b : Int) := by omega
          have i2 : (b : Int) ≤ (s.size : Int) := by omega
          rcases hcase with hl | ⟨hl, h16⟩
          · clear hm hb heq hab hbs
            go_upto_region 6 with (first | (go_at_call 29; refine (look_call HRb.out).mono ?_; rintro e W1 ⟨rfl, hR1, hK1⟩; have HR1 := Aside0.mk hR1; have HK1 := Aside0.mk (keep_trans HK.out hK1); clear hR1 hK1 HRb HK) | (go_at_call 36; refine (shell_isLetter.calls _ false _ ((letter_f _).trans (by rw [hl]))).mono ?_; rintro e W2 ⟨rfl, hd2⟩; have HR2 := Aside0.mk (drawn_rd HR1.out hd2).1; have HK2 := Aside0.mk (keep_trans HK1.out (drawn_rd HR1.out hd2).2); have j0 := HR2.out.c0; have j1 := HR2.out.c1; clear hd2 HR1 HK1) | fail)
            go_quiet (fail)
            go_wp2_with fail
            go_ret
            have hr := drawn_rd HR2.out ⟨⟨nq, rfl⟩⟩
            have hl2 := HL.out
            rw [if_neg hx] at hl2
            refine ⟨keep_trans HK2.out hr.2, hr.1.below, ?_⟩
            rw [hl2]
            exact ⟨by rw [extract_eq s a b x r HX2.out HBB.out]; rfl, hr.1⟩
          · have hlt : decide ((m : Int) < 16) = false := decide_eq_false (by omega)
            clear hm hb heq hab hbs h16
            go_upto_region 6 with (first | (go_at_call 29; refine (look_call HRb.out).mono ?_; rintro e W1 ⟨rfl, hR1, hK1⟩; have HR1 := Aside0.mk hR1; have HK1 := Aside0.mk (keep_trans HK.out hK1); clear hR1 hK1 HRb HK) | (go_at_call 36; refine (shell_isLetter.calls _ true _ ((letter_f _).trans (by rw [hl]))).mono ?_; rintro e W2 ⟨rfl, hd2⟩; have HR2 := Aside0.mk (drawn_rd HR1.out hd2).1; have HK2 := Aside0.mk (keep_trans HK1.out (drawn_rd HR1.out hd2).2); have j0 := HR2.out.c0; have j1 := HR2.out.c1; clear hd2 HR1 HK1) | fail)
            go_quiet (fail)
            go_wp2_with fail
            go_ret
            have hr := drawn_rd HR2.out ⟨⟨nq, rfl⟩⟩
            have hl2 := HL.out
            rw [if_neg hx] at hl2
            refine ⟨keep_trans HK2.out hr.2, hr.1.below, ?_⟩
            rw [hl2]
            exact ⟨by rw [extract_eq s a b x r HX2.out HBB.out]; rfl, hr.1⟩
end Go.Proofs.Ytkoldjmhcifpjaa.readb
/-! ## ReadC -/
namespace Go.Proofs.Ytkoldjmhcifpjaa.readc
open Go Go.RowKit Go.Proofs.Ytkoldjmhcifpjaa.parsep Go.Proofs.Ytkoldjmhcifpjaa.reada Go.Proofs.Ytkoldjmhcifpjaa.readb Go.Proofs.Ytkoldjmhcifpjaa.PShellReads Go.Proofs.YtkoldjmhcifpjaaW.PrintWords
set_option linter.unusedVariables false
set_option linter.unusedSimpArgs false
theorem hd_nam {r : Bs} (h : isNam (hd r) = true) : ∃ c t, r = c :: t ∧ isNam c = true := by
  cases r with
  | nil => exact absurd h (by decide)
  | cons c t => exact ⟨c, t, rfl, h⟩
theorem u8_inj {x y : UInt8} (e : (x.toNat : Int) = (y.toNat : Int)) : x = y := UInt8.toNat_inj.mp (by omega)
theorem hd_is (r : Bs) (n : Nat) (c : UInt8) (hc : c.toNat = n) (h0 : c ≠ 0) : (((hd r).toNat : Int) == (n : Int)) = decide (r.head? = some c) := by
  subst hc
  cases r with
  | nil =>
    have : ¬ ((hd []).toNat : Int) = (c.toNat : Int) := fun e => h0 (u8_inj e).symm
    rw [beq_eq_false_iff_ne.mpr this]
    rfl
  | cons x t =>
    by_cases hx : x = c
    · subst hx; simp [hd]
    · have : ¬ ((hd (x :: t)).toNat : Int) = (c.toNat : Int) := fun e => hx (u8_inj e)
      rw [beq_eq_false_iff_ne.mpr this]
      simp [hx]
theorem letters_ok {l : Bs} {a : Nat} {x r : Bs} {q : Nat} (h : letters l a = .ok (x, r, q)) : l = x ++ r ∧ q = a + x.length ∧ x.length ≤ 16 ∧ x ≠ [] := by
  unfold letters at h
  split at h
  · cases h
  · rename_i hne
    injection h with h
    injection h with h1 h
    injection h with h2 h3
    subst h1 h2 h3
    exact ⟨(span_app isLet 16 l).symm, rfl, (span_len isLet 16 l).2, hne⟩
set_option maxHeartbeats 2000000 in
set_option maxRecDepth 100000 in
theorem word_call {w0 w : World} {g : Nat} {s : ByteArray} {a : Nat} {l : Bs} (h : RdS w0 w g s a l) : Calls Try.prog 27 #[.pointer (some ⟨g, 0, none⟩)] w (EndsR w0 w g s (word l a)) := by
  have k1 := h.c1
  have HR := Aside0.mk h
  have hc := letters_call h
  clear h
  go_enter Try.func27, Try.ntmps27
  cases hX : letters l a with
  | error q =>
    rw [hX] at hc
    have hw : word l a = .error q := by unfold word; rw [hX]
    rw [hw]
    have HC := Aside0.mk hc
    clear hc hX hw
    go_wp2_with (first | (go_at_call 26; refine HC.out.mono ?_; rintro e W1 ⟨hK, hB, rfl⟩) | fail)
    exact ⟨rfl, hK, hB, rfl⟩
  | ok y =>
    obtain ⟨x, r, q⟩ := y
    rw [hX] at hc
    obtain ⟨hl, hq, h16, hne⟩ := letters_ok hX
    have hw : word l a = if r.head? = some 61 then .ok (x, r, q) else named x r q := by unfold word; rw [hX]
    rw [hw]
    have HC := Aside0.mk hc
    have hh := hd_is r 61 61 rfl (by decide)
    have HQE := Aside0.mk hq
    have H16 := Aside0.mk h16
    have HLX := Aside0.mk hl
    clear hc hX hw hne hq h16 hl
    by_cases h61 : r.head? = some 61
    · rw [if_pos h61]
      rw [decide_eq_true h61] at hh
      have hh' : (((hd r).toNat : Int) == 61) = true := hh
      clear h61 hh
      go_wp2_with (first | (go_at_call 26; refine HC.out.mono ?_; rintro e W1 ⟨hK, hB, rfl, hR⟩; have HR1 := Aside0.mk hR; have HK1 := Aside0.mk hK; clear hK hB hR HC) | (go_at_call 29; refine (look_call HR1.out).mono ?_; rintro e W2 ⟨rfl, hR2, hK2⟩; have HR2 := Aside0.mk hR2; have HK2 := Aside0.mk (keep_trans HK1.out hK2); clear hR2 hK2) | fail)
      go_ret
      exact ⟨HK2.out, HR2.out.below, rfl, HR2.out⟩
    · rw [if_neg h61]
      rw [decide_eq_false h61] at hh
      have hh' : (((hd r).toNat : Int) == 61) = false := hh
      clear h61 hh
      go_wp2_with (first | (go_at_call 26; refine HC.out.mono ?_; rintro e W1 ⟨hK, hB, rfl, hR⟩; have HR1 := Aside0.mk hR; have HK1 := Aside0.mk hK; clear hK hB hR HC) | (go_at_call 29; refine (look_call HR1.out).mono ?_; rintro e W2 ⟨rfl, hR2, hK2⟩; have HR2 := Aside0.mk hR2; have HK2 := Aside0.mk (keep_trans HK1.out hK2); clear hR2 hK2 HR1 HK1) | fail)
      clear k1 hh'
      go_loopg [] (r.length + 1) (fun kq wr => ∃ y r', Aside0 (span isNam (16 - x.length) r = (y ++ (span isNam (16 - (x.length + y.length)) r').1, (span isNam (16 - (x.length + y.length)) r').2)) ∧ Aside0 (x.length + y.length ≤ 16) ∧ Aside0 (RdS w0 wr g s (a + (x.length + y.length)) r') ∧ Aside0 (KeepBut w wr g none) ∧ Aside0 (r'.length < kq))
      case atStart => exact ⟨[], r, ⟨by simp⟩, ⟨by simpa using H16.out⟩, ⟨by have := HQE.out; simp only [List.length_nil, Nat.add_zero]; rw [← this]; exact HR2.out⟩, HK2, ⟨by omega⟩⟩
      case round =>
        obtain ⟨y, r', HS, HX, HRr, HK, HQ⟩ := hrel
        cases gk with
        | zero => exact absurd HQ.out (by omega)
        | succ k1 =>
          have hle := HRr.out.le
          have hsm := HRr.out.small
          have hws := wrap_sub a (x.length + y.length) (by omega)
          obtain ⟨m, hm⟩ : ∃ m, m = x.length + y.length := ⟨_, rfl⟩
          obtain ⟨b, hb⟩ : ∃ b, b = a + (x.length + y.length) := ⟨_, rfl⟩
          rw [← hb, ← hm] at hws
          by_cases hc : isNam (hd r') = true ∧ x.length + y.length < 16
          · have hlt : decide ((m : Int) < 16) = true := by rw [hm]; exact decide_eq_true (by omega)
            obtain ⟨c, t, rfl, hcl⟩ := hd_nam hc.1
            have HM := Aside0.mk hm
            have HBB := Aside0.mk hb
            have HRb : Aside0 (RdS w0 wr g s b (c :: t)) := ⟨by rw [hb]; exact HRr.out⟩
            have HRb2 := Aside0.mk (show b ≤ 4096 by omega)
            clear hm hb hle hsm HRr HR2 HK2
            go_wp2_with (first | (go_at_call 29; refine (look_call HRb.out).mono ?_; rintro e W3 ⟨rfl, hR1, hK1⟩; have HR3 := Aside0.mk hR1; have HK3 := Aside0.mk (keep_trans HK.out hK1); clear hR1 hK1 HRb HK) | (go_at_call 37; refine (shell_isNamed.calls _ true _ ((named_f _).trans (by rw [hc.1]))).mono ?_; rintro e W4 ⟨rfl, hd2⟩; have HR4 := Aside0.mk (drawn_rd HR3.out hd2).1; have HK4 := Aside0.mk (keep_trans HK3.out (drawn_rd HR3.out hd2).2); have j1 := HR4.out.c1; have j2 := HR4.out.f1; clear hd2 HR3 HK3) | fail)
            have hw1 : wrap64 ((b : Int) + 1) = ((b + 1 : Nat) : Int) := wrap_succ b HRb2.out
            rw [hw1]
            go_roundg k1
            case measure => omega
            case rel =>
              refine ⟨y ++ [c], t, ⟨?_⟩, ⟨by simp; omega⟩, ⟨?_⟩, ⟨keep_trans HK4.out (KeepBut.set_ (KeepBut.refl _ _ _) _ _)⟩, ⟨by have := HQ.out; simp at this; omega⟩⟩
              · have hs := HS.out
                rw [sub_succ hc.2] at hs
                simp only [span, hcl, if_true] at hs
                rw [hs]
                simp [Nat.add_assoc]
              · have hq := HR4.out.tail (HR4.out.set (b + 1)).1 (HR4.out.set (b + 1)).2
                have hbx : b + 1 = a + (x.length + (y ++ [c]).length) := by rw [HBB.out]; simp; omega
                rw [← hbx]
                exact hq
          · have hcase : isNam (hd r') = false ∨ (isNam (hd r') = true ∧ x.length + y.length = 16) := by
              cases hl : isNam (hd r')
              · exact .inl rfl
              · exact .inr ⟨rfl, by have := HX.out; have := not_and.1 hc hl; omega⟩
            have hspan : span isNam (16 - x.length) r = (y, r') := by
              have e : span isNam (16 - (x.length + y.length)) r' = ([], r') := by
                rcases hcase with h1 | ⟨_, h1⟩
                · cases r' with
                  | nil => cases 16 - (x.length + y.length) <;> rfl
                  | cons c t =>
                    cases 16 - (x.length + y.length) with
                    | zero => rfl
                    | succ k => simp [span, show isNam c = false from h1]
                · rw [h1]
                  rfl
              have hs := HS.out
              rw [e] at hs
              simpa using hs
            have hnm : named x r q = if over r' then .ok (x ++ y, r', b) else .error b := by
              unfold named
              rw [hspan, hb, HQE.out, Nat.add_assoc]
            have hxr : s.data.toList.drop a = (x ++ y) ++ r' := by
              rw [HR.out.rest, HLX.out]
              have := span_app isNam (16 - x.length) r
              rw [hspan] at this
              rw [← this, List.append_assoc]
            have HX2 := Aside0.mk hxr
            have HBB : Aside0 (b = a + (x ++ y).length) := ⟨by rw [List.length_append]; exact hb⟩
            have HRb : Aside0 (RdS w0 wr g s b r') := ⟨by rw [hb]; exact HRr.out⟩
            have HNM := Aside0.mk hnm
            have i0 : (0 : Int) ≤ (a : Int) := by omega
            have i1 : (a : Int) ≤ (b : Int) := by omega
            have i2 : (b : Int) ≤ (s.size : Int) := by omega
            have hlt : x.length + y.length = 16 → decide ((m : Int) < 16) = false := fun h => decide_eq_false (by omega)
            clear hm hb hle hsm HRr hspan hnm hxr HR2 HK2
            cases ho : over r' with
            | false =>
              rcases hcase with hl | ⟨hl, h16⟩
              · clear hlt
                go_wp2_with (first | (go_at_call 29; refine (look_call HRb.out).mono ?_; rintro e W3 ⟨rfl, hR1, hK1⟩; have HR3 := Aside0.mk hR1; have HK3 := Aside0.mk (keep_trans HK.out hK1); clear hR1 hK1 HRb HK) | (go_at_call 37; refine (shell_isNamed.calls _ false _ ((named_f _).trans (by rw [hl]))).mono ?_; rintro e W4 ⟨rfl, hd2⟩; have HR4 := Aside0.mk (drawn_rd HR3.out hd2).1; have HK4 := Aside0.mk (keep_trans HK3.out (drawn_rd HR3.out hd2).2); have j1 := HR4.out.c1; clear hd2 HR3 HK3) | (go_at_call 28; refine (over_call HR4.out).mono ?_; rintro e W5 ⟨rfl, hR5, hK5⟩; rw [ho]; have HR5 := Aside0.mk hR5; have HK5 := Aside0.mk (keep_trans HK4.out hK5); clear j1; have j0 := HR5.out.c0; have j1 := HR5.out.c1; clear hR5 hK5 HR4 HK4) | (go_at_call 30; refine (fail_call HR5.out).mono ?_; rintro e W6 ⟨rfl, hW6⟩; rw [hW6]; clear hW6) | fail)
                exact ⟨rfl, HK5.out, HR5.out.below, by rw [HNM.out, ho]; rfl⟩
              · have hlt' := hlt h16
                clear hlt h16
                go_wp2_with (first | (go_at_call 29; refine (look_call HRb.out).mono ?_; rintro e W3 ⟨rfl, hR1, hK1⟩; have HR3 := Aside0.mk hR1; have HK3 := Aside0.mk (keep_trans HK.out hK1); clear hR1 hK1 HRb HK) | (go_at_call 37; refine (shell_isNamed.calls _ true _ ((named_f _).trans (by rw [hl]))).mono ?_; rintro e W4 ⟨rfl, hd2⟩; have HR4 := Aside0.mk (drawn_rd HR3.out hd2).1; have HK4 := Aside0.mk (keep_trans HK3.out (drawn_rd HR3.out hd2).2); have j1 := HR4.out.c1; clear hd2 HR3 HK3) | (go_at_call 28; refine (over_call HR4.out).mono ?_; rintro e W5 ⟨rfl, hR5, hK5⟩; rw [ho]; have HR5 := Aside0.mk hR5; have HK5 := Aside0.mk (keep_trans HK4.out hK5); clear j1; have j0 := HR5.out.c0; have j1 := HR5.out.c1; clear hR5 hK5 HR4 HK4) | (go_at_call 30; refine (fail_call HR5.out).mono ?_; rintro e W6 ⟨rfl, hW6⟩; rw [hW6]; clear hW6) | fail)
                exact ⟨rfl, HK5.out, HR5.out.below, by rw [HNM.out, ho]; rfl⟩
            | true =>
              rcases hcase with hl | ⟨hl, h16⟩
              · clear hlt
                go_upto_region 9 with (first | (go_at_call 29; refine (look_call HRb.out).mono ?_; rintro e W3 ⟨rfl, hR1, hK1⟩; have HR3 := Aside0.mk hR1; have HK3 := Aside0.mk (keep_trans HK.out hK1); clear hR1 hK1 HRb HK) | (go_at_call 37; refine (shell_isNamed.calls _ false _ ((named_f _).trans (by rw [hl]))).mono ?_; rintro e W4 ⟨rfl, hd2⟩; have HR4 := Aside0.mk (drawn_rd HR3.out hd2).1; have HK4 := Aside0.mk (keep_trans HK3.out (drawn_rd HR3.out hd2).2); have j1 := HR4.out.c1; clear hd2 HR3 HK3) | (go_at_call 28; refine (over_call HR4.out).mono ?_; rintro e W5 ⟨rfl, hR5, hK5⟩; rw [ho]; have HR5 := Aside0.mk hR5; have HK5 := Aside0.mk (keep_trans HK4.out hK5); clear j1; have j0 := HR5.out.c0; have j1 := HR5.out.c1; clear hR5 hK5 HR4 HK4) | fail)
                go_quiet (fail)
                go_wp2_with fail
                go_ret
                have hr := drawn_rd HR5.out ⟨⟨nq, rfl⟩⟩
                refine ⟨keep_trans HK5.out hr.2, hr.1.below, ?_⟩
                rw [HNM.out, ho, if_pos rfl]
                exact ⟨by rw [extract_eq s a b (x ++ y) r' HX2.out HBB.out]; rfl, hr.1⟩
              · have hlt' := hlt h16
                clear hlt h16
                go_upto_region 9 with (first | (go_at_call 29; refine (look_call HRb.out).mono ?_; rintro e W3 ⟨rfl, hR1, hK1⟩; have HR3 := Aside0.mk hR1; have HK3 := Aside0.mk (keep_trans HK.out hK1); clear hR1 hK1 HRb HK) | (go_at_call 37; refine (shell_isNamed.calls _ true _ ((named_f _).trans (by rw [hl]))).mono ?_; rintro e W4 ⟨rfl, hd2⟩; have HR4 := Aside0.mk (drawn_rd HR3.out hd2).1; have HK4 := Aside0.mk (keep_trans HK3.out (drawn_rd HR3.out hd2).2); have j1 := HR4.out.c1; clear hd2 HR3 HK3) | (go_at_call 28; refine (over_call HR4.out).mono ?_; rintro e W5 ⟨rfl, hR5, hK5⟩; rw [ho]; have HR5 := Aside0.mk hR5; have HK5 := Aside0.mk (keep_trans HK4.out hK5); clear j1; have j0 := HR5.out.c0; have j1 := HR5.out.c1; clear hR5 hK5 HR4 HK4) | fail)
                go_quiet (fail)
                go_wp2_with fail
                go_ret
                have hr := drawn_rd HR5.out ⟨⟨nq, rfl⟩⟩
                refine ⟨keep_trans HK5.out hr.2, hr.1.below, ?_⟩
                rw [HNM.out, ho, if_pos rfl]
                exact ⟨by rw [extract_eq s a b (x ++ y) r' HX2.out HBB.out]; rfl, hr.1⟩
end Go.Proofs.Ytkoldjmhcifpjaa.readc
/-! ## ReadD -/
namespace Go.Proofs.Ytkoldjmhcifpjaa.readd
open Go Go.RowKit Go.Proofs.Ytkoldjmhcifpjaa.parsep Go.Proofs.Ytkoldjmhcifpjaa.reada Go.Proofs.Ytkoldjmhcifpjaa.readb Go.Proofs.Ytkoldjmhcifpjaa.readc Go.Proofs.Ytkoldjmhcifpjaa.PShellReads Go.Proofs.YtkoldjmhcifpjaaW.PrintWords
set_option linter.unusedVariables false
set_option linter.unusedSimpArgs false
def nextR (l : Bs) (p : Nat) : Except Nat (Bool × Bs × Nat) :=
  match skip l with
  | [] => .ok (false, [], p + l.length)
  | c :: t => if c = 35 then (match comment (c :: t) (p + (l.length - (t.length + 1))) with | none => .ok (false, [], p + l.length) | some q => .error q) else .ok (true, c :: t, p + (l.length - (t.length + 1)))
def EndsB (w0 w : World) (g : Nat) (s : ByteArray) (X : Except Nat (Bool × Bs × Nat)) (e : Ending) (w' : World) : Prop :=
  KeepBut w w' g none ∧ Below w0.heap.size w0 w' ∧ match X with | .error q => e = gaveUp q | .ok (x, r, q) => e = .returned (.bool x) ∧ RdS w0 w' g s q r
theorem blankQ (c : UInt8) (W : World) : Calls Try.prog 38 #[.int .u8 (c.toNat : Int)] W fun e w' => e = .returned (.bool (isBl c)) ∧ ∃ m, w' = W.drewN m := (shell_isBlank.calls _ _ W (blank_f c)).mono fun e w' ⟨h1, h2⟩ => ⟨h1, h2.out⟩
theorem plainQ (c : UInt8) (W : World) : Calls Try.prog 20 #[.int .u8 (c.toNat : Int)] W fun e w' => e = .returned (.bool (isPl c)) ∧ ∃ m, w' = W.drewN m := (shell_isPlain.calls _ _ W (plain_f c)).mono fun e w' ⟨h1, h2⟩ => ⟨h1, h2.out⟩
theorem idx {s : ByteArray} {a : Nat} {c : UInt8} {t : Bs} (h : s.data.toList.drop a = c :: t) (hs : a < s.size) : s[a] = c := by
  have h1 := bt_cons h
  unfold bt at h1
  rw [Int.toNat_natCast, dif_pos hs] at h1
  exact u8_inj h1
theorem skip_suffix : ∀ (l : Bs), ∃ b, l = b ++ skip l
  | [] => ⟨[], rfl⟩
  | c :: t => by
    cases hb : isBl c
    · exact ⟨[], by simp [skip, hb]⟩
    · obtain ⟨b, hb2⟩ := skip_suffix t
      refine ⟨c :: b, ?_⟩
      simp only [skip, hb, if_true, List.cons_append]
      rw [← hb2]
set_option maxHeartbeats 2000000 in
set_option maxRecDepth 100000 in
theorem next_call {w0 w : World} {g : Nat} {s : ByteArray} {a : Nat} {l : Bs} (h : RdS w0 w g s a l) : Calls Try.prog 35 #[.pointer (some ⟨g, 0, none⟩)] w (EndsB w0 w g s (nextR l a)) := by
  have HR := Aside0.mk h
  have HA := Aside0.mk h.le
  clear h
  go_enter Try.func35, Try.ntmps35
  go_wp2_with fail
  go_loopg [] (l.length + 1) (fun kq wr => ∃ b r, Aside0 (skip l = skip r) ∧ Aside0 (l.length = b + r.length) ∧ Aside0 (RdS w0 wr g s (a + b) r) ∧ Aside0 (KeepBut w wr g none) ∧ Aside0 (r.length < kq))
  case atStart => exact ⟨0, l, ⟨rfl⟩, ⟨by omega⟩, HR, ⟨KeepBut.refl _ _ _⟩, ⟨by omega⟩⟩
  case round =>
    obtain ⟨b, r, HS, HL, HRr, HK, HQ⟩ := hrel
    cases gk with
    | zero => exact absurd HQ.out (by omega)
    | succ k1 =>
      obtain ⟨n, hn⟩ : ∃ n, n = a + b := ⟨_, rfl⟩
      have HRn : Aside0 (RdS w0 wr g s n r) := ⟨by rw [hn]; exact HRr.out⟩
      have HN := Aside0.mk hn
      have hle := HRn.out.le
      have hsm := HRn.out.small
      have j0 := HRn.out.c0
      have j1 := HRn.out.c1
      clear HRr hn
      cases r with
      | nil =>
        have hn2 : n = s.size := by simpa using hle
        have hlt : decide (n < s.size) = false := decide_eq_false (by omega)
        have hres : nextR l a = .ok (false, [], n) := by
          unfold nextR
          rw [HS.out]
          show (Except.ok (false, [], a + l.length) : Except Nat (Bool × Bs × Nat)) = _
          rw [HL.out, HN.out]
          rfl
        have HRES := Aside0.mk hres
        have h35 : (((hd []).toNat : Int) == 35) = false := rfl
        clear hle hsm hres hn2
        go_wp2_with fail
        go_quiet (fail)
        have hr := drawn_rd HRn.out ⟨⟨nq, rfl⟩⟩
        have HR2 := Aside0.mk hr.1
        have HK2 := Aside0.mk (keep_trans HK.out hr.2)
        have j0' := HR2.out.c0
        have j1' := HR2.out.c1
        clear hr j0 j1
        go_wp2_with (first | (go_at_call 29; refine (look_call HR2.out).mono ?_; rintro e W1 ⟨rfl, hR1, hK1⟩; have HR3 := Aside0.mk hR1; have HK3 := Aside0.mk (keep_trans HK2.out hK1); have j0 := HR3.out.c0; have j1 := HR3.out.c1; clear hR1 hK1 HR2 HK2 j0' j1') | fail)
        go_quiet (fail)
        go_wp2_with fail
        go_ret
        have hr := drawn_rd HR3.out ⟨⟨nq, rfl⟩⟩
        refine ⟨keep_trans HK3.out hr.2, hr.1.below, ?_⟩
        rw [HRES.out]
        exact ⟨rfl, hr.1⟩
      | cons c t =>
        have hs : n < s.size := by simp at hle; omega
        have hix := idx HRn.out.rest hs
        have i0 : (0 : Int) ≤ (n : Int) := by omega
        have i1 : (n : Int) < (s.size : Int) := by omega
        cases hb : isBl c with
        | true =>
          have hw1 : wrap64 ((n : Int) + 1) = ((n + 1 : Nat) : Int) := wrap_succ n (by omega)
          have HW := Aside0.mk hw1
          clear hle hsm hw1
          go_wp2_with fail
          go_quiet ((go_at_call 38; exact Calls.quiet_of (blankQ c _)))
          have hr := drawn_rd HRn.out ⟨⟨nq, rfl⟩⟩
          have HR2 := Aside0.mk hr.1
          have HK2 := Aside0.mk (keep_trans HK.out hr.2)
          have j0' := HR2.out.c0
          have j1' := HR2.out.c1
          have j2' := HR2.out.f1
          clear hr j0 j1
          generalize wr.drewN nq = W2 at *
          go_wp2_with fail
          rw [HW.out]
          go_roundg k1
          case measure => omega
          case rel =>
            refine ⟨b + 1, t, ⟨by rw [HS.out]; simp [skip, hb]⟩, ⟨by have := HL.out; simp at this; omega⟩, ⟨?_⟩, ⟨keep_trans HK2.out (KeepBut.set_ (KeepBut.refl _ _ _) _ _)⟩, ⟨by have := HQ.out; simp at this; omega⟩⟩
            have hq := HR2.out.tail (HR2.out.set (n + 1)).1 (HR2.out.set (n + 1)).2
            have hbx : n + 1 = a + (b + 1) := by rw [HN.out]; omega
            rw [← hbx]
            exact hq
        | false =>
          have hsk : skip l = c :: t := by rw [HS.out]; simp [skip, hb]
          have hpos : a + (l.length - (t.length + 1)) = n := by rw [HL.out, HN.out]; simp
          clear hle hsm
          go_wp2_with fail
          go_quiet ((go_at_call 38; exact Calls.quiet_of (blankQ c _)))
          have hr := drawn_rd HRn.out ⟨⟨nq, rfl⟩⟩
          have HR2 := Aside0.mk hr.1
          have HK2 := Aside0.mk (keep_trans HK.out hr.2)
          clear hr j0 j1
          generalize wr.drewN nq = W2 at *
          have h35g := hd_is (c :: t) 35 35 rfl (by decide)
          by_cases hc35 : c = 35
          · subst hc35
            have h35 : (((hd (35 :: t)).toNat : Int) == 35) = true := rfl
            have hres : nextR l a = match comment (35 :: t) n with | none => .ok (false, [], a + l.length) | some q => .error q := by
              unfold nextR
              rw [hsk]
              simp only [if_true]
              rw [hpos]
            have HRES := Aside0.mk hres
            have HEND := Aside0.mk (show a + l.length = n + (t.length + 1) by rw [HL.out, HN.out]; simp; omega)
            clear hres hsk hpos h35g hs hix i0 i1 hb
            go_wp2_with (first | (go_at_call 29; refine (look_call HR2.out).mono ?_; rintro e W3 ⟨rfl, hR3, hK3⟩; have HR3 := Aside0.mk hR3; have HK3 := Aside0.mk (keep_trans HK2.out hK3); clear hR3 hK3 HR2 HK2) | fail)
            clear h35
            go_loopg [3] (t.length + 2) (fun kq v3 wr => ∃ b' r', Aside0 (comment (35 :: t) n = comment r' (n + b')) ∧ Aside0 (t.length + 1 = b' + r'.length) ∧ Aside0 (RdS w0 wr g s (n + b') r') ∧ Aside0 (KeepBut w wr g none) ∧ Aside0 (r'.length < kq))
            case atStart => exact ⟨0, 35 :: t, ⟨rfl⟩, ⟨by simp⟩, HR3, HK3, ⟨by simp⟩⟩
            case round =>
              obtain ⟨b', r', HS', HL', HRr', HK', HQ'⟩ := hrel
              clear HR3 HK3
              cases gk with
              | zero => exact absurd HQ'.out (by omega)
              | succ k2 =>
                obtain ⟨m, hm⟩ : ∃ m, m = n + b' := ⟨_, rfl⟩
                have HRm : Aside0 (RdS w0 wr g s m r') := ⟨by rw [hm]; exact HRr'.out⟩
                have HMM := Aside0.mk hm
                have hle := HRm.out.le
                have hsm := HRm.out.small
                have j0 := HRm.out.c0
                have j1 := HRm.out.c1
                clear HRr' hm
                cases r' with
                | nil =>
                  have hm2 : m = s.size := by simpa using hle
                  have hlt : decide (m < s.size) = false := decide_eq_false (by omega)
                  have hres2 : nextR l a = .ok (false, [], m) := by
                    rw [HRES.out, HS'.out]
                    show (Except.ok (false, [], a + l.length) : Except Nat (Bool × Bs × Nat)) = _
                    rw [HEND.out, HL'.out, HMM.out]
                    rfl
                  have HRES2 := Aside0.mk hres2
                  clear hle hsm hres2 hm2
                  go_wp2_with fail
                  go_quiet (fail)
                  have hr := drawn_rd HRm.out ⟨⟨nq, rfl⟩⟩
                  have HR4 := Aside0.mk hr.1
                  have HK4 := Aside0.mk (keep_trans HK'.out hr.2)
                  have j0' := HR4.out.c0
                  have j1' := HR4.out.c1
                  clear hr j0 j1
                  generalize wr.drewN nq = W4 at *
                  go_wp2_with fail
                  go_quiet (fail)
                  go_wp2_with fail
                  go_ret
                  have hr := drawn_rd HR4.out ⟨⟨nq, rfl⟩⟩
                  refine ⟨keep_trans HK4.out hr.2, hr.1.below, ?_⟩
                  rw [HRES2.out]
                  exact ⟨rfl, hr.1⟩
                | cons c2 t2 =>
                  have hs : m < s.size := by simp at hle; omega
                  have hix := idx HRm.out.rest hs
                  have i0 : (0 : Int) ≤ (m : Int) := by omega
                  have i1 : (m : Int) < (s.size : Int) := by omega
                  have hw1 : wrap64 ((m : Int) + 1) = ((m + 1 : Nat) : Int) := wrap_succ m (by omega)
                  have HW := Aside0.mk hw1
                  clear hle hsm hw1
                  go_wp2_with fail
                  go_quiet (fail)
                  have hr := drawn_rd HRm.out ⟨⟨nq, rfl⟩⟩
                  have HR4 := Aside0.mk hr.1
                  have HK4 := Aside0.mk (keep_trans HK'.out hr.2)
                  have j0' := HR4.out.c0
                  have j1' := HR4.out.c1
                  clear hr j0 j1
                  generalize wr.drewN nq = W4 at *
                  go_wp2_with fail
                  go_quiet (fail)
                  have hr := drawn_rd HR4.out ⟨⟨nq, rfl⟩⟩
                  have HR5 := Aside0.mk hr.1
                  have HK5 := Aside0.mk (keep_trans HK4.out hr.2)
                  clear hr j0' j1' HR4 HK4
                  generalize W4.drewN nq = W5 at *
                  have hpl := plainQ c2
                  have hbl := blankQ c2
                  cases hp : isPl c2 with
                  | true =>
                    have hfine : fine c2 = true := by rw [fine_eq, hp]; rfl
                    rw [hp] at hpl
                    have HPL := Aside0.mk hpl
                    clear hpl hbl hs hix i0 i1
                    go_wp2_with (first | (go_at_call 20; refine (HPL.out _).mono ?_; rintro e W6 ⟨rfl, q6, hW6⟩; have hr := drawn_rd HR5.out ⟨⟨q6, hW6⟩⟩; clear hW6; have HR6 := Aside0.mk hr.1; have HK6 := Aside0.mk (keep_trans HK5.out hr.2); have j1 := HR6.out.c1; have j2 := HR6.out.f1; clear hr HR5 HK5) | fail)
                    rw [HW.out]
                    go_roundg k2
                    case measure => omega
                    case rel =>
                      refine ⟨b' + 1, t2, ⟨by rw [HS'.out]; simp [comment, hfine]; congr 1⟩, ⟨by have := HL'.out; simp at this; omega⟩, ⟨?_⟩, ⟨keep_trans HK6.out (KeepBut.set_ (KeepBut.refl _ _ _) _ _)⟩, ⟨by have := HQ'.out; simp at this; omega⟩⟩
                      have hq := HR6.out.tail (HR6.out.set (m + 1)).1 (HR6.out.set (m + 1)).2
                      have hbx : m + 1 = n + (b' + 1) := by rw [HMM.out]; omega
                      rw [← hbx]
                      exact hq
                  | false =>
                    rw [hp] at hpl
                    have HPL := Aside0.mk hpl
                    cases hb2 : isBl c2 with
                    | true =>
                      have hfine : fine c2 = true := by rw [fine_eq, hp, hb2]; rfl
                      rw [hb2] at hbl
                      have HBL := Aside0.mk hbl
                      clear hpl hbl hs hix i0 i1
                      go_wp2_with (first | (go_at_call 20; refine (HPL.out _).mono ?_; rintro e W6 ⟨rfl, q6, hW6⟩; have hr := drawn_rd HR5.out ⟨⟨q6, hW6⟩⟩; clear hW6; have HR7 := Aside0.mk hr.1; have HK7 := Aside0.mk (keep_trans HK5.out hr.2); clear hr HR5 HK5) | (go_at_call 38; refine (HBL.out _).mono ?_; rintro e W7 ⟨rfl, q7, hW7⟩; have hr := drawn_rd HR7.out ⟨⟨q7, hW7⟩⟩; clear hW7; have HR6 := Aside0.mk hr.1; have HK6 := Aside0.mk (keep_trans HK7.out hr.2); have j1 := HR6.out.c1; have j2 := HR6.out.f1; clear hr HR7 HK7) | fail)
                      rw [HW.out]
                      go_roundg k2
                      case measure => omega
                      case rel =>
                        refine ⟨b' + 1, t2, ⟨by rw [HS'.out]; simp [comment, hfine]; congr 1⟩, ⟨by have := HL'.out; simp at this; omega⟩, ⟨?_⟩, ⟨keep_trans HK6.out (KeepBut.set_ (KeepBut.refl _ _ _) _ _)⟩, ⟨by have := HQ'.out; simp at this; omega⟩⟩
                        have hq := HR6.out.tail (HR6.out.set (m + 1)).1 (HR6.out.set (m + 1)).2
                        have hbx : m + 1 = n + (b' + 1) := by rw [HMM.out]; omega
                        rw [← hbx]
                        exact hq
                    | false =>
                      have hfine : fine c2 = false := by rw [fine_eq, hp, hb2]; rfl
                      rw [hb2] at hbl
                      have HBL := Aside0.mk hbl
                      have hres2 : nextR l a = .error m := by
                        rw [HRES.out, HS'.out]
                        simp [comment, hfine, HMM.out]
                      have HRES2 := Aside0.mk hres2
                      clear hpl hbl hs hix i0 i1 hres2
                      go_wp2_with (first | (go_at_call 20; refine (HPL.out _).mono ?_; rintro e W6 ⟨rfl, q6, hW6⟩; have hr := drawn_rd HR5.out ⟨⟨q6, hW6⟩⟩; clear hW6; have HR7 := Aside0.mk hr.1; have HK7 := Aside0.mk (keep_trans HK5.out hr.2); clear hr HR5 HK5) | (go_at_call 38; refine (HBL.out _).mono ?_; rintro e W7 ⟨rfl, q7, hW7⟩; have hr := drawn_rd HR7.out ⟨⟨q7, hW7⟩⟩; clear hW7; have HR6 := Aside0.mk hr.1; have HK6 := Aside0.mk (keep_trans HK7.out hr.2); clear hr HR7 HK7) | (go_at_call 30; refine (fail_call HR6.out).mono ?_; rintro e W8 ⟨rfl, hW8⟩; rw [hW8]; clear hW8) | fail)
                      exact ⟨rfl, HK6.out, HR6.out.below, by rw [HRES2.out]⟩
          · have hres : nextR l a = .ok (true, c :: t, n) := by
              unfold nextR
              rw [hsk]
              simp only [hc35, if_false]
              rw [hpos]
            have HRES := Aside0.mk hres
            rw [decide_eq_false (show ¬ (c :: t).head? = some 35 from fun h => hc35 (by simpa using h))] at h35g
            have h35 : (((hd (c :: t)).toNat : Int) == 35) = false := h35g
            have hlt : decide (n < s.size) = true := decide_eq_true hs
            clear hres hsk hpos h35g hix i0 i1 hb hc35
            go_wp2_with (first | (go_at_call 29; refine (look_call HR2.out).mono ?_; rintro e W3 ⟨rfl, hR3, hK3⟩; have HR3 := Aside0.mk hR3; have HK3 := Aside0.mk (keep_trans HK2.out hK3); have j0 := HR3.out.c0; have j1 := HR3.out.c1; clear hR3 hK3 HR2 HK2) | fail)
            go_quiet (fail)
            go_wp2_with fail
            go_ret
            have hr := drawn_rd HR3.out ⟨⟨nq, rfl⟩⟩
            refine ⟨keep_trans HK3.out hr.2, hr.1.below, ?_⟩
            rw [HRES.out]
            exact ⟨rfl, hr.1⟩
end Go.Proofs.Ytkoldjmhcifpjaa.readd
