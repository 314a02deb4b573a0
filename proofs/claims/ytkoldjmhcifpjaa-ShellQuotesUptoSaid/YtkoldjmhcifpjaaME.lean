/- The reader of a line: behind a stroke. The reader of a line: a text in quotes. The reader of a line: a value. (Merged by merge.py.) -/
import Derived.Test.YtkoldjmhcifpjaaMA
import Derived.Test.YtkoldjmhcifpjaaShelf
/-! ## ReadE -/
namespace Go.Proofs.Ytkoldjmhcifpjaa.reade
open Go Go.RowKit Go.Proofs.Ytkoldjmhcifpjaa.parsep Go.Proofs.Ytkoldjmhcifpjaa.reada Go.Proofs.Ytkoldjmhcifpjaa.readb Go.Proofs.Ytkoldjmhcifpjaa.readc Go.Proofs.Ytkoldjmhcifpjaa.readd Go.Proofs.Ytkoldjmhcifpjaa.PShellReads Go.Proofs.YtkoldjmhcifpjaaW.PrintWords
set_option linter.unusedVariables false
set_option linter.unusedSimpArgs false
def hexB : ByteArray := ⟨#[48, 49, 50, 51, 52, 53, 54, 55, 56, 57, 97, 98, 99, 100, 101, 102]⟩
def escR (l : Bs) (p : Nat) : Except Nat (UInt8 × Bs × Nat) :=
  match l with
  | [] => .error p
  | e :: t =>
    if e = 34 ∨ e = 92 then .ok (e, e :: t, p)
    else if e = 120 then
      match t with
      | [] => .error (p + 1)
      | h1 :: t1 => if isHex h1 then (match t1 with | [] => .error (p + 2) | h2 :: t2 => if isHex h2 then .ok (16 * hexv h1 + hexv h2, h2 :: t2, p + 2) else .error (p + 2)) else .error (p + 1)
    else .error p
def EndsC (w0 w : World) (g : Nat) (s : ByteArray) (X : Except Nat (UInt8 × Bs × Nat)) (e : Ending) (w' : World) : Prop :=
  KeepBut w w' g none ∧ Below w0.heap.size w0 w' ∧ match X with | .error q => e = gaveUp q | .ok (x, r, q) => e = .returned (.int .u8 (x.toNat : Int)) ∧ RdS w0 w' g s q r
def dOf (c : UInt8) : Int := Lib.indexByte hexB.data.toList (c ||| 32)
def badH (c : UInt8) : Bool := (!isDig c && !isLet (c ||| 32)) || decide (dOf c < 0)
theorem bad_hex (c : UInt8) : badH c = !isHex c := eq_of_beq (all_u8 (p := fun c => badH c == !isHex c) (by decide +kernel) c)
theorem d_hex (c : UInt8) (h : isHex c = true) : dOf c = ((hexv c).toNat : Int) := by
  have h1 := all_u8 (p := fun c => !isHex c || decide (dOf c = ((hexv c).toNat : Int))) (by decide +kernel) c
  rw [h] at h1
  exact of_decide_eq_true h1
theorem or32 (c : UInt8) : Go.bits .or .u8 (c.toNat : Int) 32 = ((c ||| 32).toNat : Int) := of_decide_eq_true (all_u8 (p := fun c => decide (Go.bits .or .u8 (c.toNat : Int) 32 = ((c ||| 32).toNat : Int))) (by decide +kernel) c)
theorem idx_call (c : UInt8) (w : World) : Calls Try.prog 43 #[.string hexB, .int .u8 ((c ||| 32).toNat : Int)] w fun e w' => e = .returned (.int .i64 (dOf c)) ∧ w' = w := by
  have h := Try.strings_IndexByte hexB ((c ||| 32).toNat : Int) w
  have e : ((c ||| 32).toNat : Int).toNat.toUInt8 = c ||| 32 := by
    rw [Int.toNat_natCast]
    exact UInt8.ofNat_toNat
  rw [e] at h
  exact h
def stat (t : Bs) : Nat → Int → Bs → Prop
  | 0, v, l => v = 0 ∧ l = 120 :: t
  | 1, v, l => ∃ h1 r, t = h1 :: r ∧ isHex h1 = true ∧ v = ((hexv h1).toNat : Int) ∧ l = h1 :: r
  | _, v, l => ∃ h1 h2 r, t = h1 :: h2 :: r ∧ isHex h1 = true ∧ isHex h2 = true ∧ v = 16 * ((hexv h1).toNat : Int) + ((hexv h2).toNat : Int) ∧ l = h2 :: r
theorem hex_lt (c : UInt8) (h : isHex c = true) : (hexv c).toNat < 16 := by
  have := of_decide_eq_true h
  exact this
theorem stat_step {t : Bs} {i : Nat} {v : Int} {c x : UInt8} {r : Bs} (hi : i < 2) (h : stat t i v (c :: x :: r)) (hx : isHex x = true) : stat t (i + 1) (16 * v + ((hexv x).toNat : Int)) (x :: r) := by
  match i, hi, h with
  | 0, _, h =>
    obtain ⟨h1, h2⟩ := h
    injection h2 with _ h2
    exact ⟨x, r, h2.symm, hx, by rw [h1]; simp, rfl⟩
  | 1, _, h =>
    obtain ⟨h1, r', e1, e2, e3, e4⟩ := h
    injection e4 with e5 e6
    subst e5 e6
    exact ⟨c, x, r, e1, e2, hx, by rw [e3], rfl⟩
theorem stat_bad {t : Bs} {i : Nat} {v : Int} {c : UInt8} {l : Bs} {p : Nat} (hi : i < 2) (h : stat t i v (c :: l)) (hx : isHex (hd l) = false) : escR (120 :: t) p = .error (p + i + 1) := by
  match i, hi, h with
  | 0, _, h =>
    obtain ⟨h1, h2⟩ := h
    injection h2 with _ h2
    subst h2
    unfold escR
    dsimp only
    rw [if_neg (by decide), if_pos rfl]
    cases l with
    | nil => rfl
    | cons x t =>
      dsimp only
      rw [if_neg (by rw [show isHex x = false from hx]; decide)]
  | 1, _, h =>
    obtain ⟨h1, r', e1, e2, e3, e4⟩ := h
    injection e4 with e5 e6
    subst e5 e6 e1
    unfold escR
    dsimp only
    rw [if_neg (by decide), if_pos rfl, if_pos e2]
    cases l with
    | nil => rfl
    | cons x t =>
      dsimp only
      rw [if_neg (by rw [show isHex x = false from hx]; decide)]
theorem stat_end {t : Bs} {v : Int} {l : Bs} {p : Nat} (h : stat t 2 v l) : ∃ c : UInt8, v = (c.toNat : Int) ∧ escR (120 :: t) p = .ok (c, l, p + 2) := by
  obtain ⟨h1, h2, r, e1, e2, e3, e4, e5⟩ := h
  subst e1 e5
  refine ⟨16 * hexv h1 + hexv h2, ?_, ?_⟩
  · have a1 := hex_lt h1 e2
    have a2 := hex_lt h2 e3
    rw [e4, UInt8.toNat_add, UInt8.toNat_mul]
    show _ = (((16 % 256 * (hexv h1).toNat % 256 + (hexv h2).toNat) % 256 : Nat) : Int)
    omega
  · unfold escR
    dsimp only
    rw [if_neg (by decide), if_pos rfl, if_pos e2]
    try dsimp only
    rw [if_pos e3]
theorem stat_cons {t : Bs} {i : Nat} {v : Int} {l : Bs} (h : stat t i v l) : ∃ c r, l = c :: r := by
  match i, h with
  | 0, h => exact ⟨_, _, h.2⟩
  | 1, h =>
    obtain ⟨h1, r, _, _, _, h⟩ := h
    exact ⟨_, _, h⟩
  | (i + 2), h =>
    obtain ⟨h1, h2, r, _, _, _, _, h⟩ := h
    exact ⟨_, _, h⟩
theorem stat_rng {t : Bs} {i : Nat} {v : Int} {l : Bs} (h : stat t i v l) : 0 ≤ v ∧ v < 256 := by
  match i, h with
  | 0, h => rw [h.1]; omega
  | 1, h =>
    obtain ⟨h1, r, _, a, h, _⟩ := h
    have := hex_lt h1 a
    omega
  | (i + 2), h =>
    obtain ⟨h1, h2, r, _, a, b, h, _⟩ := h
    have := hex_lt h1 a
    have := hex_lt h2 b
    omega
theorem letterQ (c : UInt8) (W : World) : Calls Try.prog 36 #[.int .u8 (c.toNat : Int)] W fun e w' => e = .returned (.bool (isLet c)) ∧ ∃ m, w' = W.drewN m := (shell_isLetter.calls _ _ W (letter_f c)).mono fun e w' ⟨h1, h2⟩ => ⟨h1, h2.out⟩
theorem digitQ (c : UInt8) (W : World) : Calls Try.prog 41 #[.int .u8 (c.toNat : Int)] W fun e w' => e = .returned (.bool (isDig c)) ∧ ∃ m, w' = W.drewN m := (shell_isDigit.calls _ _ W (digit_f c)).mono fun e w' ⟨h1, h2⟩ => ⟨h1, h2.out⟩
set_option maxHeartbeats 2000000 in
set_option maxRecDepth 100000 in
theorem escape_call {w0 w : World} {g : Nat} {s : ByteArray} {a : Nat} {l : Bs} (h : RdS w0 w g s a (92 :: l)) : Calls Try.prog 42 #[.pointer (some ⟨g, 0, none⟩)] w (EndsC w0 w g s (escR l (a + 1))) := by
  have k1 := h.c1
  have k2 := h.f1
  have hpos : a + 1 ≤ 4096 := by have h1 := h.le; have h2 := h.small; simp at h1; omega
  have HR0 := h.tail (h.set (a + 1)).1 (h.set (a + 1)).2
  have hw1 := wrap_succ a (by omega)
  clear h
  obtain ⟨p, hp⟩ : ∃ p, p = a + 1 := ⟨_, rfl⟩
  rw [← hp] at HR0 hw1 ⊢
  have HR := Aside0.mk HR0
  have HW := Aside0.mk hw1
  have HK : Aside0 (KeepBut w (w.setCell ⟨g, 1, none⟩ (.int .i64 (p : Int))) g none) := ⟨KeepBut.set_ (KeepBut.refl _ _ _) _ _⟩
  clear hw1 HR0 hp hpos
  go_enter Try.func42, Try.ntmps42
  go_upto_region 2 with (fail)
  rw [HW.out]
  clear k1 k2 HW
  generalize w.setCell ⟨g, 1, none⟩ (.int .i64 (p : Int)) = W1 at *
  cases l with
  | nil =>
    have b34 : (((hd []).toNat : Int) == 34) = false := rfl
    have b92 : (((hd []).toNat : Int) == 92) = false := rfl
    have b120 : (((hd []).toNat : Int) == 120) = false := rfl
    go_wp2_with (first | (go_at_call 29; refine (look_call HR.out).mono ?_; rintro e W2 ⟨rfl, hR_, hK_⟩; have HR2 := Aside0.mk hR_; have HK2 := Aside0.mk (keep_trans HK.out hK_); clear hR_ hK_ HR HK) | (go_at_call 30; refine (fail_call HR2.out).mono ?_; rintro e W9 ⟨rfl, hW9⟩; rw [hW9]; clear hW9) | fail)
    exact ⟨rfl, HK2.out, HR2.out.below, rfl⟩
  | cons e t =>
    by_cases h34 : e = 34
    · subst h34
      have b34 : (((hd (34 :: t)).toNat : Int) == 34) = true := rfl
      go_wp2_with (first | (go_at_call 29; refine (look_call HR.out).mono ?_; rintro e W2 ⟨rfl, hR_, hK_⟩; have HR2 := Aside0.mk hR_; have HK2 := Aside0.mk (keep_trans HK.out hK_); clear hR_ hK_ HR HK) | fail)
      go_ret
      exact ⟨HK2.out, HR2.out.below, rfl, HR2.out⟩
    · have b34 : (((hd (e :: t)).toNat : Int) == 34) = false := beq_eq_false_iff_ne.mpr (fun h => h34 (u8_inj (y := 34) h))
      by_cases h92 : e = 92
      · subst h92
        have b92 : (((hd (92 :: t)).toNat : Int) == 92) = true := rfl
        go_wp2_with (first | (go_at_call 29; refine (look_call HR.out).mono ?_; rintro e W2 ⟨rfl, hR_, hK_⟩; have HR2 := Aside0.mk hR_; have HK2 := Aside0.mk (keep_trans HK.out hK_); clear hR_ hK_ HR HK) | fail)
        go_ret
        exact ⟨HK2.out, HR2.out.below, rfl, HR2.out⟩
      · have b92 : (((hd (e :: t)).toNat : Int) == 92) = false := beq_eq_false_iff_ne.mpr (fun h => h92 (u8_inj (y := 92) h))
        by_cases h120 : e = 120
        · subst h120
          have b120 : (((hd (120 :: t)).toNat : Int) == 120) = true := rfl
          go_wp2_with (first | (go_at_call 29; refine (look_call HR.out).mono ?_; rintro e W2 ⟨rfl, hR_, hK_⟩; have HR2 := Aside0.mk hR_; have HK2 := Aside0.mk (keep_trans HK.out hK_); clear hR_ hK_ HR HK) | fail)
          clear b34 b92 b120 h34 h92
          go_loopg [4, 25] 4 (fun kq v4 v25 wr => ∃ (i : Nat) (v : Int) (r : Bs), v25 = .int .i64 i ∧ v4 = .int .i64 v ∧ Aside0 (i ≤ 2) ∧ Aside0 (2 - i < kq) ∧ Aside0 (stat t i v r) ∧ Aside0 (RdS w0 wr g s (p + i) r) ∧ Aside0 (KeepBut w wr g none))
          case atStart => exact ⟨0, 0, 120 :: t, rfl, rfl, ⟨by omega⟩, ⟨by omega⟩, ⟨rfl, rfl⟩, HR2, HK2⟩
          case round =>
            obtain ⟨i, v, r, rfl, rfl, HI, HQ, HS, HRr, HK⟩ := hrel
            clear HR2 HK2
            cases gk with
            | zero => exact absurd HQ.out (by omega)
            | succ k1 =>
              by_cases hi : i < 2
              · have hlt : decide ((i : Int) < 2) = true := decide_eq_true (by omega)
                have hrng := stat_rng HS.out
                obtain ⟨c, l', rfl⟩ := stat_cons HS.out
                have hle := HRr.out.le
                have hsm := HRr.out.small
                obtain ⟨q, hq⟩ : ∃ q, q = p + i := ⟨_, rfl⟩
                have HR3 : Aside0 (RdS w0 wr g s q (c :: l')) := ⟨by rw [hq]; exact HRr.out⟩
                have k1 := HR3.out.c1
                have k2 := HR3.out.f1
                have HRn := Aside0.mk (HR3.out.tail (HR3.out.set (q + 1)).1 (HR3.out.set (q + 1)).2)
                have HKn : Aside0 (KeepBut w (wr.setCell ⟨g, 1, none⟩ (.int .i64 ((q + 1 : Nat) : Int))) g none) := ⟨keep_trans HK.out (KeepBut.set_ (KeepBut.refl _ _ _) _ _)⟩
                have hw1 := wrap_succ q (by simp at hle; omega)
                have HW := Aside0.mk hw1
                have HQE := Aside0.mk hq
                clear hw1 hq hle hsm HRr HK HR3
                go_upto_region 13 with (fail)
                rw [HW.out]
                clear k1 k2 HW
                generalize wr.setCell ⟨g, 1, none⟩ (.int .i64 ((q + 1 : Nat) : Int)) = W2 at *
                have o32 := or32 (hd l')
                have hdg := digitQ (hd l')
                have hlt2 := letterQ (hd l' ||| 32)
                have hbad := bad_hex (hd l')
                unfold badH at hbad
                have hdx := d_hex (hd l')
                have hbd := fun pp => @stat_bad t i v c l' pp hi HS.out
                have hst : ∀ x r, l' = x :: r → isHex x = true → stat t (i + 1) (16 * v + ((hexv x).toNat : Int)) (x :: r) := fun x r e hx => stat_step hi (by rw [← e]; exact HS.out) hx
                have hl0 : isHex (hd l') = true → ∃ r, l' = hd l' :: r := fun h => by
                  cases l' with
                  | nil => exact absurd h (by decide)
                  | cons x r => exact ⟨r, rfl⟩
                generalize hxx : hd l' = x at *
                cases hx : isHex x with
                | true =>
                  rw [hx] at hbad
                  obtain ⟨r, hr0⟩ := hl0 hx
                  have hd0 := hdx hx
                  have h16 := hex_lt x hx
                  have hdn : decide (dOf x < 0) = false := decide_eq_false (by rw [hd0]; omega)
                  have HV16 := Aside0.mk (show wrap64 (16 * v) = 16 * v by unfold wrap64; omega)
                  have HV17 := Aside0.mk (show wrap64 (16 * v + dOf x) = 16 * v + dOf x by rw [hd0]; unfold wrap64; omega)
                  have HST := Aside0.mk (hst x r hr0 hx)
                  have HD0 := Aside0.mk hd0
                  have HR0 := Aside0.mk hr0
                  have HXX := Aside0.mk hxx
                  cases hD : isDig x with
                  | true =>
                    rw [hD] at hdg
                    have HDG := Aside0.mk hdg
                    have HLT := Aside0.mk hlt2
                    clear hdg hlt2 hbad hdx hbd hst hl0 hd0 h16 hx hD hrng hr0 hxx
                    go_wp2_with (first | (go_at_call 29; refine (look_call HRn.out).mono ?_; rw [HXX.out]; rintro e W3 ⟨rfl, hR_, hK_⟩; have HRo := Aside0.mk (hR_); have HKo := Aside0.mk (keep_trans HKn.out hK_); clear hR_ hK_ HRn HKn; have HRn := HRo; have HKn := HKo; clear HRo HKo) | (go_at_call 43; refine (idx_call x _).mono ?_; rintro e W4 ⟨rfl, hW4⟩; rw [hW4]; clear hW4) | (go_at_call 41; refine (HDG.out _).mono ?_; rintro e W5 ⟨rfl, q5, hW5⟩; have hr := drawn_rd HRn.out ⟨⟨q5, hW5⟩⟩; clear hW5; have HRo := Aside0.mk hr.1; have HKo := Aside0.mk (keep_trans HKn.out hr.2); clear hr HRn HKn; have HRn := HRo; have HKn := HKo; clear HRo HKo) | (go_at_call 36; refine (HLT.out _).mono ?_; rintro e W5 ⟨rfl, q5, hW5⟩; have hr := drawn_rd HRn.out ⟨⟨q5, hW5⟩⟩; clear hW5; have HRo := Aside0.mk hr.1; have HKo := Aside0.mk (keep_trans HKn.out hr.2); clear hr HRn HKn; have HRn := HRo; have HKn := HKo; clear HRo HKo) | fail)
                    rw [HV16.out, HV17.out]
                    go_roundg k1
                    case measure => omega
                    case rel => exact ⟨i + 1, 16 * v + dOf x, x :: r, by go_num, rfl, ⟨by omega⟩, ⟨by have := HQ.out; omega⟩, ⟨by rw [HD0.out]; exact HST.out⟩, ⟨by rw [← Nat.add_assoc, ← HQE.out, ← HR0.out]; exact HRn.out⟩, HKn⟩
                  | false =>
                    have hL : isLet (x ||| 32) = true := by
                      rw [hD] at hbad
                      cases hL : isLet (x ||| 32)
                      · rw [hL] at hbad
                        simp at hbad
                      · rfl
                    rw [hD] at hdg
                    rw [hL] at hlt2
                    have HDG := Aside0.mk hdg
                    have HLT := Aside0.mk hlt2
                    clear hdg hlt2 hbad hdx hbd hst hl0 hd0 h16 hx hD hrng hr0 hxx hL
                    go_wp2_with (first | (go_at_call 29; refine (look_call HRn.out).mono ?_; rw [HXX.out]; rintro e W3 ⟨rfl, hR_, hK_⟩; have HRo := Aside0.mk (hR_); have HKo := Aside0.mk (keep_trans HKn.out hK_); clear hR_ hK_ HRn HKn; have HRn := HRo; have HKn := HKo; clear HRo HKo) | (go_at_call 43; refine (idx_call x _).mono ?_; rintro e W4 ⟨rfl, hW4⟩; rw [hW4]; clear hW4) | (go_at_call 41; refine (HDG.out _).mono ?_; rintro e W5 ⟨rfl, q5, hW5⟩; have hr := drawn_rd HRn.out ⟨⟨q5, hW5⟩⟩; clear hW5; have HRo := Aside0.mk hr.1; have HKo := Aside0.mk (keep_trans HKn.out hr.2); clear hr HRn HKn; have HRn := HRo; have HKn := HKo; clear HRo HKo) | (go_at_call 36; refine (HLT.out _).mono ?_; rintro e W5 ⟨rfl, q5, hW5⟩; have hr := drawn_rd HRn.out ⟨⟨q5, hW5⟩⟩; clear hW5; have HRo := Aside0.mk hr.1; have HKo := Aside0.mk (keep_trans HKn.out hr.2); clear hr HRn HKn; have HRn := HRo; have HKn := HKo; clear HRo HKo) | fail)
                    rw [HV16.out, HV17.out]
                    go_roundg k1
                    case measure => omega
                    case rel => exact ⟨i + 1, 16 * v + dOf x, x :: r, by go_num, rfl, ⟨by omega⟩, ⟨by have := HQ.out; omega⟩, ⟨by rw [HD0.out]; exact HST.out⟩, ⟨by rw [← Nat.add_assoc, ← HQE.out, ← HR0.out]; exact HRn.out⟩, HKn⟩
                | false =>
                  rw [hx] at hbad
                  have HRES := Aside0.mk (hbd p hx)
                  have HXX := Aside0.mk hxx
                  cases hD : isDig x with
                  | true =>
                    have hdn : decide (dOf x < 0) = true := by
                      rw [hD] at hbad
                      simpa using hbad
                    rw [hD] at hdg
                    have HDG := Aside0.mk hdg
                    have HLT := Aside0.mk hlt2
                    clear hdg hlt2 hbad hdx hbd hst hl0 hx hD hrng hxx
                    go_wp2_with (first | (go_at_call 29; refine (look_call HRn.out).mono ?_; rw [HXX.out]; rintro e W3 ⟨rfl, hR_, hK_⟩; have HRo := Aside0.mk (hR_); have HKo := Aside0.mk (keep_trans HKn.out hK_); clear hR_ hK_ HRn HKn; have HRn := HRo; have HKn := HKo; clear HRo HKo) | (go_at_call 43; refine (idx_call x _).mono ?_; rintro e W4 ⟨rfl, hW4⟩; rw [hW4]; clear hW4) | (go_at_call 41; refine (HDG.out _).mono ?_; rintro e W5 ⟨rfl, q5, hW5⟩; have hr := drawn_rd HRn.out ⟨⟨q5, hW5⟩⟩; clear hW5; have HRo := Aside0.mk hr.1; have HKo := Aside0.mk (keep_trans HKn.out hr.2); clear hr HRn HKn; have HRn := HRo; have HKn := HKo; clear HRo HKo) | (go_at_call 36; refine (HLT.out _).mono ?_; rintro e W5 ⟨rfl, q5, hW5⟩; have hr := drawn_rd HRn.out ⟨⟨q5, hW5⟩⟩; clear hW5; have HRo := Aside0.mk hr.1; have HKo := Aside0.mk (keep_trans HKn.out hr.2); clear hr HRn HKn; have HRn := HRo; have HKn := HKo; clear HRo HKo) | (go_at_call 30; refine (fail_call HRn.out).mono ?_; rintro e W9 ⟨rfl, hW9⟩; rw [hW9]; clear hW9) | fail)
                    exact ⟨rfl, HKn.out, HRn.out.below, by rw [HRES.out, HQE.out]; rfl⟩
                  | false =>
                    cases hL : isLet (x ||| 32) with
                    | false =>
                      rw [hD] at hdg
                      rw [hL] at hlt2
                      have HDG := Aside0.mk hdg
                      have HLT := Aside0.mk hlt2
                      clear hdg hlt2 hbad hdx hbd hst hl0 hx hD hrng hxx hL
                      go_wp2_with (first | (go_at_call 29; refine (look_call HRn.out).mono ?_; rw [HXX.out]; rintro e W3 ⟨rfl, hR_, hK_⟩; have HRo := Aside0.mk (hR_); have HKo := Aside0.mk (keep_trans HKn.out hK_); clear hR_ hK_ HRn HKn; have HRn := HRo; have HKn := HKo; clear HRo HKo) | (go_at_call 43; refine (idx_call x _).mono ?_; rintro e W4 ⟨rfl, hW4⟩; rw [hW4]; clear hW4) | (go_at_call 41; refine (HDG.out _).mono ?_; rintro e W5 ⟨rfl, q5, hW5⟩; have hr := drawn_rd HRn.out ⟨⟨q5, hW5⟩⟩; clear hW5; have HRo := Aside0.mk hr.1; have HKo := Aside0.mk (keep_trans HKn.out hr.2); clear hr HRn HKn; have HRn := HRo; have HKn := HKo; clear HRo HKo) | (go_at_call 36; refine (HLT.out _).mono ?_; rintro e W5 ⟨rfl, q5, hW5⟩; have hr := drawn_rd HRn.out ⟨⟨q5, hW5⟩⟩; clear hW5; have HRo := Aside0.mk hr.1; have HKo := Aside0.mk (keep_trans HKn.out hr.2); clear hr HRn HKn; have HRn := HRo; have HKn := HKo; clear HRo HKo) | (go_at_call 30; refine (fail_call HRn.out).mono ?_; rintro e W9 ⟨rfl, hW9⟩; rw [hW9]; clear hW9) | fail)
                      exact ⟨rfl, HKn.out, HRn.out.below, by rw [HRES.out, HQE.out]; rfl⟩
                    | true =>
                      have hdn : decide (dOf x < 0) = true := by
                        rw [hD, hL] at hbad
                        simpa using hbad
                      rw [hD] at hdg
                      rw [hL] at hlt2
                      have HDG := Aside0.mk hdg
                      have HLT := Aside0.mk hlt2
                      clear hdg hlt2 hbad hdx hbd hst hl0 hx hD hrng hxx hL
                      go_wp2_with (first | (go_at_call 29; refine (look_call HRn.out).mono ?_; rw [HXX.out]; rintro e W3 ⟨rfl, hR_, hK_⟩; have HRo := Aside0.mk (hR_); have HKo := Aside0.mk (keep_trans HKn.out hK_); clear hR_ hK_ HRn HKn; have HRn := HRo; have HKn := HKo; clear HRo HKo) | (go_at_call 43; refine (idx_call x _).mono ?_; rintro e W4 ⟨rfl, hW4⟩; rw [hW4]; clear hW4) | (go_at_call 41; refine (HDG.out _).mono ?_; rintro e W5 ⟨rfl, q5, hW5⟩; have hr := drawn_rd HRn.out ⟨⟨q5, hW5⟩⟩; clear hW5; have HRo := Aside0.mk hr.1; have HKo := Aside0.mk (keep_trans HKn.out hr.2); clear hr HRn HKn; have HRn := HRo; have HKn := HKo; clear HRo HKo) | (go_at_call 36; refine (HLT.out _).mono ?_; rintro e W5 ⟨rfl, q5, hW5⟩; have hr := drawn_rd HRn.out ⟨⟨q5, hW5⟩⟩; clear hW5; have HRo := Aside0.mk hr.1; have HKo := Aside0.mk (keep_trans HKn.out hr.2); clear hr HRn HKn; have HRn := HRo; have HKn := HKo; clear HRo HKo) | (go_at_call 30; refine (fail_call HRn.out).mono ?_; rintro e W9 ⟨rfl, hW9⟩; rw [hW9]; clear hW9) | fail)
                      exact ⟨rfl, HKn.out, HRn.out.below, by rw [HRES.out, HQE.out]; rfl⟩
              · obtain rfl : i = 2 := by have := HI.out; omega
                have hlt : decide (((2 : Nat) : Int) < 2) = false := rfl
                obtain ⟨c, hc, hres⟩ := stat_end (p := p) HS.out
                subst hc
                have HRES := Aside0.mk hres
                clear hres
                go_wp2_with fail
                go_ret
                refine ⟨HK.out, HRr.out.below, ?_⟩
                rw [HRES.out]
                refine ⟨?_, HRr.out⟩
                show Ending.returned (.int .u8 ((c.toNat : Int) % 256)) = _
                rw [Int.emod_eq_of_lt (by omega) (by have := c.toNat_lt; omega)]
        · have b120 : (((hd (e :: t)).toNat : Int) == 120) = false := beq_eq_false_iff_ne.mpr (fun h => h120 (u8_inj (y := 120) h))
          have hres : escR (e :: t) p = .error p := by
            unfold escR
            dsimp only
            rw [if_neg (fun h => h.elim h34 h92), if_neg h120]
          have HRES := Aside0.mk hres
          clear hres
          go_wp2_with (first | (go_at_call 29; refine (look_call HR.out).mono ?_; rintro e W2 ⟨rfl, hR_, hK_⟩; have HR2 := Aside0.mk hR_; have HK2 := Aside0.mk (keep_trans HK.out hK_); clear hR_ hK_ HR HK) | (go_at_call 30; refine (fail_call HR2.out).mono ?_; rintro e W9 ⟨rfl, hW9⟩; rw [hW9]; clear hW9) | fail)
          exact ⟨rfl, HK2.out, HR2.out.below, by rw [HRES.out]⟩
end Go.Proofs.Ytkoldjmhcifpjaa.reade
/-! ## ReadF -/
namespace Go.Proofs.Ytkoldjmhcifpjaa.readf
open Go Go.RowKit Go.Proofs.Ytkoldjmhcifpjaa.parsep Go.Proofs.Ytkoldjmhcifpjaa.reada Go.Proofs.Ytkoldjmhcifpjaa.readb Go.Proofs.Ytkoldjmhcifpjaa.readc Go.Proofs.Ytkoldjmhcifpjaa.readd Go.Proofs.Ytkoldjmhcifpjaa.reade Go.Proofs.Ytkoldjmhcifpjaa.PShellReads Go.Proofs.YtkoldjmhcifpjaaW.PrintWords
set_option linter.unusedVariables false
set_option linter.unusedSimpArgs false
def preR (v : Bs) : Except Nat (Bs × Bs × Nat) → Except Nat (Bs × Bs × Nat)
  | .error q => .error q
  | .ok (v', r, q) => .ok (v ++ v', r, q)
theorem preR_nil (X : Except Nat (Bs × Bs × Nat)) : preR [] X = X := by cases X <;> rfl
theorem quoted_esc (t : Bs) (b : Nat) : inQuotes (92 :: t) b = match escR t (b + 1) with | .error q => .error q | .ok (x, r, q) => preR [x] (inQuotes r.tail (q + 1)) := by
  cases t with
  | nil => exact qe0 b
  | cons e t =>
    by_cases he : e = 34 ∨ e = 92
    · have e1 : escR (e :: t) (b + 1) = .ok (e, e :: t, b + 1) := by
        unfold escR
        dsimp only
        rw [if_pos he]
      rw [qe1 e t b he, e1]
      show _ = preR [e] (inQuotes t (b + 1 + 1))
      cases inQuotes t (b + 2) <;> rfl
    · by_cases h120 : e = 120
      · subst h120
        cases t with
        | nil => exact qx0 b
        | cons h1 t1 =>
          cases x1 : isHex h1 with
          | false =>
            rw [qx1 h1 t1 b x1]
            have e1 : escR (120 :: h1 :: t1) (b + 1) = .error (b + 1 + 1) := by
              unfold escR
              dsimp only
              rw [if_neg (by decide), if_pos rfl, if_neg (by rw [x1]; decide)]
            rw [e1]
          | true =>
            cases t1 with
            | nil =>
              rw [qx2 h1 b x1]
              have e1 : escR [120, h1] (b + 1) = .error (b + 1 + 2) := by
                unfold escR
                dsimp only
                rw [if_neg (by decide), if_pos rfl, if_pos x1]
              rw [e1]
            | cons h2 t2 =>
              cases x2 : isHex h2 with
              | false =>
                rw [qx3 h1 h2 t2 b x1 x2]
                have e1 : escR (120 :: h1 :: h2 :: t2) (b + 1) = .error (b + 1 + 2) := by
                  unfold escR
                  dsimp only
                  rw [if_neg (by decide), if_pos rfl, if_pos x1]
                  try dsimp only
                  rw [if_neg (by rw [x2]; decide)]
                rw [e1]
              | true =>
                rw [qx4 h1 h2 t2 b x1 x2]
                have e1 : escR (120 :: h1 :: h2 :: t2) (b + 1) = .ok (16 * hexv h1 + hexv h2, h2 :: t2, b + 1 + 2) := by
                  unfold escR
                  dsimp only
                  rw [if_neg (by decide), if_pos rfl, if_pos x1]
                  try dsimp only
                  rw [if_pos x2]
                rw [e1]
                show _ = preR [16 * hexv h1 + hexv h2] (inQuotes t2 (b + 1 + 2 + 1))
                cases inQuotes t2 (b + 4) <;> rfl
      · have e1 : escR (e :: t) (b + 1) = .error (b + 1) := by
          unfold escR
          dsimp only
          rw [if_neg he, if_neg h120]
        rw [qe2 e t b he h120, e1]
theorem esc_len {t : Bs} {p : Nat} {x : UInt8} {r : Bs} {q : Nat} (h : escR t p = .ok (x, r, q)) : ∃ c r', r = c :: r' ∧ r'.length < t.length := by
  unfold escR at h
  split at h
  · cases h
  · rename_i e t
    split at h
    · injection h with h
      injection h with _ h
      injection h with h _
      exact ⟨e, t, h.symm, by simp⟩
    · split at h
      · split at h
        · cases h
        · rename_i h1 t1
          split at h
          · split at h
            · cases h
            · rename_i h2 t2
              split at h
              · injection h with h
                injection h with _ h
                injection h with h _
                exact ⟨h2, t2, h.symm, by simp; omega⟩
              · cases h
          · cases h
      · cases h
theorem preR_app (v : Bs) (x : UInt8) (X : Except Nat (Bs × Bs × Nat)) : preR v (preR [x] X) = preR (v ++ [x]) X := by
  cases X with
  | error q => rfl
  | ok y => simp [preR]
theorem build_keep {W W' : World} {B b g : Nat} {bs : List Value} (h : Lib.IsBuilder 48 5 B b bs W) (hk : KeepBut W W' g none) (hg : g < B) : Lib.IsBuilder 48 5 B b bs W' := by
  have key : ∀ p, Lib.BuilderAt 48 5 B b p bs W → Lib.BuilderAt 48 5 B b p bs W' := by
    rintro p ⟨hB, v, hb, ho, hne⟩
    have hlt : b < W.heap.size := by
      rcases Nat.lt_or_ge b W.heap.size with h1 | h1
      · exact h1
      · rw [Array.getElem?_eq_none h1] at hb
        cases hb
    refine ⟨hB, v, (hk.2 b hlt (by omega) (by simp)).trans hb, own_move ho (fun k hkk => ?_), hne⟩
    have hl := own_lt ho k hkk
    have hge : B ≤ k := by
      rcases ho.2 with ⟨hv, _⟩ | ⟨g', cap, cur, hv, hg', _⟩
      · rw [hv] at hkk; simp [Value.ownBlock] at hkk
      · rw [hv] at hkk
        have : g' = k := by simpa [Value.ownBlock] using hkk
        omega
    exact hk.2 k hl (by omega) (by simp)
  exact h.elim (fun x => .inl (key _ x)) (fun x => .inr (key _ x))
theorem rd_below {w0 W W' : World} {g n0 : Nat} {s : ByteArray} {a : Nat} {l : Bs} (h : RdS w0 W g s a l) (hb : Below n0 W W') (hg : g < n0) (hn : w0.heap.size ≤ n0) : RdS w0 W' g s a l :=
  ⟨⟨(hb.block g hg).trans h.st.1, h.st.2⟩, h.below.trans (hb.mono hn), h.rest, h.le, h.small⟩
theorem preR_cons (v : Bs) (c : UInt8) (X : Except Nat (Bs × Bs × Nat)) : preR v (match X with | .error q => .error q | .ok (v, r, q) => .ok (c :: v, r, q)) = preR (v ++ [c]) X := by
  cases X with
  | error q => rfl
  | ok y => simp [preR]
theorem cells_snoc (v : Bs) (c : UInt8) : Lib.byteCells (v ++ [c]) = Lib.byteCells v ++ [.int .u8 (c.toNat : Int)] := by simp [Lib.byteCells]
theorem keep_low {w W W' : World} {g : Nat} (hk : KeepBut w W g none) (h : Below w.heap.size W W') : KeepBut w W' g none := ⟨Nat.le_trans hk.1 h.size, fun i hi hg hr => (h.block i hi).trans (hk.2 i hi hg hr)⟩
set_option maxHeartbeats 2000000 in
set_option maxRecDepth 100000 in
theorem quoted_call {w0 w : World} {g : Nat} {s : ByteArray} {a : Nat} {l : Bs} (h : RdS w0 w g s a (34 :: l)) : Calls Try.prog 39 #[.pointer (some ⟨g, 0, none⟩)] w (EndsR w0 w g s (inQuotes l (a + 1))) := by
  have hg : g < w.heap.size := blk_lt h.st.1
  have hw0 : w0.heap.size ≤ w.heap.size := h.below.size
  have hfr := Lib.fresh_isBuilder 48 5 w
  have hb0 := below_alloc (Below.refl w.heap.size w) (.cells #[.pointer none, .slice none 0 0] 48)
  have h1 := rd_below h hb0 hg hw0
  have hpos : a + 1 + l.length ≤ 4096 := by have e1 := h.le; have e2 := h.small; simp at e1; omega
  have hw1 := wrap_succ a (by omega)
  clear h
  have k1 := h1.c1
  have k2 := h1.f1
  have HR1 := Aside0.mk (h1.tail (h1.set (a + 1)).1 (h1.set (a + 1)).2)
  have hk1 : KeepBut (w.alloc (.cells #[.pointer none, .slice none 0 0] 48)) ((w.alloc (.cells #[.pointer none, .slice none 0 0] 48)).setCell ⟨g, 1, none⟩ (.int .i64 ((a + 1 : Nat) : Int))) g none := KeepBut.set_ (KeepBut.refl _ _ _) _ _
  have HB1 := Aside0.mk (build_keep hfr hk1 hg)
  have HK1 := Aside0.mk (keep_trans (KeepBut.of_below hb0 g none) hk1)
  have HW := Aside0.mk hw1
  have HG := Aside0.mk hg
  have HW0 := Aside0.mk hw0
  have HPOS := Aside0.mk hpos
  clear hw1 hfr hb0 h1 hk1 hg hw0 hpos
  go_enter Try.func39, Try.ntmps39
  go_wp2_with fail
  rw [HW.out]
  clear k1 k2 HW
  generalize (w.alloc (.cells #[.pointer none, .slice none 0 0] 48)).setCell ⟨g, 1, none⟩ (.int .i64 ((a + 1 : Nat) : Int)) = W1 at *
  go_loopg [4] (l.length + 1) (fun kq v4 wr => ∃ (v r : Bs) (b : Nat), Aside0 (inQuotes l (a + 1) = preR v (inQuotes r b)) ∧ Aside0 (v.length + r.length ≤ l.length) ∧ Aside0 (Lib.IsBuilder 48 5 w.heap.size w.heap.size (Lib.byteCells v) wr) ∧ Aside0 (RdS w0 wr g s b r) ∧ Aside0 (KeepBut w wr g none) ∧ Aside0 (r.length < kq))
  case atStart => exact ⟨[], l, a + 1, ⟨(preR_nil _).symm⟩, ⟨by simp⟩, HB1, HR1, HK1, ⟨by omega⟩⟩
  case round =>
    obtain ⟨v, r, b, HS, HVR, HBn, HRn, HKn, HQ⟩ := hrel
    clear HB1 HR1 HK1
    cases gk with
    | zero => exact absurd HQ.out (by omega)
    | succ k1 =>
      have HVL : Aside0 (v.length ≤ 4096) := ⟨by have := HVR.out; have := HPOS.out; omega⟩
      have hsz := HKn.out.1
      cases r with
      | nil =>
        have b34 : (((hd []).toNat : Int) != 34) = true := rfl
        have HPL := Aside0.mk (plainQ (hd []))
        have HBL := Aside0.mk (blankQ (hd []))
        have hpl : isPl (hd []) = false := by decide
        have hbl : isBl (hd []) = false := by decide
        rw [hpl] at HPL
        rw [hbl] at HBL
        clear hpl hbl
        go_wp2_with (first | (go_at_call 29; refine (look_call HRn.out).mono ?_; rintro e W2 ⟨rfl, hR_, hK_⟩; have HRo := Aside0.mk hR_; have HBo := Aside0.mk (build_keep HBn.out hK_ HG.out); have HKo := Aside0.mk (keep_trans HKn.out hK_); clear hR_ hK_ HRn HBn HKn; have HRn := HRo; have HBn := HBo; have HKn := HKo; clear HRo HBo HKo) | (go_at_call 20; refine (HPL.out _).mono ?_; rintro e W5 ⟨rfl, q5, hW5⟩; have hr := drawn_rd HRn.out ⟨⟨q5, hW5⟩⟩; clear hW5; have HRo := Aside0.mk hr.1; have HBo := Aside0.mk (build_keep HBn.out hr.2 HG.out); have HKo := Aside0.mk (keep_trans HKn.out hr.2); clear hr HRn HBn HKn; have HRn := HRo; have HBn := HBo; have HKn := HKo; clear HRo HBo HKo) | (go_at_call 38; refine (HBL.out _).mono ?_; rintro e W5 ⟨rfl, q5, hW5⟩; have hr := drawn_rd HRn.out ⟨⟨q5, hW5⟩⟩; clear hW5; have HRo := Aside0.mk hr.1; have HBo := Aside0.mk (build_keep HBn.out hr.2 HG.out); have HKo := Aside0.mk (keep_trans HKn.out hr.2); clear hr HRn HBn HKn; have HRn := HRo; have HBn := HBo; have HKn := HKo; clear HRo HBo HKo) | (go_at_call 30; refine (fail_call HRn.out).mono ?_; rintro e W9 ⟨rfl, hW9⟩; rw [hW9]; clear hW9) | fail)
        exact ⟨rfl, HKn.out, HRn.out.below, by rw [HS.out, qend]; rfl⟩
      | cons c t =>
        have hbs : b + 1 ≤ 4096 := by have e1 := HRn.out.le; have e2 := HRn.out.small; simp at e1; omega
        have HWW := Aside0.mk (wrap_succ b (by omega))
        have HLEN := Aside0.mk (show t.length + 1 = (c :: t).length from rfl)
        clear hbs
        by_cases h34 : c = 34
        · subst h34
          have b34 : (((hd (34 :: t)).toNat : Int) != 34) = false := rfl
          go_upto_region 12 with (first | (go_at_call 29; refine (look_call HRn.out).mono ?_; rintro e W2 ⟨rfl, hR_, hK_⟩; have HRo := Aside0.mk hR_; have HBo := Aside0.mk (build_keep HBn.out hK_ HG.out); have HKo := Aside0.mk (keep_trans HKn.out hK_); clear hR_ hK_ HRn HBn HKn; have HRn := HRo; have HBn := HBo; have HKn := HKo; clear HRo HBo HKo; have j1 := HRn.out.c1; have j2 := HRn.out.f1) | fail)
          rw [HWW.out]
          have hk := KeepBut.set_ (KeepBut.refl W2 g none) 1 (.int .i64 ((b + 1 : Nat) : Int))
          have HR3 := Aside0.mk (HRn.out.tail (HRn.out.set (b + 1)).1 (HRn.out.set (b + 1)).2)
          have HB3 := Aside0.mk (build_keep HBn.out hk HG.out)
          have HK3 := Aside0.mk (keep_trans HKn.out hk)
          clear hk j1 j2 HRn HBn HKn
          generalize W2.setCell ⟨g, 1, none⟩ (.int .i64 ((b + 1 : Nat) : Int)) = W3 at *
          go_wp2_with (first | (go_at_call 23; refine (Try.Builder_String_any w.heap.size w.heap.size v _ HB3.out HK3.out.1).mono ?_; rintro e W6 ⟨rfl, hb_⟩; have HR6 := Aside0.mk (rd_below HR3.out hb_ HG.out HW0.out); have HK6 := Aside0.mk (keep_low HK3.out hb_); clear hb_) | fail)
          go_ret
          refine ⟨HK6.out, HR6.out.below, ?_⟩
          rw [HS.out, q34]
          exact ⟨by rw [List.append_nil]; rfl, HR6.out⟩
        · have b34 : (((hd (c :: t)).toNat : Int) != 34) = true := bne_iff_ne.mpr (fun h => h34 (u8_inj (y := 34) h))
          have HPL := Aside0.mk (plainQ (hd (c :: t)))
          have HBL := Aside0.mk (blankQ (hd (c :: t)))
          cases hp : isPl c with
          | true =>
            have hfine : fine c = true := by rw [fine_eq, hp]; rfl
            have hp' : isPl (hd (c :: t)) = true := hp
            rw [hp'] at HPL
            clear hp hp' hsz
            by_cases h92 : c = 92
            · subst h92
              have b92 : (((hd (92 :: t)).toNat : Int) == 92) = true := rfl
              cases hX : escR t (b + 1) with
              | error q =>
                have HX := Aside0.mk hX
                clear hX
                go_wp2_with (first | (go_at_call 29; refine (look_call HRn.out).mono ?_; rintro e W2 ⟨rfl, hR_, hK_⟩; have HRo := Aside0.mk hR_; have HBo := Aside0.mk (build_keep HBn.out hK_ HG.out); have HKo := Aside0.mk (keep_trans HKn.out hK_); clear hR_ hK_ HRn HBn HKn; have HRn := HRo; have HBn := HBo; have HKn := HKo; clear HRo HBo HKo) | (go_at_call 20; refine (HPL.out _).mono ?_; rintro e W5 ⟨rfl, q5, hW5⟩; have hr := drawn_rd HRn.out ⟨⟨q5, hW5⟩⟩; clear hW5; have HRo := Aside0.mk hr.1; have HBo := Aside0.mk (build_keep HBn.out hr.2 HG.out); have HKo := Aside0.mk (keep_trans HKn.out hr.2); clear hr HRn HBn HKn; have HRn := HRo; have HBn := HBo; have HKn := HKo; clear HRo HBo HKo) | (go_at_call 42; refine (escape_call HRn.out).mono ?_; rw [HX.out]; rintro e W7 ⟨hK_, hB_, rfl⟩; have HK7 := Aside0.mk (keep_trans HKn.out hK_)) | fail)
                exact ⟨rfl, HK7.out, hB_, by rw [HS.out, quoted_esc, HX.out]; rfl⟩
              | ok y =>
                obtain ⟨x, r', q'⟩ := y
                obtain ⟨lc, r2, hr2, hrl⟩ := esc_len hX
                subst hr2
                have HX := Aside0.mk hX
                have HLEN2 := Aside0.mk hrl
                clear hX hrl HLEN HWW
                go_wp2_with (first | (go_at_call 29; refine (look_call HRn.out).mono ?_; rintro e W2 ⟨rfl, hR_, hK_⟩; have HRo := Aside0.mk hR_; have HBo := Aside0.mk (build_keep HBn.out hK_ HG.out); have HKo := Aside0.mk (keep_trans HKn.out hK_); clear hR_ hK_ HRn HBn HKn; have HRn := HRo; have HBn := HBo; have HKn := HKo; clear HRo HBo HKo) | (go_at_call 20; refine (HPL.out _).mono ?_; rintro e W5 ⟨rfl, q5, hW5⟩; have hr := drawn_rd HRn.out ⟨⟨q5, hW5⟩⟩; clear hW5; have HRo := Aside0.mk hr.1; have HBo := Aside0.mk (build_keep HBn.out hr.2 HG.out); have HKo := Aside0.mk (keep_trans HKn.out hr.2); clear hr HRn HBn HKn; have HRn := HRo; have HBn := HBo; have HKn := HKo; clear HRo HBo HKo) | (go_at_call 42; refine (escape_call HRn.out).mono ?_; rw [HX.out]; rintro e W7 ⟨hK_, hB_, rfl, hR_⟩; have HBo := Aside0.mk (build_keep HBn.out hK_ HG.out); have HKo := Aside0.mk (keep_trans HKn.out hK_); have HRo := Aside0.mk hR_; clear hR_ hK_ hB_ HRn HBn HKn; have HRn := HRo; have HBn := HBo; have HKn := HKo; clear HRo HBo HKo) | (go_at_call 19; refine (Try.Builder_WriteByte w.heap.size w.heap.size _ _ _ HBn.out (by rw [Lib.byteCells_length]; have := HVL.out; omega) HKn.out.1).mono ?_; rintro e W6 ⟨rfl, hB_, hb_⟩; have HRo := Aside0.mk (rd_below HRn.out hb_ HG.out HW0.out); have HBo : Aside0 (Lib.IsBuilder 48 5 w.heap.size w.heap.size (Lib.byteCells (v ++ [x])) W6) := ⟨Or.inr (by rw [cells_snoc]; exact hB_)⟩; have HKo := Aside0.mk (keep_low HKn.out hb_); clear hB_ hb_ HRn HBn HKn; have HRn := HRo; have HBn := HBo; have HKn := HKo; clear HRo HBo HKo; have j1 := HRn.out.c1; have j2 := HRn.out.f1) | fail)
                have hqs : q' + 1 ≤ 4096 := by have e1 := HRn.out.le; have e2 := HRn.out.small; simp at e1; omega
                rw [wrap_succ q' (by omega)]
                go_roundg k1
                case measure => omega
                case rel =>
                  have hk := KeepBut.set_ (KeepBut.refl W6 g none) 1 (.int .i64 ((q' + 1 : Nat) : Int))
                  refine ⟨v ++ [x], r2, q' + 1, ⟨?_⟩, ⟨by have := HVR.out; have := HLEN2.out; simp at *; omega⟩, ⟨build_keep HBn.out hk HG.out⟩, ⟨HRn.out.tail (HRn.out.set (q' + 1)).1 (HRn.out.set (q' + 1)).2⟩, ⟨keep_trans HKn.out hk⟩, ⟨by have := HQ.out; have := HLEN2.out; simp at *; omega⟩⟩
                  rw [HS.out, quoted_esc, HX.out]
                  exact preR_app v x _
            · have b92 : (((hd (c :: t)).toNat : Int) == 92) = false := beq_eq_false_iff_ne.mpr (fun h => h92 (u8_inj (y := 92) h))
              go_wp2_with (first | (go_at_call 29; refine (look_call HRn.out).mono ?_; rintro e W2 ⟨rfl, hR_, hK_⟩; have HRo := Aside0.mk hR_; have HBo := Aside0.mk (build_keep HBn.out hK_ HG.out); have HKo := Aside0.mk (keep_trans HKn.out hK_); clear hR_ hK_ HRn HBn HKn; have HRn := HRo; have HBn := HBo; have HKn := HKo; clear HRo HBo HKo) | (go_at_call 20; refine (HPL.out _).mono ?_; rintro e W5 ⟨rfl, q5, hW5⟩; have hr := drawn_rd HRn.out ⟨⟨q5, hW5⟩⟩; clear hW5; have HRo := Aside0.mk hr.1; have HBo := Aside0.mk (build_keep HBn.out hr.2 HG.out); have HKo := Aside0.mk (keep_trans HKn.out hr.2); clear hr HRn HBn HKn; have HRn := HRo; have HBn := HBo; have HKn := HKo; clear HRo HBo HKo) | (go_at_call 19; refine (Try.Builder_WriteByte w.heap.size w.heap.size _ _ _ HBn.out (by rw [Lib.byteCells_length]; have := HVL.out; omega) HKn.out.1).mono ?_; rintro e W6 ⟨rfl, hB_, hb_⟩; have HRo := Aside0.mk (rd_below HRn.out hb_ HG.out HW0.out); have HBo : Aside0 (Lib.IsBuilder 48 5 w.heap.size w.heap.size (Lib.byteCells (v ++ [c])) W6) := ⟨Or.inr (by rw [cells_snoc]; exact hB_)⟩; have HKo := Aside0.mk (keep_low HKn.out hb_); clear hB_ hb_ HRn HBn HKn; have HRn := HRo; have HBn := HBo; have HKn := HKo; clear HRo HBo HKo; have j1 := HRn.out.c1; have j2 := HRn.out.f1) | fail)
              rw [HWW.out]
              go_roundg k1
              case measure => omega
              case rel =>
                have hk := KeepBut.set_ (KeepBut.refl W6 g none) 1 (.int .i64 ((b + 1 : Nat) : Int))
                refine ⟨v ++ [c], t, b + 1, ⟨?_⟩, ⟨by have := HVR.out; have := HLEN.out; simp at *; omega⟩, ⟨build_keep HBn.out hk HG.out⟩, ⟨HRn.out.tail (HRn.out.set (b + 1)).1 (HRn.out.set (b + 1)).2⟩, ⟨keep_trans HKn.out hk⟩, ⟨by have := HQ.out; have := HLEN.out; simp at *; omega⟩⟩
                rw [HS.out, qplain c t b h34 hfine h92]
                exact preR_cons v c _
          | false =>
            have hp' : isPl (hd (c :: t)) = false := hp
            rw [hp'] at HPL
            cases hb : isBl c with
            | true =>
              have hfine : fine c = true := by rw [fine_eq, hp, hb]; rfl
              have hb' : isBl (hd (c :: t)) = true := hb
              rw [hb'] at HBL
              have h92 : ¬ c = 92 := fun e => by rw [e] at hb; exact absurd hb (by decide)
              have b92 : (((hd (c :: t)).toNat : Int) == 92) = false := beq_eq_false_iff_ne.mpr (fun h => h92 (u8_inj (y := 92) h))
              clear hp hp' hb hb' hsz
              go_wp2_with (first | (go_at_call 29; refine (look_call HRn.out).mono ?_; rintro e W2 ⟨rfl, hR_, hK_⟩; have HRo := Aside0.mk hR_; have HBo := Aside0.mk (build_keep HBn.out hK_ HG.out); have HKo := Aside0.mk (keep_trans HKn.out hK_); clear hR_ hK_ HRn HBn HKn; have HRn := HRo; have HBn := HBo; have HKn := HKo; clear HRo HBo HKo) | (go_at_call 20; refine (HPL.out _).mono ?_; rintro e W5 ⟨rfl, q5, hW5⟩; have hr := drawn_rd HRn.out ⟨⟨q5, hW5⟩⟩; clear hW5; have HRo := Aside0.mk hr.1; have HBo := Aside0.mk (build_keep HBn.out hr.2 HG.out); have HKo := Aside0.mk (keep_trans HKn.out hr.2); clear hr HRn HBn HKn; have HRn := HRo; have HBn := HBo; have HKn := HKo; clear HRo HBo HKo) | (go_at_call 38; refine (HBL.out _).mono ?_; rintro e W5 ⟨rfl, q5, hW5⟩; have hr := drawn_rd HRn.out ⟨⟨q5, hW5⟩⟩; clear hW5; have HRo := Aside0.mk hr.1; have HBo := Aside0.mk (build_keep HBn.out hr.2 HG.out); have HKo := Aside0.mk (keep_trans HKn.out hr.2); clear hr HRn HBn HKn; have HRn := HRo; have HBn := HBo; have HKn := HKo; clear HRo HBo HKo) | (go_at_call 19; refine (Try.Builder_WriteByte w.heap.size w.heap.size _ _ _ HBn.out (by rw [Lib.byteCells_length]; have := HVL.out; omega) HKn.out.1).mono ?_; rintro e W6 ⟨rfl, hB_, hb_⟩; have HRo := Aside0.mk (rd_below HRn.out hb_ HG.out HW0.out); have HBo : Aside0 (Lib.IsBuilder 48 5 w.heap.size w.heap.size (Lib.byteCells (v ++ [c])) W6) := ⟨Or.inr (by rw [cells_snoc]; exact hB_)⟩; have HKo := Aside0.mk (keep_low HKn.out hb_); clear hB_ hb_ HRn HBn HKn; have HRn := HRo; have HBn := HBo; have HKn := HKo; clear HRo HBo HKo; have j1 := HRn.out.c1; have j2 := HRn.out.f1) | fail)
              rw [HWW.out]
              go_roundg k1
              case measure => omega
              case rel =>
                have hk := KeepBut.set_ (KeepBut.refl W6 g none) 1 (.int .i64 ((b + 1 : Nat) : Int))
                refine ⟨v ++ [c], t, b + 1, ⟨?_⟩, ⟨by have := HVR.out; have := HLEN.out; simp at *; omega⟩, ⟨build_keep HBn.out hk HG.out⟩, ⟨HRn.out.tail (HRn.out.set (b + 1)).1 (HRn.out.set (b + 1)).2⟩, ⟨keep_trans HKn.out hk⟩, ⟨by have := HQ.out; have := HLEN.out; simp at *; omega⟩⟩
                rw [HS.out, qplain c t b h34 hfine h92]
                exact preR_cons v c _
            | false =>
              have hfine : fine c = false := by rw [fine_eq, hp, hb]; rfl
              have hb' : isBl (hd (c :: t)) = false := hb
              rw [hb'] at HBL
              clear hp hp' hb hb' hsz
              go_wp2_with (first | (go_at_call 29; refine (look_call HRn.out).mono ?_; rintro e W2 ⟨rfl, hR_, hK_⟩; have HRo := Aside0.mk hR_; have HBo := Aside0.mk (build_keep HBn.out hK_ HG.out); have HKo := Aside0.mk (keep_trans HKn.out hK_); clear hR_ hK_ HRn HBn HKn; have HRn := HRo; have HBn := HBo; have HKn := HKo; clear HRo HBo HKo) | (go_at_call 20; refine (HPL.out _).mono ?_; rintro e W5 ⟨rfl, q5, hW5⟩; have hr := drawn_rd HRn.out ⟨⟨q5, hW5⟩⟩; clear hW5; have HRo := Aside0.mk hr.1; have HBo := Aside0.mk (build_keep HBn.out hr.2 HG.out); have HKo := Aside0.mk (keep_trans HKn.out hr.2); clear hr HRn HBn HKn; have HRn := HRo; have HBn := HBo; have HKn := HKo; clear HRo HBo HKo) | (go_at_call 38; refine (HBL.out _).mono ?_; rintro e W5 ⟨rfl, q5, hW5⟩; have hr := drawn_rd HRn.out ⟨⟨q5, hW5⟩⟩; clear hW5; have HRo := Aside0.mk hr.1; have HBo := Aside0.mk (build_keep HBn.out hr.2 HG.out); have HKo := Aside0.mk (keep_trans HKn.out hr.2); clear hr HRn HBn HKn; have HRn := HRo; have HBn := HBo; have HKn := HKo; clear HRo HBo HKo) | (go_at_call 30; refine (fail_call HRn.out).mono ?_; rintro e W9 ⟨rfl, hW9⟩; rw [hW9]; clear hW9) | fail)
              exact ⟨rfl, HKn.out, HRn.out.below, by rw [HS.out, qbad c t b h34 hfine]; rfl⟩
end Go.Proofs.Ytkoldjmhcifpjaa.readf
/-! ## ReadG -/
namespace Go.Proofs.Ytkoldjmhcifpjaa.readg
open Go Go.RowKit Go.Proofs.Ytkoldjmhcifpjaa.parsep Go.Proofs.Ytkoldjmhcifpjaa.reada Go.Proofs.Ytkoldjmhcifpjaa.readb Go.Proofs.Ytkoldjmhcifpjaa.readc Go.Proofs.Ytkoldjmhcifpjaa.readd Go.Proofs.Ytkoldjmhcifpjaa.reade Go.Proofs.Ytkoldjmhcifpjaa.readf Go.Proofs.Ytkoldjmhcifpjaa.PShellReads Go.Proofs.YtkoldjmhcifpjaaW.PrintWords
set_option linter.unusedVariables false
set_option linter.unusedSimpArgs false
theorem bare_stop (r : Bs) (b : Nat) (h : over r = true) : bare r b = .ok ([], r, b) := by
  cases r with
  | nil => rfl
  | cons c t => simp [bare, show isBl c = true from h]
set_option maxHeartbeats 2000000 in
set_option maxRecDepth 100000 in
theorem value_call {w0 w : World} {g : Nat} {s : ByteArray} {a : Nat} {l : Bs} (h : RdS w0 w g s a l) : Calls Try.prog 31 #[.pointer (some ⟨g, 0, none⟩)] w (EndsR w0 w g s (parsep.value l a)) := by
  have HR := Aside0.mk h
  have HS0 := Aside0.mk h.rest
  clear h
  go_enter Try.func31, Try.ntmps31
  have b34g := hd_is l 34 34 rfl (by decide)
  by_cases h34 : l.head? = some 34
  · obtain ⟨t, rfl⟩ : ∃ t, l = 34 :: t := by
      cases l with
      | nil => simp at h34
      | cons c t => exact ⟨t, by simp at h34; rw [h34]⟩
    have b34 : (((hd (34 :: t)).toNat : Int) == 34) = true := rfl
    have hv : parsep.value (34 :: t) a = inQuotes t (a + 1) := by simp [parsep.value]
    have HV := Aside0.mk hv
    clear h34 b34g hv
    cases hX : inQuotes t (a + 1) with
    | error q =>
      have HX := Aside0.mk hX
      clear hX
      go_wp2_with (first | (go_at_call 29; refine (look_call HR.out).mono ?_; rintro e W2 ⟨rfl, hR_, hK_⟩; have HR2 := Aside0.mk hR_; have HK2 := Aside0.mk hK_; have j0 := HR2.out.c0; have j1 := HR2.out.c1; clear hR_ hK_ HR) | (go_at_call 39; refine (quoted_call HR2.out).mono ?_; rw [HX.out]; rintro e W3 ⟨hK_, hB_, rfl⟩) | fail)
      exact ⟨rfl, keep_trans HK2.out hK_, hB_, by rw [HV.out, HX.out]⟩
    | ok y =>
      obtain ⟨x, r, q⟩ := y
      have HX := Aside0.mk hX
      clear hX
      go_wp2_with (first | (go_at_call 29; refine (look_call HR.out).mono ?_; rintro e W2 ⟨rfl, hR_, hK_⟩; have HR2 := Aside0.mk hR_; have HK2 := Aside0.mk hK_; have j0 := HR2.out.c0; have j1 := HR2.out.c1; clear hR_ hK_ HR) | (go_at_call 39; refine (quoted_call HR2.out).mono ?_; rw [HX.out]; rintro e W3 ⟨hK_, hB_, rfl, hR_⟩) | fail)
      go_ret
      exact ⟨keep_trans HK2.out hK_, hB_, by rw [HV.out, HX.out]; exact ⟨rfl, hR_⟩⟩
  · rw [decide_eq_false h34] at b34g
    have b34 : (((hd l).toNat : Int) == 34) = false := b34g
    have hv : parsep.value l a = bare l a := by
      cases l with
      | nil => rfl
      | cons c t => simp [parsep.value, show ¬ c = 34 from fun e => h34 (by rw [e]; rfl)]
    have HV := Aside0.mk hv
    clear b34g hv h34
    go_wp2_with (first | (go_at_call 29; refine (look_call HR.out).mono ?_; rintro e W2 ⟨rfl, hR_, hK_⟩; have HR2 := Aside0.mk hR_; have HK2 := Aside0.mk hK_; have j0 := HR2.out.c0; have j1 := HR2.out.c1; clear hR_ hK_ HR) | fail)
    clear j0 j1 b34
    go_loopg [] (l.length + 1) (fun kq wr => ∃ (x r : Bs) (b : Nat), Aside0 (bare l a = preR x (bare r b)) ∧ Aside0 (l = x ++ r) ∧ Aside0 (b = a + x.length) ∧ Aside0 (RdS w0 wr g s b r) ∧ Aside0 (KeepBut w wr g none) ∧ Aside0 (r.length < kq))
    case atStart => exact ⟨[], l, a, ⟨(preR_nil _).symm⟩, ⟨rfl⟩, ⟨rfl⟩, HR2, HK2, ⟨by omega⟩⟩
    case round =>
      obtain ⟨x, r, b, HS, HX, HB, HRn, HKn, HQ⟩ := hrel
      clear HR2 HK2
      cases gk with
      | zero => exact absurd HQ.out (by omega)
      | succ k1 =>
        have hle := HRn.out.le
        have hsm := HRn.out.small
        cases ho : over r with
        | true =>
          have i0 : (0 : Int) ≤ (a : Int) := by omega
          have i1 : (a : Int) ≤ (b : Int) := by have := HB.out; omega
          have i2 : (b : Int) ≤ (s.size : Int) := by omega
          have hres := bare_stop r b ho
          have HRES := Aside0.mk hres
          have HX2 := Aside0.mk (show s.data.toList.drop a = x ++ r by rw [HS0.out]; exact HX.out)
          clear hle hsm hres
          go_upto_region 8 with (first | (go_at_call 28; refine (over_call HRn.out).mono ?_; rintro e W3 ⟨rfl, hR_, hK_⟩; rw [ho]; have HRo := Aside0.mk hR_; have HKo := Aside0.mk (keep_trans HKn.out hK_); clear hR_ hK_ HRn HKn; have HRn := HRo; have HKn := HKo; clear HRo HKo; have j0 := HRn.out.c0; have j1 := HRn.out.c1) | fail)
          go_quiet (fail)
          go_wp2_with fail
          go_ret
          have hr := drawn_rd HRn.out ⟨⟨nq, rfl⟩⟩
          refine ⟨keep_trans HKn.out hr.2, hr.1.below, ?_⟩
          rw [HV.out, HS.out, HRES.out]
          refine ⟨?_, hr.1⟩
          rw [List.append_nil, extract_eq s a b x r HX2.out HB.out]
          rfl
        | false =>
          obtain ⟨c, t, hr0, hb⟩ := over_skip r ho
          subst hr0
          have hs : b < s.size := by simp at hle; omega
          have hix := idx HRn.out.rest hs
          have i0 : (0 : Int) ≤ (b : Int) := by omega
          have i1 : (b : Int) < (s.size : Int) := by omega
          have HW := Aside0.mk (wrap_succ b (by omega))
          have HBL := Aside0.mk hb
          have HIX := Aside0.mk hix
          have hpl := plainQ c
          cases hp : isPl c with
          | true =>
            rw [hp] at hpl
            have HPL := Aside0.mk hpl
            have HP := Aside0.mk hp
            clear hle hsm hpl hb hp
            go_upto_region 5 with (first | (go_at_call 28; refine (over_call HRn.out).mono ?_; rintro e W3 ⟨rfl, hR_, hK_⟩; rw [ho]; have HRo := Aside0.mk hR_; have HKo := Aside0.mk (keep_trans HKn.out hK_); clear hR_ hK_ HRn HKn; have HRn := HRo; have HKn := HKo; clear HRo HKo; have j0 := HRn.out.c0; have j1 := HRn.out.c1) | fail)
            go_quiet ((go_at_call 20; exact Calls.quiet_of (HPL.out _)))
            have hr := drawn_rd HRn.out ⟨⟨nq, rfl⟩⟩
            have HR4 := Aside0.mk hr.1
            have HK4 := Aside0.mk (keep_trans HKn.out hr.2)
            clear hr j0 j1
            generalize W3.drewN nq = W4 at *
            have j1 := HR4.out.c1
            have j2 := HR4.out.f1
            go_wp2_with fail
            rw [HW.out]
            go_roundg k1
            case measure => omega
            case rel =>
              refine ⟨x ++ [c], t, b + 1, ⟨?_⟩, ⟨by rw [HX.out]; simp⟩, ⟨by have := HB.out; simp; omega⟩, ⟨HR4.out.tail (HR4.out.set (b + 1)).1 (HR4.out.set (b + 1)).2⟩, ⟨keep_trans HK4.out (KeepBut.set_ (KeepBut.refl _ _ _) _ _)⟩, ⟨by have := HQ.out; simp at this; omega⟩⟩
              rw [HS.out]
              have e : bare (c :: t) b = (match bare t (b + 1) with | .error q => .error q | .ok (v, r, q) => .ok (c :: v, r, q)) := by simp only [bare, HBL.out, HP.out, Bool.false_eq_true, if_false, if_true]; cases bare t (b + 1) <;> rfl
              rw [e]
              exact preR_cons x c _
          | false =>
            rw [hp] at hpl
            have HPL := Aside0.mk hpl
            have hres : bare (c :: t) b = .error b := by simp [bare, hb, hp]
            have HRES := Aside0.mk hres
            clear hle hsm hpl hb hp hres
            go_upto_region 5 with (first | (go_at_call 28; refine (over_call HRn.out).mono ?_; rintro e W3 ⟨rfl, hR_, hK_⟩; rw [ho]; have HRo := Aside0.mk hR_; have HKo := Aside0.mk (keep_trans HKn.out hK_); clear hR_ hK_ HRn HKn; have HRn := HRo; have HKn := HKo; clear HRo HKo; have j0 := HRn.out.c0; have j1 := HRn.out.c1) | fail)
            go_quiet ((go_at_call 20; exact Calls.quiet_of (HPL.out _)))
            have hr := drawn_rd HRn.out ⟨⟨nq, rfl⟩⟩
            have HR4 := Aside0.mk hr.1
            have HK4 := Aside0.mk (keep_trans HKn.out hr.2)
            clear hr j0 j1
            generalize W3.drewN nq = W4 at *
            go_wp2_with (first | (go_at_call 30; refine (fail_call HR4.out).mono ?_; rintro e W9 ⟨rfl, hW9⟩; rw [hW9]; clear hW9) | fail)
            exact ⟨rfl, HK4.out, HR4.out.below, by rw [HV.out, HS.out, HRES.out]; rfl⟩
end Go.Proofs.Ytkoldjmhcifpjaa.readg
