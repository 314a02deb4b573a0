/- Functions as the kit's print has them, taken out of a part that holds one that does not build. (Written by takeout.py.) Functions as the kit's print has them, taken out of a part that holds one that does not build. (Written by takeout.py.) Functions as the kit's print has them, taken out of a part that holds one that does not build. (Written by takeout.py.) The table of the kinds of ciphers, as the Go text makes it. A kind by its name: the search in the table. A cipher's key, by its name: plain words. A cipher's key, by its name: the Go text. (Merged by merge.py.) -/
import Derived.Test.YtpmbfibjldnaiaaGreatDoorPProbeSpotsx0
import Derived.WalkKit
import Derived.WalkLawsBesides
import Derived.Below
import Derived.BigCall
import Derived.Deep.QuietTactic
import Derived.BigQuiet
/-! ## CutA -/
namespace Go.Proofs.YtpmbfibjldnaiaaGreatDoor.PProbeSpots
open Go.RowKit Go.Proofs.YtpmbfibjldnaiaaGreatDoorW.PrintWords Go.Proofs.YtpmbfibjldnaiaaGreatDoorW.PrintLast Go.Proofs.YtpmbfibjldnaiaaGreatDoorW.PrintMore
attribute [local go_sem] max2_int min2_int max_two min_two max_three min_three max_four min_four   -- for this text's walks alone
set_option linter.unusedVariables false
set_option linter.unusedSimpArgs false
def stringslite_HasPrefix.f (a0 : ByteArray) (a1 : ByteArray) : Option (Bool) := if (a0.size : Int) ≥ (a1.size : Int) then (if 0 ≤ (a1.size : Int) then (if (a1.size : Int) ≤ (a0.size : Int) then (some ((a0.extract 0 ((a1.size : Int) : Int).toNat).toList == a1.toList)) else (none)) else (none)) else (some false)
set_option maxHeartbeats 8000000 in
set_option maxRecDepth 100000 in
theorem stringslite_HasPrefix.calls (a0 : ByteArray) (a1 : ByteArray) (r : Bool) (w : World) (h : stringslite_HasPrefix.f a0 a1 = some r) :
    Calls Tryz.prog 181 #[.string a0, .string a1] w fun e w' => e = .returned (.bool r) ∧ Drawn0 w w' := by
  have H : (if (a0.size : Int) ≥ (a1.size : Int) then (if 0 ≤ (a1.size : Int) then (if (a1.size : Int) ≤ (a0.size : Int) then (some ((a0.extract 0 ((a1.size : Int) : Int).toNat).toList == a1.toList)) else (none)) else (none)) else (some false)) = some r := h
  clear h
  by_cases c3 : (a0.size : Int) ≥ (a1.size : Int)
  · rw [if_pos c3] at H
    have c3b0 : decide ((a1.size : Int) ≤ (a0.size : Int)) = true := decide_eq_true c3
    have c3b1 : decide (a1.size ≤ a0.size) = true := decide_eq_true (Int.ofNat_le.mp c3)
    clear c3
    by_cases c4 : 0 ≤ (a1.size : Int)
    · rw [if_pos c4] at H
      have c4b0 := eq_true c4
      have c4b1 : decide (0 ≤ (a1.size : Int)) = true := decide_eq_true c4
      clear c4
      by_cases c5 : (a1.size : Int) ≤ (a0.size : Int)
      · rw [if_pos c5] at H
        have c5b0 := eq_true c5
        have c5b1 : decide ((a1.size : Int) ≤ (a0.size : Int)) = true := decide_eq_true c5
        clear c5
        obtain rfl := Option.some.inj H
        go_enter Tryz.func181, Tryz.ntmps181
        go_wp2
        go_ret
        exact ⟨by first | rfl | (simp; done) | (simp [*]; done), by repeat (first | exact Drawn0.refl _ | apply Drawn0.step)⟩
      · rw [if_neg c5] at H
        exact absurd H (by simp)
    · rw [if_neg c4] at H
      exact absurd H (by simp)
  · rw [if_neg c3] at H
    have c3b0 : decide ((a1.size : Int) ≤ (a0.size : Int)) = false := decide_eq_false c3
    have c3b1 : decide (a1.size ≤ a0.size) = false := decide_eq_false (fun h => c3 (Int.ofNat_le.mpr h))
    clear c3
    obtain rfl := Option.some.inj H
    go_enter Tryz.func181, Tryz.ntmps181
    go_wp2
    go_ret
    exact ⟨by first | rfl | (simp; done) | (simp [*]; done), by repeat (first | exact Drawn0.refl _ | apply Drawn0.step)⟩

/-! ### stringslite_CutPrefix: function 140 -/
def stringslite_CutPrefix.f (a0 : ByteArray) (a1 : ByteArray) : Option (ByteArray × Bool) := (stringslite_HasPrefix.f a0 a1).bind fun t109 => (if t109 = true then (if 0 ≤ (a1.size : Int) then (if (a1.size : Int) ≤ (a0.size : Int) then (some (a0.extract ((a1.size : Int) : Int).toNat a0.size, true)) else (none)) else (none)) else (some (a0, false)))
set_option maxHeartbeats 8000000 in
set_option maxRecDepth 100000 in
theorem stringslite_CutPrefix.calls (a0 : ByteArray) (a1 : ByteArray) (r1 : ByteArray) (r2 : Bool) (w : World) (h : stringslite_CutPrefix.f a0 a1 = some (r1, r2)) :
    Calls Tryz.prog 140 #[.string a0, .string a1] w fun e w' => e = .returned (.tuple #[.string r1, .bool r2]) ∧ Drawn0 w w' := by
  have H : ((stringslite_HasPrefix.f a0 a1).bind fun t109 => (if t109 = true then (if 0 ≤ (a1.size : Int) then (if (a1.size : Int) ≤ (a0.size : Int) then (some (a0.extract ((a1.size : Int) : Int).toNat a0.size, true)) else (none)) else (none)) else (some (a0, false)))) = some (r1, r2) := h
  clear h
  replace H := Option.bind_eq_some_iff.mp H
  obtain ⟨t109, A30, H⟩ := H
  replace H : (if t109 = true then (if 0 ≤ (a1.size : Int) then (if (a1.size : Int) ≤ (a0.size : Int) then (some (a0.extract ((a1.size : Int) : Int).toNat a0.size, true)) else (none)) else (none)) else (some (a0, false))) = some (r1, r2) := H
  have A3 := Aside0.mk A30
  clear A30
  by_cases c4 : t109 = true
  · subst c4
    have H1 : (if 0 ≤ (a1.size : Int) then (if (a1.size : Int) ≤ (a0.size : Int) then (some (a0.extract ((a1.size : Int) : Int).toNat a0.size, true)) else (none)) else (none)) = some (r1, r2) := by rw [if_pos rfl] at H; exact H
    clear H
    have H := H1
    clear H1
    by_cases c5 : 0 ≤ (a1.size : Int)
    · rw [if_pos c5] at H
      have c5b0 := eq_true c5
      have c5b1 : decide (0 ≤ (a1.size : Int)) = true := decide_eq_true c5
      clear c5
      by_cases c6 : (a1.size : Int) ≤ (a0.size : Int)
      · rw [if_pos c6] at H
        have c6b0 := eq_true c6
        have c6b1 : decide ((a1.size : Int) ≤ (a0.size : Int)) = true := decide_eq_true c6
        clear c6
        simp only [Option.some.injEq, Prod.mk.injEq] at H
        obtain ⟨rfl, rfl⟩ := H
        go_enter Tryz.func140, Tryz.ntmps140
        go_wp2_with (first | ((with_reducible refine gate_callee (f := 181) rfl ?_); refine goesL_ (some 8) rfl rfl Tryz.func181 (by kernel_rfl) rfl #[.string a0, .string a1] rfl (by (try simp only [List.map_toArray, List.map_cons, List.map_nil]); first | done | rfl | (simp only [List.length_drop, List.length_take]; rfl)) ?_; (with_reducible refine (stringslite_HasPrefix.calls a0 a1 true _ A3.out).mono ?_); rintro e w' ⟨rfl, ⟨nd, rfl⟩⟩; refine ⟨_, rfl, ?_⟩))
        go_ret2
        exact ⟨by first | rfl | (simp; done) | (simp [*]; done), by repeat (first | exact Drawn0.refl _ | apply Drawn0.step)⟩
      · rw [if_neg c6] at H
        exact absurd H (by simp)
    · rw [if_neg c5] at H
      exact absurd H (by simp)
  · replace c4 := Bool.eq_false_iff.mpr c4
    subst c4
    have H1 : (some (a0, false)) = some (r1, r2) := by rw [if_neg (show ¬ (false = true) by decide)] at H; exact H
    clear H
    have H := H1
    clear H1
    simp only [Option.some.injEq, Prod.mk.injEq] at H
    obtain ⟨rfl, rfl⟩ := H
    go_enter Tryz.func140, Tryz.ntmps140
    go_wp2_with (first | ((with_reducible refine gate_callee (f := 181) rfl ?_); refine goesL_ (some 8) rfl rfl Tryz.func181 (by kernel_rfl) rfl #[.string a0, .string a1] rfl (by (try simp only [List.map_toArray, List.map_cons, List.map_nil]); first | done | rfl | (simp only [List.length_drop, List.length_take]; rfl)) ?_; (with_reducible refine (stringslite_HasPrefix.calls a0 a1 false _ A3.out).mono ?_); rintro e w' ⟨rfl, ⟨nd, rfl⟩⟩; refine ⟨_, rfl, ?_⟩))
    go_ret2
    exact ⟨by first | rfl | (simp; done) | (simp [*]; done), by repeat (first | exact Drawn0.refl _ | apply Drawn0.step)⟩

/-! ### strings_CutPrefix: function 109 -/
def strings_CutPrefix.f (a0 : ByteArray) (a1 : ByteArray) : Option (ByteArray × Bool) := (stringslite_CutPrefix.f a0 a1).bind fun bt110 => (some (bt110.1, bt110.2))
set_option maxHeartbeats 8000000 in
set_option maxRecDepth 100000 in
theorem strings_CutPrefix.calls (a0 : ByteArray) (a1 : ByteArray) (r1 : ByteArray) (r2 : Bool) (w : World) (h : strings_CutPrefix.f a0 a1 = some (r1, r2)) :
    Calls Tryz.prog 109 #[.string a0, .string a1] w fun e w' => e = .returned (.tuple #[.string r1, .bool r2]) ∧ Drawn0 w w' := by
  have H : ((stringslite_CutPrefix.f a0 a1).bind fun bt110 => (some (bt110.1, bt110.2))) = some (r1, r2) := h
  clear h
  replace H := Option.bind_eq_some_iff.mp H
  obtain ⟨⟨t110, t111⟩, A30, H⟩ := H
  replace H : (some (t110, t111)) = some (r1, r2) := H
  have A3 := Aside0.mk A30
  clear A30
  simp only [Option.some.injEq, Prod.mk.injEq] at H
  obtain ⟨rfl, rfl⟩ := H
  go_enter Tryz.func109, Tryz.ntmps109
  go_wp2_with (first | ((with_reducible refine gate_callee (f := 140) rfl ?_); refine goesL_ (some 8) rfl rfl Tryz.func140 (by kernel_rfl) rfl #[.string a0, .string a1] rfl (by (try simp only [List.map_toArray, List.map_cons, List.map_nil]); first | done | rfl | (simp only [List.length_drop, List.length_take]; rfl)) ?_; (with_reducible refine (stringslite_CutPrefix.calls a0 a1 t110 t111 _ A3.out).mono ?_); rintro e w' ⟨rfl, ⟨nd, rfl⟩⟩; refine ⟨_, rfl, ?_⟩))
  go_ret2
  exact ⟨by first | rfl | (simp; done) | (simp [*]; done), by repeat (first | exact Drawn0.refl _ | apply Drawn0.step)⟩

end Go.Proofs.YtpmbfibjldnaiaaGreatDoor.PProbeSpots
/-! ## ShpA -/
namespace Go.Proofs.YtpmbfibjldnaiaaGreatDoor.PProbeSpots
open Go.RowKit Go.Proofs.YtpmbfibjldnaiaaGreatDoorW.PrintWords Go.Proofs.YtpmbfibjldnaiaaGreatDoorW.PrintLast Go.Proofs.YtpmbfibjldnaiaaGreatDoorW.PrintMore
attribute [local go_sem] max2_int min2_int max_two min_two max_three min_three max_four min_four   -- for this text's walks alone
set_option linter.unusedVariables false
set_option linter.unusedSimpArgs false
def slices_Index_int_int.l0 : Nat → List Int → Int → Int → Int → Option (Int)
  | 0, _, _, _, _ => none
  | k + 1, x0, x1, x7, x8 => if x8 < x7 then (if 0 ≤ x8 then (if x8 < (x0.length : Int) then (if x1 = (rd x0 x8) then (some x8) else (slices_Index_int_int.l0 k x0 x1 x7 (wrap64 (x8 + 1)))) else (none)) else (none)) else (some (-1))
def slices_Index_int_int.f (k : Nat) (l0 : List Int) (a1 : Int) : Option (Int) := slices_Index_int_int.l0 k l0 a1 (l0.length : Int) 0
theorem slices_Index_int_int.mono_l : ∀ k, (∀ y0 y1 y2 y3, LeO (slices_Index_int_int.l0 k y0 y1 y2 y3) (slices_Index_int_int.l0 (k + 1) y0 y1 y2 y3))
  | 0 => fun _ _ _ _ r h => by simp [slices_Index_int_int.l0] at h
  | k + 1 => by
    have ih0 := slices_Index_int_int.mono_l k
    · intro y0 y1 y2 y3
      unfold slices_Index_int_int.l0
      repeat' first
      | (with_reducible exact ih0 _ _ _ _)
      | (with_reducible exact LeO.refl _)
      | (with_reducible exact LeO.none _)
      | (with_reducible refine LeO.ite ?_ ?_)
      | (with_reducible refine LeO.bind ?_ (fun _ => ?_))
      | exact ih0 _ _ _ _
      | exact LeO.none _
      | refine LeO.ite ?_ ?_
      | refine LeO.bind ?_ (fun _ => ?_)
theorem slices_Index_int_int.mono : ∀ a0 a1 k, LeO (slices_Index_int_int.f k a0 a1) (slices_Index_int_int.f (k + 1) a0 a1) := by
  intro a0 a1 k
  have ih0 := slices_Index_int_int.mono_l k
  unfold slices_Index_int_int.f
  repeat' first
      | (with_reducible exact ih0 _ _ _ _)
      | (with_reducible exact LeO.refl _)
      | (with_reducible exact LeO.none _)
      | (with_reducible refine LeO.ite ?_ ?_)
      | (with_reducible refine LeO.bind ?_ (fun _ => ?_))
      | exact ih0 _ _ _ _
      | exact LeO.none _
      | refine LeO.ite ?_ ?_
      | refine LeO.bind ?_ (fun _ => ?_)
set_option maxHeartbeats 8000000 in
set_option maxRecDepth 100000 in
theorem slices_Index_int_int.calls (k : Nat) (A0 : Option Addr) (c0 : Nat) (l0 : List Int) (a1 : Int) (r : Int) (w : World) (hr0 : Kd.C (Kd.int .i64) w A0 l0.length l0) (hc0 : l0.length ≤ c0) (h : slices_Index_int_int.f k l0 a1 = some r) :
    Calls Tryz.prog 83 #[.slice A0 l0.length c0, .int .i64 a1] w fun e w' => e = .returned (.int .i64 r) ∧ Drawn0 w w' := by
  have HR0 := Aside0.mk hr0
  have HC0 := Aside0.mk hc0
  clear hr0 hc0
  have H : (slices_Index_int_int.l0 k l0 a1 (l0.length : Int) 0) = some r := h
  clear h
  have H' := Aside0.mk H
  clear H
  go_enter Tryz.func83, Tryz.ntmps83
  go_wp2
  go_loopg [8] k (fun kq v8 w' => ∃ (x8_1 : Int), v8 = .int .i64 x8_1 ∧ Aside0 (slices_Index_int_int.l0 kq l0 a1 (l0.length : Int) x8_1 = some r) ∧ Aside0 (kq ≤ k) ∧ Drawn0 w w')
  case atStart => exact ⟨(0), (by first | rfl | (simp; done) | (simp [*]; done)), H', ⟨Nat.le_refl _⟩, by repeat (first | exact Drawn0.refl _ | apply Drawn0.step)⟩
  case round =>
    clear H'
    try clear p2
    obtain ⟨x8_1, rfl, HA, HK1, ⟨m1, rfl⟩⟩ := hrel
    cases gk with
    | zero => exact absurd HA.out (by simp [slices_Index_int_int.l0])
    | succ k1 =>
      have H := HA.out
      clear HA
      simp only [slices_Index_int_int.l0] at H
      by_cases c3 : x8_1 < (l0.length : Int)
      · rw [if_pos c3] at H
        have c3b0 : decide (x8_1 < (l0.length : Int)) = true := decide_eq_true c3
        clear c3
        by_cases c4 : 0 ≤ x8_1
        · rw [if_pos c4] at H
          have c4b0 : decide (0 ≤ x8_1) = true := decide_eq_true c4
          clear c4
          by_cases c5 : x8_1 < (l0.length : Int)
          · rw [if_pos c5] at H
            have c5b0 : decide (x8_1 < (l0.length : Int)) = true := decide_eq_true c5
            clear c5
            by_cases c6 : a1 = (rd l0 x8_1)
            · rw [if_pos c6] at H
              have c6b0 : (a1 == (rd l0 x8_1)) = true := beq_iff_eq.mpr c6
              have c6b1 : (a1 != (rd l0 x8_1)) = false := bne_eq_false_iff_eq.mpr c6
              clear c6
              obtain rfl := Option.some.inj H
              have p119 : 0 ≤ (x8_1 : Int) := of_decide_eq_true (by first | (with_reducible assumption) | assumption)
              have q119 : x8_1 < (l0.length : Int) := of_decide_eq_true (by first | (with_reducible assumption) | assumption)
              obtain ⟨ad119, e119, hx119_0⟩ := Kd.at_int HR0.out x8_1 p119 q119
              cases e119
              replace p119 := eq_true p119
              replace q119 := eq_true q119
              go_wp2
              go_ret
              exact ⟨by first | rfl | (simp; done) | (simp [*]; done), by repeat (first | exact Drawn0.refl _ | apply Drawn0.step)⟩
            · rw [if_neg c6] at H
              have c6b0 : (a1 == (rd l0 x8_1)) = false := beq_eq_false_iff_ne.mpr c6
              have c6b1 : (a1 != (rd l0 x8_1)) = true := bne_iff_ne.mpr c6
              have H' := Aside0.mk H
              clear H
              have p119 : 0 ≤ (x8_1 : Int) := of_decide_eq_true (by first | (with_reducible assumption) | assumption)
              have q119 : x8_1 < (l0.length : Int) := of_decide_eq_true (by first | (with_reducible assumption) | assumption)
              obtain ⟨ad119, e119, hx119_0⟩ := Kd.at_int HR0.out x8_1 p119 q119
              cases e119
              replace p119 := eq_true p119
              replace q119 := eq_true q119
              go_wp2
              go_roundg k1
              case measure => have := HK1.out; omega
              case rel => exact ⟨(wrap64 (x8_1 + 1)), (by first | rfl | (simp; done) | (simp [*]; done)), H', ⟨by have := HK1.out; omega⟩, by repeat (first | exact Drawn0.refl _ | apply Drawn0.step)⟩
          · rw [if_neg c5] at H
            exact absurd H (by simp)
        · rw [if_neg c4] at H
          exact absurd H (by simp)
      · rw [if_neg c3] at H
        have c3b0 : decide (x8_1 < (l0.length : Int)) = false := decide_eq_false c3
        clear c3
        obtain rfl := Option.some.inj H
        go_wp2
        go_ret
        exact ⟨by first | rfl | (simp; done) | (simp [*]; done), by repeat (first | exact Drawn0.refl _ | apply Drawn0.step)⟩

/-! ### slices_Contains_int_int: function 46 -/
def slices_Contains_int_int.f (k : Nat) (l0 : List Int) (a1 : Int) : Option (Bool) := (slices_Index_int_int.f k l0 a1).bind fun t120 => (some (decide (t120 ≥ 0)))
theorem slices_Contains_int_int.mono : ∀ a0 a1 k, LeO (slices_Contains_int_int.f k a0 a1) (slices_Contains_int_int.f (k + 1) a0 a1) := by
  intro a0 a1 k
  unfold slices_Contains_int_int.f
  repeat' first
      | (with_reducible exact slices_Index_int_int.mono _ _ _)
      | (with_reducible exact LeO.refl _)
      | (with_reducible exact LeO.none _)
      | (with_reducible refine LeO.ite ?_ ?_)
      | (with_reducible refine LeO.bind ?_ (fun _ => ?_))
      | exact slices_Index_int_int.mono _ _ _
      | exact LeO.none _
      | refine LeO.ite ?_ ?_
      | refine LeO.bind ?_ (fun _ => ?_)
set_option maxHeartbeats 8000000 in
set_option maxRecDepth 100000 in
theorem slices_Contains_int_int.calls (k : Nat) (A0 : Option Addr) (c0 : Nat) (l0 : List Int) (a1 : Int) (r : Bool) (w : World) (hr0 : Kd.C (Kd.int .i64) w A0 l0.length l0) (hc0 : l0.length ≤ c0) (h : slices_Contains_int_int.f k l0 a1 = some r) :
    Calls Tryz.prog 46 #[.slice A0 l0.length c0, .int .i64 a1] w fun e w' => e = .returned (.bool r) ∧ Drawn0 w w' := by
  have HR0 := Aside0.mk hr0
  have HC0 := Aside0.mk hc0
  clear hr0 hc0
  have H : ((slices_Index_int_int.f k l0 a1).bind fun t120 => (some (decide (t120 ≥ 0)))) = some r := h
  clear h
  replace H := Option.bind_eq_some_iff.mp H
  obtain ⟨t120, A30, H⟩ := H
  replace H : (some (decide (t120 ≥ 0))) = some r := H
  have A3 := Aside0.mk A30
  clear A30
  obtain rfl := Option.some.inj H
  go_enter Tryz.func46, Tryz.ntmps46
  go_wp2_with (first | ((with_reducible refine gate_callee (f := 83) rfl ?_); refine goesL_ (some 7) rfl rfl Tryz.func83 (by kernel_rfl) rfl #[.slice A0 l0.length c0, .int .i64 a1] rfl (by (try simp only [List.map_toArray, List.map_cons, List.map_nil]); first | done | rfl | (simp only [List.length_drop, List.length_take]; rfl)) ?_; (with_reducible refine (slices_Index_int_int.calls k _ _ l0 a1 t120 _ ?side1 ?side2 A3.out).mono ?_); (case side1 => repeat (first | exact HR0.out | (with_reducible refine Kd.C_alloc ?_ _) | (with_reducible refine Kd.C_drewN ?_ _) | (with_reducible refine Kd.C_drew ?_))); (case side2 => exact HC0.out); rintro e w' ⟨rfl, ⟨nd, rfl⟩⟩; refine ⟨_, rfl, ?_⟩))
  go_ret
  exact ⟨by first | rfl | (simp; done) | (simp [*]; done), by repeat (first | exact Drawn0.refl _ | apply Drawn0.step)⟩

/-! ### ledger_power: function 47 -/
def ledger_power.f (a0 : Int) : Option (Bool) := if a0 > 0 then (some ((Go.bits .and .i64 a0 (wrap64 (a0 - 1))) == 0)) else (some false)
set_option maxHeartbeats 8000000 in
set_option maxRecDepth 100000 in
theorem ledger_power.calls (a0 : Int) (r : Bool) (w : World) (h : ledger_power.f a0 = some r) :
    Calls Tryz.prog 47 #[.int .i64 a0] w fun e w' => e = .returned (.bool r) ∧ Drawn0 w w' := by
  have H : (if a0 > 0 then (some ((Go.bits .and .i64 a0 (wrap64 (a0 - 1))) == 0)) else (some false)) = some r := h
  clear h
  by_cases c2 : a0 > 0
  · rw [if_pos c2] at H
    have c2b0 : decide (0 < a0) = true := decide_eq_true c2
    clear c2
    obtain rfl := Option.some.inj H
    go_enter Tryz.func47, Tryz.ntmps47
    go_wp2
    go_ret
    exact ⟨by first | rfl | (simp; done) | (simp [*]; done), by repeat (first | exact Drawn0.refl _ | apply Drawn0.step)⟩
  · rw [if_neg c2] at H
    have c2b0 : decide (0 < a0) = false := decide_eq_false c2
    clear c2
    obtain rfl := Option.some.inj H
    go_enter Tryz.func47, Tryz.ntmps47
    go_wp2
    go_ret
    exact ⟨by first | rfl | (simp; done) | (simp [*]; done), by repeat (first | exact Drawn0.refl _ | apply Drawn0.step)⟩

def ledger_up.f (a0 : Int) : Option (Int) := some (wrap64 ((wrap64 (Int.tdiv (wrap64 ((wrap64 (a0 + 4096)) - 1)) 4096)) * 4096))
set_option maxHeartbeats 8000000 in
set_option maxRecDepth 100000 in
theorem ledger_up.calls (a0 : Int) (r : Int) (w : World) (h : ledger_up.f a0 = some r) :
    Calls Tryz.prog 89 #[.int .i64 a0] w fun e w' => e = .returned (.int .i64 r) ∧ Drawn0 w w' := by
  have H : (some (wrap64 ((wrap64 (Int.tdiv (wrap64 ((wrap64 (a0 + 4096)) - 1)) 4096)) * 4096))) = some r := h
  clear h
  obtain rfl := Option.some.inj H
  go_enter Tryz.func89, Tryz.ntmps89
  go_wp2
  go_ret
  exact ⟨by first | rfl | (simp; done) | (simp [*]; done), by repeat (first | exact Drawn0.refl _ | apply Drawn0.step)⟩

/-! ### ledger_SlotSize: function 52 -/
def ledger_SlotSize.f (a0 : Int) : Option (Int) := if a0 < 1 then (some 0) else (if a0 > 4000 then (some 0) else ((ledger_up.f (wrap64 (32 * a0))).bind fun t124 => (some t124)))
set_option maxHeartbeats 8000000 in
set_option maxRecDepth 100000 in
theorem ledger_SlotSize.calls (a0 : Int) (r : Int) (w : World) (h : ledger_SlotSize.f a0 = some r) :
    Calls Tryz.prog 52 #[.int .i64 a0] w fun e w' => e = .returned (.int .i64 r) ∧ Drawn0 w w' := by
  have H : (if a0 < 1 then (some 0) else (if a0 > 4000 then (some 0) else ((ledger_up.f (wrap64 (32 * a0))).bind fun t124 => (some t124)))) = some r := h
  clear h
  by_cases c2 : a0 < 1
  · rw [if_pos c2] at H
    have c2b0 : decide (a0 < 1) = true := decide_eq_true c2
    clear c2
    obtain rfl := Option.some.inj H
    go_enter Tryz.func52, Tryz.ntmps52
    go_wp2
    go_ret
    exact ⟨by first | rfl | (simp; done) | (simp [*]; done), by repeat (first | exact Drawn0.refl _ | apply Drawn0.step)⟩
  · rw [if_neg c2] at H
    have c2b0 : decide (a0 < 1) = false := decide_eq_false c2
    clear c2
    by_cases c3 : a0 > 4000
    · rw [if_pos c3] at H
      have c3b0 : decide (4000 < a0) = true := decide_eq_true c3
      clear c3
      obtain rfl := Option.some.inj H
      go_enter Tryz.func52, Tryz.ntmps52
      go_wp2
      go_ret
      exact ⟨by first | rfl | (simp; done) | (simp [*]; done), by repeat (first | exact Drawn0.refl _ | apply Drawn0.step)⟩
    · rw [if_neg c3] at H
      have c3b0 : decide (4000 < a0) = false := decide_eq_false c3
      clear c3
      replace H := Option.bind_eq_some_iff.mp H
      obtain ⟨t124, A40, H⟩ := H
      replace H : (some t124) = some r := H
      have A4 := Aside0.mk A40
      clear A40
      obtain rfl := Option.some.inj H
      go_enter Tryz.func52, Tryz.ntmps52
      go_wp2_with (first | ((with_reducible refine gate_callee (f := 89) rfl ?_); refine goesL_ (some 11) rfl rfl Tryz.func89 (by kernel_rfl) rfl #[.int .i64 (wrap64 (32 * a0))] rfl (by (try simp only [List.map_toArray, List.map_cons, List.map_nil]); first | done | rfl | (simp only [List.length_drop, List.length_take]; rfl)) ?_; (with_reducible refine (ledger_up.calls (wrap64 (32 * a0)) t124 _ A4.out).mono ?_); rintro e w' ⟨rfl, ⟨nd, rfl⟩⟩; refine ⟨_, rfl, ?_⟩))
      go_ret
      exact ⟨by first | rfl | (simp; done) | (simp [*]; done), by repeat (first | exact Drawn0.refl _ | apply Drawn0.step)⟩

end Go.Proofs.YtpmbfibjldnaiaaGreatDoor.PProbeSpots
/-! ## WithA -/
namespace Go.Proofs.YtpmbfibjldnaiaaGreatDoor.PProbeSpots
open Go.RowKit Go.Proofs.YtpmbfibjldnaiaaGreatDoorW.PrintWords Go.Proofs.YtpmbfibjldnaiaaGreatDoorW.PrintLast Go.Proofs.YtpmbfibjldnaiaaGreatDoorW.PrintMore
attribute [local go_sem] max2_int min2_int max_two min_two max_three min_three max_four min_four   -- for this text's walks alone
set_option linter.unusedVariables false
set_option linter.unusedSimpArgs false
def ledger_within.f (a0 : Int) (a1 : Int) (a2 : Int) : Option (Bool) := if a0 ≥ a1 then (some (decide (a0 ≤ a2))) else (some false)
set_option maxHeartbeats 8000000 in
set_option maxRecDepth 100000 in
theorem ledger_within.calls (a0 : Int) (a1 : Int) (a2 : Int) (r : Bool) (w : World) (h : ledger_within.f a0 a1 a2 = some r) :
    Calls Tryz.prog 25 #[.int .i64 a0, .int .i64 a1, .int .i64 a2] w fun e w' => e = .returned (.bool r) ∧ Drawn0 w w' := by
  have H : (if a0 ≥ a1 then (some (decide (a0 ≤ a2))) else (some false)) = some r := h
  clear h
  by_cases c4 : a0 ≥ a1
  · rw [if_pos c4] at H
    have c4b0 : decide (a1 ≤ a0) = true := decide_eq_true c4
    clear c4
    obtain rfl := Option.some.inj H
    go_enter Tryz.func25, Tryz.ntmps25
    go_wp2
    go_ret
    exact ⟨by first | rfl | (simp; done) | (simp [*]; done), by repeat (first | exact Drawn0.refl _ | apply Drawn0.step)⟩
  · rw [if_neg c4] at H
    have c4b0 : decide (a1 ≤ a0) = false := decide_eq_false c4
    clear c4
    obtain rfl := Option.some.inj H
    go_enter Tryz.func25, Tryz.ntmps25
    go_wp2
    go_ret
    exact ⟨by first | rfl | (simp; done) | (simp [*]; done), by repeat (first | exact Drawn0.refl _ | apply Drawn0.step)⟩

end Go.Proofs.YtpmbfibjldnaiaaGreatDoor.PProbeSpots
/-! ## KindsA -/
namespace Go.Proofs.YtpmbfibjldnaiaaGreatDoor.kindsa
open Go Go.RowKit Go.Proofs.YtpmbfibjldnaiaaGreatDoor.PProbeSpots Go.Proofs.YtpmbfibjldnaiaaGreatDoorW.PrintWords
set_option linter.unusedVariables false
set_option linter.unusedSimpArgs false
abbrev Bs := List UInt8
/-- A kind: its name; whether its key has two halves; how many bytes more. -/
def kindsL : List (Bs × Bool × Nat) :=
  [([101, 99, 98], false, 0), ([99, 98, 99, 45, 110, 117, 108, 108], false, 0), ([99, 98, 99, 45, 112, 108, 97, 105, 110], false, 0), ([99, 98, 99, 45, 112, 108, 97, 105, 110, 54, 52], false, 0),
   ([99, 98, 99, 45, 112, 108, 97, 105, 110, 54, 52, 98, 101], false, 0), ([99, 98, 99, 45, 98, 101, 110, 98, 105], false, 0), ([99, 98, 99, 45, 101, 115, 115, 105, 118, 58, 115, 104, 97, 50, 53, 54], false, 0), ([99, 98, 99, 45, 101, 98, 111, 105, 118], false, 0),
   ([99, 98, 99, 45, 101, 108, 101, 112, 104, 97, 110, 116], true, 0), ([99, 98, 99, 45, 116, 99, 119], false, 32), ([120, 116, 115, 45, 112, 108, 97, 105, 110], true, 0), ([120, 116, 115, 45, 112, 108, 97, 105, 110, 54, 52], true, 0),
   ([120, 116, 115, 45, 112, 108, 97, 105, 110, 54, 52, 98, 101], true, 0), ([120, 116, 115, 45, 101, 115, 115, 105, 118, 58, 115, 104, 97, 50, 53, 54], true, 0), ([108, 114, 119, 45, 98, 101, 110, 98, 105], false, 16),
   ([104, 99, 116, 114, 50, 45, 112, 108, 97, 105, 110], false, 0), ([104, 99, 116, 114, 50, 45, 112, 108, 97, 105, 110, 54, 52], false, 0)]
/-- The kinds lie in block g. -/
structure KindsAt (W : World) (g : Nat) : Prop where
  at_ : ∃ KC : Array Value, W.heap[g]? = some (.cells KC 152 (0, 0)) ∧ KC.size = 119 ∧ ∀ i (k : Bs × Bool × Nat), kindsL[i]? = some k → KC[i * 7]? = some (.string ⟨k.1.toArray⟩) ∧ KC[i * 7 + 1]? = some (.bool k.2.1) ∧ KC[i * 7 + 2]? = some (.int .i64 (k.2.2 : Int))
set_option maxHeartbeats 1000000 in
set_option maxRecDepth 100000 in
theorem part_call (f : Fn) (a b : Array Value) (w : World) : Calls Tryz.prog 127 #[.func f a b] w fun e w' => (∃ f a b, e = .returned (.func f a b)) ∧ Below w.heap.size w w' := by
  have hmf : ∀ (fn : Fn) (first cap : Array Value) (w : World), (Instr.makeFunc fn first cap).run Tryz.prog w = .ok (.func fn first cap) w := fun _ _ _ _ => rfl
  go_enter Tryz.func127, Tryz.ntmps127
  go_wp2_with fail
  go_ret
  exact ⟨⟨_, _, _, rfl⟩, (Below.refl _ _).alloc (Nat.le_refl _) _⟩
set_option maxHeartbeats 4000000 in
set_option maxRecDepth 100000 in
theorem kinds_call (w : World) : Calls Tryz.prog 108 #[] w fun e w' => ∃ g, e = .returned (.slice (some ⟨g, 0, none⟩) 17 17) ∧ KindsAt w' g ∧ w.heap.size ≤ g ∧ Below w.heap.size w w' := by
  go_enter Tryz.func108, Tryz.ntmps108
  go_wp2_with (first | (go_at_call 127; refine (part_call _ _ _ _).mono ?_; rintro e W1 ⟨⟨f1, a1, b1, rfl⟩, hb⟩) | fail)
  go_ret
  refine ⟨W1.heap.size, rfl, ⟨⟨_, blk_new W1 _, rfl, ?_⟩⟩, hb.size, hb.alloc hb.size _⟩
  intro i k hk
  exact match i, hk with
    | 0, hk => by
      obtain rfl := Option.some.inj hk
      exact ⟨rfl, rfl, rfl⟩
    | 1, hk => by
      obtain rfl := Option.some.inj hk
      exact ⟨rfl, rfl, rfl⟩
    | 2, hk => by
      obtain rfl := Option.some.inj hk
      exact ⟨rfl, rfl, rfl⟩
    | 3, hk => by
      obtain rfl := Option.some.inj hk
      exact ⟨rfl, rfl, rfl⟩
    | 4, hk => by
      obtain rfl := Option.some.inj hk
      exact ⟨rfl, rfl, rfl⟩
    | 5, hk => by
      obtain rfl := Option.some.inj hk
      exact ⟨rfl, rfl, rfl⟩
    | 6, hk => by
      obtain rfl := Option.some.inj hk
      exact ⟨rfl, rfl, rfl⟩
    | 7, hk => by
      obtain rfl := Option.some.inj hk
      exact ⟨rfl, rfl, rfl⟩
    | 8, hk => by
      obtain rfl := Option.some.inj hk
      exact ⟨rfl, rfl, rfl⟩
    | 9, hk => by
      obtain rfl := Option.some.inj hk
      exact ⟨rfl, rfl, rfl⟩
    | 10, hk => by
      obtain rfl := Option.some.inj hk
      exact ⟨rfl, rfl, rfl⟩
    | 11, hk => by
      obtain rfl := Option.some.inj hk
      exact ⟨rfl, rfl, rfl⟩
    | 12, hk => by
      obtain rfl := Option.some.inj hk
      exact ⟨rfl, rfl, rfl⟩
    | 13, hk => by
      obtain rfl := Option.some.inj hk
      exact ⟨rfl, rfl, rfl⟩
    | 14, hk => by
      obtain rfl := Option.some.inj hk
      exact ⟨rfl, rfl, rfl⟩
    | 15, hk => by
      obtain rfl := Option.some.inj hk
      exact ⟨rfl, rfl, rfl⟩
    | 16, hk => by
      obtain rfl := Option.some.inj hk
      exact ⟨rfl, rfl, rfl⟩
    | n + 17, hk => by
      have : kindsL.length ≤ n + 17 := by show 17 ≤ _; omega
      rw [List.getElem?_eq_none this] at hk
      cases hk
end Go.Proofs.YtpmbfibjldnaiaaGreatDoor.kindsa
/-! ## KindsB -/
namespace Go.Proofs.YtpmbfibjldnaiaaGreatDoor.kindsb
open Go Go.RowKit Go.Proofs.YtpmbfibjldnaiaaGreatDoor.kindsa Go.Proofs.YtpmbfibjldnaiaaGreatDoor.PProbeSpots Go.Proofs.YtpmbfibjldnaiaaGreatDoorW.PrintWords
set_option linter.unusedVariables false
set_option linter.unusedSimpArgs false
set_option maxHeartbeats 1000000 in
set_option maxRecDepth 100000 in
theorem find1_call (nm md : Bs) (u1 u2 u3 u4 u5 u6 : Value) (bm : Nat) (w : World) (hm : w.cell? ⟨bm, 0, none⟩ = some (.string ⟨md.toArray⟩)) (hlt : bm < w.heap.size) :
    Calls Tryz.prog 111 #[.agg #[.string ⟨nm.toArray⟩, u1, u2, u3, u4, u5, u6], .pointer (some ⟨bm, 0, none⟩)] w fun e w' => e = .returned (.bool (nm == md)) ∧ Below w.heap.size w w' := by
  have hm2 : (w.alloc (.cells #[.string ⟨nm.toArray⟩, u1, u2, u3, u4, u5, u6] 152)).cell? ⟨bm, 0, none⟩ = some (.string ⟨md.toArray⟩) := (((Below.refl _ w).alloc (Nat.le_refl _) _).cell (p := ⟨bm, 0, none⟩) hlt).trans hm
  go_enter Tryz.func111, Tryz.ntmps111
  go_wp2_with fail
  go_ret
  exact ⟨rfl, (Below.refl _ _).alloc (Nat.le_refl _) _⟩
/-- The cells of one kind. -/
theorem KindsAt.row {W : World} {g : Nat} (h : KindsAt W g) {i : Nat} (hi : i < 17) : ∃ (k : Bs × Bool × Nat) (u3 u4 u5 u6 : Value), kindsL[i]? = some k ∧ W.cell? ⟨g, i * 7, none⟩ = some (.string ⟨k.1.toArray⟩) ∧ W.cell? ⟨g, i * 7 + 1, none⟩ = some (.bool k.2.1) ∧ W.cell? ⟨g, i * 7 + 2, none⟩ = some (.int .i64 (k.2.2 : Int)) ∧
    W.cell? ⟨g, i * 7 + 3, none⟩ = some u3 ∧ W.cell? ⟨g, i * 7 + 4, none⟩ = some u4 ∧ W.cell? ⟨g, i * 7 + 5, none⟩ = some u5 ∧ W.cell? ⟨g, i * 7 + 6, none⟩ = some u6 := by
  obtain ⟨KC, hb, hs, hk⟩ := h.at_
  have hl : i < kindsL.length := hi
  obtain ⟨h0, h1, h2⟩ := hk i kindsL[i] (List.getElem?_eq_getElem hl)
  have c : ∀ j, W.cell? ⟨g, j, none⟩ = KC[j]? := fun j => blk_cell hb j
  have e : ∀ j (hj : j < 119), KC[j]? = some (KC[j]'(by omega)) := fun j hj => Array.getElem?_eq_getElem (by omega)
  exact ⟨kindsL[i], _, _, _, _, List.getElem?_eq_getElem hl, (c _).trans h0, (c _).trans h1, (c _).trans h2, (c _).trans (e _ (by omega)), (c _).trans (e _ (by omega)), (c _).trans (e _ (by omega)), (c _).trans (e _ (by omega))⟩
theorem KindsAt.below {W W' : World} {g B : Nat} (h : KindsAt W g) (hb : Below B W W') (hg : g < B) : KindsAt W' g := by
  obtain ⟨KC, hk, r⟩ := h.at_
  exact ⟨⟨KC, (hb.block g hg).trans hk, r⟩⟩
theorem KindsAt.lt {W : World} {g : Nat} (h : KindsAt W g) : g < W.heap.size := by
  obtain ⟨KC, hk, r⟩ := h.at_
  exact blk_lt hk
/-- The place of a name, -1: there is none. -/
def findK (md : Bs) : List (Bs × Bool × Nat) → Nat → Int
  | [], _ => -1
  | k :: t, i => if k.1 == md then (i : Int) else findK md t (i + 1)
theorem findK_drop (md : Bs) (i : Nat) (k : Bs × Bool × Nat) (h : kindsL[i]? = some k) : findK md (kindsL.drop i) i = if k.1 == md then (i : Int) else findK md (kindsL.drop (i + 1)) (i + 1) := by
  have hl : i < kindsL.length := (List.getElem?_eq_some_iff.1 h).1
  have e : kindsL[i] = k := (List.getElem?_eq_some_iff.1 h).2
  rw [List.drop_eq_getElem_cons hl, e]
  rfl
set_option maxHeartbeats 1000000 in
set_option maxRecDepth 100000 in
theorem index_call (md : Bs) (g bm : Nat) (w : World) (hK : KindsAt w g) (hm : w.cell? ⟨bm, 0, none⟩ = some (.string ⟨md.toArray⟩)) (hlt : bm < w.heap.size) :
    Calls Tryz.prog 110 #[.slice (some ⟨g, 0, none⟩) 17 17, .func (.func 111) #[] #[.pointer (some ⟨bm, 0, none⟩)]] w fun e w' => e = .returned (.int .i64 (findK md kindsL 0)) ∧ Below w.heap.size w w' := by
  have HK := Aside0.mk hK
  clear hK
  go_enter Tryz.func110, Tryz.ntmps110
  go_wp2_with fail
  go_loopg [8] 18 (fun kq v8 wr => ∃ i : Nat, Aside0 (v8 = .int .i64 (i : Int)) ∧ Aside0 (i ≤ 17 ∧ kq + i = 18) ∧ Aside0 (findK md kindsL 0 = findK md (kindsL.drop i) i) ∧ Aside0 (Below w.heap.size w wr))
  case atStart => exact ⟨0, ⟨rfl⟩, ⟨by omega⟩, ⟨rfl⟩, ⟨Below.refl _ _⟩⟩
  case round =>
    obtain ⟨i, H8, HI, HF, HB⟩ := hrel
    obtain rfl := H8.out
    obtain ⟨hi, hk⟩ := HI.out
    have HQ := Aside0.mk hk
    clear hk
    by_cases hi17 : i < 17
    · obtain ⟨k, u3, u4, u5, u6, hk, k0, k1, k2, k3, k4, k5, k6⟩ := KindsAt.row (KindsAt.below HK.out HB.out (KindsAt.lt HK.out)) hi17
      have hmr : wr.cell? ⟨bm, 0, none⟩ = some (.string ⟨md.toArray⟩) := (HB.out.cell (p := ⟨bm, 0, none⟩) hlt).trans hm
      have HFD := Aside0.mk (findK_drop md i k hk)
      clear hk
      have hltr : bm < wr.heap.size := Nat.lt_of_lt_of_le hlt HB.out.size
      go_wp2_with (first | (go_at_call 111; refine (find1_call k.1 md _ _ _ _ _ _ bm _ hmr hltr).mono ?_; rintro e W1 ⟨rfl, hb1⟩) | fail)
      · have ht : (k.1 == md) = true := by assumption
        go_ret
        exact ⟨by rw [HF.out, HFD.out, if_pos ht]; rfl, HB.out.trans (hb1.mono HB.out.size)⟩
      · have ht : (k.1 == md) = false := by assumption
        go_roundg (17 - i)
        case rel => exact ⟨i + 1, ⟨by go_num⟩, ⟨by omega, by omega⟩, ⟨by rw [HF.out, HFD.out, if_neg (by simp [ht])]⟩, ⟨HB.out.trans (hb1.mono HB.out.size)⟩⟩
        case measure => have := HQ.out; omega
    · obtain rfl : i = 17 := by omega
      go_wp2_with fail
      go_ret
      refine ⟨?_, HB.out⟩
      rw [HF.out]
      rfl
end Go.Proofs.YtpmbfibjldnaiaaGreatDoor.kindsb
/-! ## KindsC -/
namespace Go.Proofs.YtpmbfibjldnaiaaGreatDoor.kindsc
open Go Go.RowKit Go.Proofs.YtpmbfibjldnaiaaGreatDoor.kindsa Go.Proofs.YtpmbfibjldnaiaaGreatDoor.kindsb Go.Proofs.YtpmbfibjldnaiaaGreatDoor.PProbeSpots Go.Proofs.YtpmbfibjldnaiaaGreatDoorW.PrintWords
set_option linter.unusedVariables false
set_option linter.unusedSimpArgs false
theorem sz (l : Bs) : (⟨l.toArray⟩ : ByteArray).size = l.length := by show l.toArray.size = _; simp
theorem take_ext (a : Bs) (n : Nat) (h : n ≤ a.length) : ((⟨a.toArray⟩ : ByteArray).extract 0 n).data.toList = a.take n := by
  simp [ByteArray.data_extract]
theorem drop_ext (a : Bs) (n : Nat) : (⟨a.toArray⟩ : ByteArray).extract n a.length = ⟨(a.drop n).toArray⟩ := by
  apply ByteArray.ext
  apply Array.toList_inj.1
  simp [ByteArray.data_extract]
  exact List.take_of_length_le (by simp)
theorem cut_f (a b : Bs) : strings_CutPrefix.f ⟨a.toArray⟩ ⟨b.toArray⟩ = some (if b.isPrefixOf a then (⟨(a.drop b.length).toArray⟩, true) else (⟨a.toArray⟩, false)) := by
  unfold strings_CutPrefix.f stringslite_CutPrefix.f stringslite_HasPrefix.f
  simp only [sz]
  have t1 : ((b.length : Int)).toNat = b.length := by omega
  by_cases hl : b.length ≤ a.length
  · rw [if_pos (by omega), if_pos (by omega), if_pos (by omega), t1, ByteArray.toList_eq, ByteArray.toList_eq, take_ext a _ hl, drop_ext]
    by_cases hp : b.isPrefixOf a = true
    · have h1 := List.prefix_iff_eq_take.1 (List.isPrefixOf_iff_prefix.1 hp)
      have e : (a.take b.length == (⟨b.toArray⟩ : ByteArray).data.toList) = true := by
        rw [← h1]
        simp
      rw [e, if_pos hp]
      simp [hl]
    · have e : (a.take b.length == (⟨b.toArray⟩ : ByteArray).data.toList) = false := by
        rw [beq_eq_false_iff_ne]
        intro e
        exact hp (List.isPrefixOf_iff_prefix.2 (List.prefix_iff_eq_take.2 e.symm))
      rw [e, if_neg hp]
      simp
  · rw [if_neg (by omega)]
    have hp : ¬ b.isPrefixOf a = true := fun h => hl (List.IsPrefix.length_le (List.isPrefixOf_iff_prefix.1 h))
    rw [if_neg hp]
    simp
/-- The beginnings of a name and the bytes of their keys. -/
def sizesL : List (Bs × Nat) := [([97, 101, 115, 49, 50, 56, 45], 16), ([97, 101, 115, 49, 57, 50, 45], 24), ([97, 101, 115, 50, 53, 54, 45], 32)]
def tw (j : Nat) : Bool := ((kindsL[j]?).getD ([], false, 0)).2.1
def mr (j : Nat) : Nat := ((kindsL[j]?).getD ([], false, 0)).2.2
def keyFrom (spec : Bs) : List (Bs × Nat) → Option Nat
  | [] => none
  | s :: t => if s.1.isPrefixOf spec then (if 0 ≤ findK (spec.drop s.1.length) kindsL 0 then some (if tw (findK (spec.drop s.1.length) kindsL 0).toNat then 2 * s.2 else s.2 + mr (findK (spec.drop s.1.length) kindsL 0).toNat) else keyFrom spec t) else keyFrom spec t
/-- How many bytes a cipher's key has; none: no cipher. -/
def keySize (spec : Bs) : Option Nat := if spec = [110, 117, 108, 108] then some 0 else keyFrom spec sizesL
theorem findK_lt (md : Bs) : ∀ (l : List (Bs × Bool × Nat)) (i : Nat), 0 ≤ findK md l i → findK md l i < ((i + l.length : Nat) : Int) ∧ (i : Int) ≤ findK md l i
  | [], i, h => by simp [findK] at h
  | k :: t, i, h => by
    unfold findK at h ⊢
    split
    · simp; omega
    · rename_i hk
      rw [if_neg hk] at h
      have := findK_lt md t (i + 1) h
      simp only [List.length_cons]
      omega
/-- What the beginnings of the names lie in. -/
structure SizesAt (W : World) (gs o : Nat) : Prop where
  slice : ∃ c, W.cell? ⟨1, 0, none⟩ = some (.slice (some ⟨gs, o, none⟩) 3 c)
  at_ : ∀ i (s : Bs × Nat), sizesL[i]? = some s → W.cell? ⟨gs, o + i * 2, none⟩ = some (.string ⟨s.1.toArray⟩) ∧ W.cell? ⟨gs, o + i * 2 + 1, none⟩ = some (.int .i64 (s.2 : Int))
  lt0 : 1 < W.heap.size
  lt : gs < W.heap.size
theorem SizesAt.below {W W' : World} {gs o B : Nat} (h : SizesAt W gs o) (hb : Below B W W') (h0 : 1 < B) (hg : gs < B) : SizesAt W' gs o := by
  obtain ⟨c, hc⟩ := h.slice
  exact ⟨⟨c, (hb.cell (p := ⟨1, 0, none⟩) h0).trans hc⟩, fun i s hs => ⟨(hb.cell (p := ⟨gs, o + i * 2, none⟩) hg).trans (h.at_ i s hs).1, (hb.cell (p := ⟨gs, o + i * 2 + 1, none⟩) hg).trans (h.at_ i s hs).2⟩, Nat.lt_of_lt_of_le h.lt0 hb.size, Nat.lt_of_lt_of_le h.lt hb.size⟩
theorem SizesAt.later {W W' : World} {gs o : Nat} (h : SizesAt W gs o) (hb : Below W.heap.size W W') : SizesAt W' gs o := h.below hb h.lt0 h.lt
theorem keyFrom_drop (spec : Bs) (i : Nat) (s : Bs × Nat) (h : sizesL[i]? = some s) : keyFrom spec (sizesL.drop i) = if s.1.isPrefixOf spec then (if 0 ≤ findK (spec.drop s.1.length) kindsL 0 then some (if tw (findK (spec.drop s.1.length) kindsL 0).toNat then 2 * s.2 else s.2 + mr (findK (spec.drop s.1.length) kindsL 0).toNat) else keyFrom spec (sizesL.drop (i + 1))) else keyFrom spec (sizesL.drop (i + 1)) := by
  have hl : i < sizesL.length := (List.getElem?_eq_some_iff.1 h).1
  have e : sizesL[i] = s := (List.getElem?_eq_some_iff.1 h).2
  rw [List.drop_eq_getElem_cons hl, e]
  rfl
end Go.Proofs.YtpmbfibjldnaiaaGreatDoor.kindsc
/-! ## KindsD -/
namespace Go.Proofs.YtpmbfibjldnaiaaGreatDoor.kindsd
open Go Go.RowKit Go.Proofs.YtpmbfibjldnaiaaGreatDoor.kindsa Go.Proofs.YtpmbfibjldnaiaaGreatDoor.kindsb Go.Proofs.YtpmbfibjldnaiaaGreatDoor.kindsc Go.Proofs.YtpmbfibjldnaiaaGreatDoor.PProbeSpots Go.Proofs.YtpmbfibjldnaiaaGreatDoorW.PrintWords
set_option linter.unusedVariables false
set_option linter.unusedSimpArgs false
theorem cut_call (a b : Bs) (W : World) : Calls Tryz.prog 109 #[.string ⟨a.toArray⟩, .string ⟨b.toArray⟩] W fun e w' => e = .returned (.tuple #[.string (if b.isPrefixOf a then ⟨(a.drop b.length).toArray⟩ else ⟨a.toArray⟩), .bool (b.isPrefixOf a)]) ∧ ∃ m, w' = W.drewN m := by
  by_cases hp : b.isPrefixOf a = true
  · rw [hp, if_pos rfl]
    exact (strings_CutPrefix.calls _ _ _ _ W ((cut_f a b).trans (by rw [if_pos hp]))).mono fun e w' ⟨h1, h2⟩ => ⟨h1, h2.out⟩
  · have hp : b.isPrefixOf a = false := by
      cases h : b.isPrefixOf a with
      | false => rfl
      | true => exact absurd h hp
    rw [hp, if_neg (by decide)]
    exact (strings_CutPrefix.calls _ _ _ _ W ((cut_f a b).trans (by rw [if_neg (by simp [hp])]))).mono fun e w' ⟨h1, h2⟩ => ⟨h1, h2.out⟩
theorem two_new (W : World) (m : Nat) (X : Array Value) (tX t : TypeId) (v : Value) : (((W.alloc (.cells X tX)).drewN m).alloc (.cells #[v] t)).cell? ⟨W.heap.size + 1, 0, none⟩ = some v ∧ W.heap.size + 1 < (((W.alloc (.cells X tX)).drewN m).alloc (.cells #[v] t)).heap.size ∧
    Below W.heap.size W (((W.alloc (.cells X tX)).drewN m).alloc (.cells #[v] t)) ∧ (((W.alloc (.cells X tX)).drewN m).alloc (.cells #[v] t)).heap[W.heap.size]? = some (.cells X tX (0, 0)) := by
  have e : ((W.alloc (.cells X tX)).drewN m).heap.size = W.heap.size + 1 := World.size_alloc W _
  have h1 := blk_new ((W.alloc (.cells X tX)).drewN m) (.cells #[v] t)
  rw [e] at h1
  have b0 := (Below.refl _ W).alloc (Nat.le_refl _) (.cells X tX)
  have b1 : Below W.heap.size W ((W.alloc (.cells X tX)).drewN m) := ⟨b0.os, b0.tape, b0.output, b0.size, b0.block⟩
  refine ⟨(blk_cell h1 0).trans rfl, ?_, b1.alloc (by omega) _, ?_⟩
  · rw [World.size_alloc, e]
    omega
  · exact blk_alloc (o := .cells X tX (0, 0)) (w := (W.alloc (.cells X tX)).drewN m) (show (W.alloc (.cells X tX)).heap[W.heap.size]? = _ from blk_new W _) _
theorem sizes_le {i : Nat} {s : Bs × Nat} (h : sizesL[i]? = some s) : (s.2 : Int) ≤ 4294967296 := by
  have hm := List.mem_of_getElem? h
  have : ∀ s ∈ sizesL, (s.2 : Int) ≤ 4294967296 := by decide
  exact this s hm
theorem kinds_le {i : Nat} {k : Bs × Bool × Nat} (h : kindsL[i]? = some k) : (k.2.2 : Int) ≤ 4294967296 := by
  have hm := List.mem_of_getElem? h
  have : ∀ k ∈ kindsL, (k.2.2 : Int) ≤ 4294967296 := by decide
  exact this k hm
/-- What find hands back. -/
def EndsK (w : World) (r : Option Nat) (e : Ending) (w' : World) : Prop :=
  Below w.heap.size w w' ∧ match r with
    | none => e = .returned (.tuple #[.pointer none, .int .i64 0])
    | some n => ∃ p : Addr, e = .returned (.tuple #[.pointer (some p), .int .i64 (n : Int)])
set_option maxHeartbeats 2000000 in
set_option maxRecDepth 100000 in
theorem find_null (w : World) : Calls Tryz.prog 84 #[.string ⟨#[110, 117, 108, 108]⟩] w (EndsK w (some 0)) := by
  go_enter Tryz.func84, Tryz.ntmps84
  go_wp2_with fail
  go_ret2
  exact ⟨(Below.refl _ _).alloc (Nat.le_refl _) _, _, rfl⟩
set_option maxHeartbeats 2000000 in
set_option maxRecDepth 100000 in
theorem find_some (spec : Bs) (hn : ¬ spec = [110, 117, 108, 108]) (gs o : Nat) (w : World) (hS : SizesAt w gs o) : Calls Tryz.prog 84 #[.string ⟨spec.toArray⟩] w (EndsK w (keyFrom spec sizesL)) := by
  have hmf : ∀ (fn : Fn) (first cap : Array Value) (w : World), (Instr.makeFunc fn first cap).run Tryz.prog w = .ok (.func fn first cap) w := fun _ _ _ _ => rfl
  have hne : (spec == [110, 117, 108, 108]) = false := beq_eq_false_iff_ne.mpr hn
  have HS := Aside0.mk hS
  clear hS hn
  go_enter Tryz.func84, Tryz.ntmps84
  go_wp2_with (first | (go_at_call 108; refine (kinds_call _).mono ?_; rintro e W1 ⟨g, rfl, hK, hg, hb⟩; have HS1 := Aside0.mk (HS.out.later hb); obtain ⟨c1, hc1⟩ := HS1.out.slice; have HK := Aside0.mk hK; have HB := Aside0.mk hb; clear hK hb) | fail)
  go_loopg [18] 4 (fun kq v18 wr => ∃ i : Nat, Aside0 (v18 = .int .i64 (i : Int)) ∧ Aside0 (i ≤ 3 ∧ kq + i = 4) ∧ Aside0 (keyFrom spec sizesL = keyFrom spec (sizesL.drop i)) ∧ Aside0 (Below W1.heap.size W1 wr))
  case atStart => exact ⟨0, ⟨rfl⟩, ⟨by omega⟩, ⟨rfl⟩, ⟨Below.refl _ _⟩⟩
  case round =>
    obtain ⟨i, H18, HI, HF, HW⟩ := hrel
    obtain rfl := H18.out
    obtain ⟨hi, hk⟩ := HI.out
    have HQ := Aside0.mk hk
    clear hk
    by_cases hi3 : i < 3
    · obtain ⟨s, hs⟩ : ∃ s, sizesL[i]? = some s := ⟨_, List.getElem?_eq_getElem hi3⟩
      obtain ⟨s0, s1⟩ := (HS1.out.later HW.out).at_ i s hs
      have HD := Aside0.mk (keyFrom_drop spec i s hs)
      have HSI := Aside0.mk hs
      clear hs
      by_cases hp : s.1.isPrefixOf spec = true
      · have HC := fun W => cut_call spec s.1 W
        rw [hp, if_pos rfl] at HC
        have HP := Aside0.mk hp
        clear hp
        go_wp2_with (first | (go_at_call 109; refine (HC _).mono ?_; rintro e w' ⟨rfl, m, rfl⟩) | fail)
        obtain ⟨n1, n2, n3, n4⟩ := two_new wr m #[.string ⟨s.1.toArray⟩, .int .i64 (s.2 : Int)] 156 9 (.string ⟨(spec.drop s.1.length).toArray⟩)
        refine (index_call (spec.drop s.1.length) g (wr.heap.size + 1) _ (KindsAt.below (KindsAt.below HK.out HW.out (KindsAt.lt HK.out)) n3 (Nat.lt_of_lt_of_le (KindsAt.lt HK.out) HW.out.size)) n1 n2).mono ?_
        rintro e W2 ⟨rfl, hb2⟩
        have hBm : Below w.heap.size w W2 := (HB.out.trans (HW.out.mono HB.out.size)).trans ((n3.trans (hb2.mono n3.size)).mono (Nat.le_trans HB.out.size HW.out.size))
        have hWm : Below W1.heap.size W1 W2 := HW.out.trans ((n3.trans (hb2.mono n3.size)).mono HW.out.size)
        have hKm := KindsAt.below HK.out hWm (KindsAt.lt HK.out)
        have n5 := (hb2.block _ (by omega)).trans n4
        have q1 : W2.cell? ⟨wr.heap.size, 1, none⟩ = some (.int .i64 (s.2 : Int)) := (blk_cell n5 1).trans rfl
        have HBm := Aside0.mk hBm
        have HWm := Aside0.mk hWm
        clear n1 n2 n3 n4 n5 hb2 hBm hWm
        by_cases h0 : 0 ≤ findK (spec.drop s.1.length) kindsL 0
        · obtain ⟨j, hj⟩ : ∃ j : Nat, findK (spec.drop s.1.length) kindsL 0 = (j : Int) := ⟨_, (Int.toNat_of_nonneg h0).symm⟩
          have hj17 : j < 17 := by
            have := (findK_lt _ _ _ h0).1
            rw [hj] at this
            have e : 0 + kindsL.length = 17 := rfl
            rw [e] at this
            omega
          obtain ⟨k, u3_, u4_, u5_, u6_, hk, k0, k1, k2, _, _, _, _⟩ := KindsAt.row hKm hj17
          have htw : tw j = k.2.1 := by unfold tw; rw [hk]; rfl
          have hmr : mr j = k.2.2 := by unfold mr; rw [hk]; rfl
          have HRES : Aside0 (keyFrom spec sizesL = some (if k.2.1 then 2 * s.2 else s.2 + k.2.2)) := ⟨by
            rw [HF.out, HD.out, if_pos HP.out, if_pos h0, hj, Int.toNat_natCast, htw, hmr]⟩
          have hsz : (s.2 : Int) ≤ 4294967296 := sizes_le HSI.out
          have hmz : (k.2.2 : Int) ≤ 4294967296 := kinds_le hk
          clear hk hKm k0 htw hmr h0
          rw [hj]
          clear hj
          have hnn : ¬ ((j : Int) < 0) := by omega
          cases hc : k.2.1 with
          | true =>
            rw [hc] at k1
            have HC2 := Aside0.mk hc
            clear hc
            go_wp2_with fail
            go_quiet (fail)
            go_wp2_with fail
            go_ret2
            refine ⟨⟨HBm.out.os, HBm.out.tape, HBm.out.output, HBm.out.size, HBm.out.block⟩, ?_⟩
            rw [HRES.out, HC2.out, if_pos rfl]
            exact ⟨⟨g, j * 7, none⟩, by rw [Int.natCast_mul]; rfl⟩
          | false =>
            rw [hc] at k1
            have HC2 := Aside0.mk hc
            clear hc
            go_wp2_with fail
            go_quiet (fail)
            go_wp2_with fail
            go_ret2
            refine ⟨⟨HBm.out.os, HBm.out.tape, HBm.out.output, HBm.out.size, HBm.out.block⟩, ?_⟩
            rw [HRES.out, HC2.out, if_neg (by decide)]
            exact ⟨⟨g, j * 7, none⟩, by rw [Int.natCast_add]; rfl⟩
        · have HRES : Aside0 (keyFrom spec sizesL = keyFrom spec (sizesL.drop (i + 1))) := ⟨by rw [HF.out, HD.out, if_pos HP.out, if_neg h0]⟩
          have h1 : findK (spec.drop s.1.length) kindsL 0 < 0 := by omega
          clear h0 hKm
          go_wp2_with fail
          go_roundg (3 - i)
          case rel => exact ⟨i + 1, ⟨by go_num⟩, ⟨by omega, by omega⟩, HRES, HWm⟩
          case measure => have := HQ.out; omega
      · have hp : s.1.isPrefixOf spec = false := by
          cases h : s.1.isPrefixOf spec with
          | false => rfl
          | true => exact absurd h hp
        have HC := fun W => cut_call spec s.1 W
        rw [hp, if_neg (by decide)] at HC
        have HRES : Aside0 (keyFrom spec sizesL = keyFrom spec (sizesL.drop (i + 1))) := ⟨by rw [HF.out, HD.out, if_neg (by rw [hp]; decide)]⟩
        clear hp
        go_wp2_with (first | (go_at_call 109; refine (HC _).mono ?_; rintro e w' ⟨rfl, m, rfl⟩) | fail)
        obtain ⟨n1, n2, n3, n4⟩ := two_new wr m #[.string ⟨s.1.toArray⟩, .int .i64 (s.2 : Int)] 156 9 (.string ⟨spec.toArray⟩)
        refine (index_call spec g (wr.heap.size + 1) _ (KindsAt.below (KindsAt.below HK.out HW.out (KindsAt.lt HK.out)) n3 (Nat.lt_of_lt_of_le (KindsAt.lt HK.out) HW.out.size)) n1 n2).mono ?_
        rintro e W2 ⟨rfl, hb2⟩
        have hWm : Below W1.heap.size W1 W2 := HW.out.trans ((n3.trans (hb2.mono n3.size)).mono HW.out.size)
        have HWm := Aside0.mk hWm
        clear n1 n2 n3 n4 hb2 hWm
        go_wp2_with fail
        go_roundg (3 - i)
        case rel => exact ⟨i + 1, ⟨by go_num⟩, ⟨by omega, by omega⟩, HRES, HWm⟩
        case measure => have := HQ.out; omega
    · obtain rfl : i = 3 := by omega
      go_wp2_with fail
      go_ret2
      refine ⟨HB.out.trans (HW.out.mono HB.out.size), ?_⟩
      rw [HF.out]
      rfl
theorem find_call (spec : Bs) (gs o : Nat) (w : World) (hS : SizesAt w gs o) : Calls Tryz.prog 84 #[.string ⟨spec.toArray⟩] w (EndsK w (keySize spec)) := by
  unfold keySize
  by_cases hn : spec = [110, 117, 108, 108]
  · rw [if_pos hn]
    subst hn
    exact find_null w
  · rw [if_neg hn]
    exact find_some spec hn gs o w hS
/-- What tweak.KeySize says. -/
def keyRes (spec : Bs) : Int × Int := match keySize spec with
  | none => (0, 30)
  | some n => ((n : Int), 0)
set_option maxHeartbeats 2000000 in
set_option maxRecDepth 100000 in
theorem key_call (spec : Bs) (gs o : Nat) (w : World) (hS : SizesAt w gs o) : Calls Tryz.prog 50 #[.string ⟨spec.toArray⟩] w fun e w' => e = .returned (.tuple #[.int .i64 (keyRes spec).1, .int .i64 (keyRes spec).2]) ∧ Below w.heap.size w w' := by
  have hf := find_call spec gs o w hS
  unfold keyRes
  cases hX : keySize spec with
  | none =>
    rw [hX] at hf
    have HF := Aside0.mk hf
    clear hf hX
    go_enter Tryz.func50, Tryz.ntmps50
    go_wp2_with (first | (go_at_call 84; refine HF.out.mono ?_; rintro e W1 ⟨hb, rfl⟩) | fail)
    go_ret2
    exact ⟨rfl, hb⟩
  | some n =>
    rw [hX] at hf
    have HF := Aside0.mk hf
    clear hf hX
    go_enter Tryz.func50, Tryz.ntmps50
    go_wp2_with (first | (go_at_call 84; refine HF.out.mono ?_; rintro e W1 ⟨hb, p, rfl⟩) | fail)
    go_ret2
    exact ⟨rfl, hb⟩
end Go.Proofs.YtpmbfibjldnaiaaGreatDoor.kindsd
