/- Functions as the kit's print has them, taken out of a part that holds one that does not build. (Written by takeout.py.) Which sizes a copy can have: by bits, and by doubling. header.may: what is wrong with a copy. (Written by gen22.py.) (Merged by merge.py.) -/
import Derived.Test.YtglcapkmeecknaaDoorPHeaderPacksx0
import Derived.Test.YtglcapkmeecknaaDoorPHeaderPacksx1
import Derived.Test.YtglcapkmeecknaaDoorShelf
import Derived.Lib.IndexAny
import Derived.Test.YtglcapkmeecknaaDoorMG
/-! ## Small -/
namespace Go.Proofs.YtglcapkmeecknaaDoor.PHeaderPacks
open Go.RowKit Go.Proofs.YtglcapkmeecknaaDoorW.PrintWords Go.Proofs.YtglcapkmeecknaaDoorW.PrintLast Go.Proofs.YtglcapkmeecknaaDoorW.PrintMore
attribute [local go_sem] max2_int min2_int max_two min_two max_three min_three max_four min_four   -- for this text's walks alone
set_option linter.unusedVariables false
set_option linter.unusedSimpArgs false
def cofferref08_Begin.f (a0_0 : Bool) (a0_1 : Int) (a0_2 : Int) (a0_3 : ByteArray) (a0_4 : ByteArray) (a0_5 : ByteArray) (a0_6 : ByteArray) (a0_7 : ByteArray) : Option (Int) := if a0_0 = true then (some a0_1) else (some 0)
set_option maxHeartbeats 8000000 in
set_option maxRecDepth 100000 in
theorem cofferref08_Begin.calls (a0_0 : Bool) (a0_1 : Int) (a0_2 : Int) (a0_3 : ByteArray) (a0_4 : ByteArray) (a0_5 : ByteArray) (a0_6 : ByteArray) (a0_7 : ByteArray) (r : Int) (w : World) (h : cofferref08_Begin.f a0_0 a0_1 a0_2 a0_3 a0_4 a0_5 a0_6 a0_7 = some r) :
    Calls Tryd.prog 21 #[.agg #[.bool a0_0, .int .i64 a0_1, .int .u64 a0_2, .string a0_3, .string a0_4, .string a0_5, .string a0_6, .string a0_7]] w fun e w' => e = .returned (.int .i64 r) ∧ Below w.heap.size w w' := by
  have hu24 := Tryd.underlying24
  have HB := Aside0.mk (Below.refl w.heap.size w)
  have H : (if a0_0 = true then (some a0_1) else (some 0)) = some r := h
  clear h
  by_cases c2 : a0_0 = true
  · subst c2
    have H1 : (some a0_1) = some r := by rw [if_pos rfl] at H; exact H
    clear H
    have H := H1
    clear H1
    obtain rfl := Option.some.inj H
    go_enter Tryd.func21, Tryd.ntmps21
    go_wp2_with (first | ((with_reducible refine gate_dst (N := 1) rfl ?_); refine box_event ?hg (N := 1) ?hd (cs := #[.bool true, .int .i64 a0_1, .int .u64 a0_2, .string a0_3, .string a0_4, .string a0_5, .string a0_6, .string a0_7]) (t := 24) ?hr ?_; (case hd => rfl); (case hg => rfl); (case hr => first | (go_simp; done) | (go_simp; rfl)); intro gb126 hg w3 hbox hb; have n0_ := Aside0.mk (below_step (by repeat (first | (with_reducible first | exact HB.out | apply below_alloc | apply pw_below_drewN | apply below_drew1) | exact HB.out)) hb); have n1_ := Aside0.mk (hbox); have n2_ := Aside0.mk ((by rw [hg]; exact (below_size (by repeat (first | (with_reducible first | exact HB.out | apply below_alloc | apply pw_below_drewN | apply below_drew1) | exact HB.out))) : w.heap.size ≤ gb126)); have n3_ := Aside0.mk ((by rw [hg]; exact (below_size (by repeat (first | (with_reducible first | exact HB.out | apply below_alloc | apply pw_below_drewN | apply below_drew1) | exact HB.out))) : w.heap.size ≤ gb126)); clear HB; have HB := n0_; have BK126 := n1_; have GW126 := n2_; have GE126 := n3_; clear n0_ n1_ n2_ n3_; clear hb hbox hg; have hcz4_0 : w3.cell? ⟨gb126, 0, none⟩ = some (.bool true) := (blk_cell BK126.out 0).trans rfl; have hcz4_1 : w3.cell? ⟨gb126, 1, none⟩ = some (.int .i64 a0_1) := (blk_cell BK126.out 1).trans rfl; have hcz4_2 : w3.cell? ⟨gb126, 2, none⟩ = some (.int .u64 a0_2) := (blk_cell BK126.out 2).trans rfl; have hcz4_3 : w3.cell? ⟨gb126, 3, none⟩ = some (.string a0_3) := (blk_cell BK126.out 3).trans rfl; have hcz4_4 : w3.cell? ⟨gb126, 4, none⟩ = some (.string a0_4) := (blk_cell BK126.out 4).trans rfl; have hcz4_5 : w3.cell? ⟨gb126, 5, none⟩ = some (.string a0_5) := (blk_cell BK126.out 5).trans rfl; have hcz4_6 : w3.cell? ⟨gb126, 6, none⟩ = some (.string a0_6) := (blk_cell BK126.out 6).trans rfl; have hcz4_7 : w3.cell? ⟨gb126, 7, none⟩ = some (.string a0_7) := (blk_cell BK126.out 7).trans rfl; have hfz4_0 := blk_frozen BK126.out 0; have hfz4_1 := blk_frozen BK126.out 1; have hfz4_2 := blk_frozen BK126.out 2; have hfz4_3 := blk_frozen BK126.out 3; have hfz4_4 := blk_frozen BK126.out 4; have hfz4_5 := blk_frozen BK126.out 5; have hfz4_6 := blk_frozen BK126.out 6; have hfz4_7 := blk_frozen BK126.out 7))
    go_ret
    exact ⟨by first | rfl | (simp [errW_none, errW_some] <;> rfl) | (simp [*, errW_none, errW_some] <;> rfl), by repeat (first | (with_reducible first | exact HB.out | apply below_alloc | apply pw_below_drewN | apply below_drew1 | refine below_set ?_ GE126.out) | exact HB.out)⟩
  · replace c2 := Bool.eq_false_iff.mpr c2
    subst c2
    have H1 : (some 0) = some r := by rw [if_neg (show ¬ (false = true) by decide)] at H; exact H
    clear H
    have H := H1
    clear H1
    obtain rfl := Option.some.inj H
    go_enter Tryd.func21, Tryd.ntmps21
    go_wp2_with (first | ((with_reducible refine gate_dst (N := 1) rfl ?_); refine box_event ?hg (N := 1) ?hd (cs := #[.bool false, .int .i64 a0_1, .int .u64 a0_2, .string a0_3, .string a0_4, .string a0_5, .string a0_6, .string a0_7]) (t := 24) ?hr ?_; (case hd => rfl); (case hg => rfl); (case hr => first | (go_simp; done) | (go_simp; rfl)); intro gb126 hg w5 hbox hb; have n0_ := Aside0.mk (below_step (by repeat (first | (with_reducible first | exact HB.out | apply below_alloc | apply pw_below_drewN | apply below_drew1) | exact HB.out)) hb); have n1_ := Aside0.mk (hbox); have n2_ := Aside0.mk ((by rw [hg]; exact (below_size (by repeat (first | (with_reducible first | exact HB.out | apply below_alloc | apply pw_below_drewN | apply below_drew1) | exact HB.out))) : w.heap.size ≤ gb126)); have n3_ := Aside0.mk ((by rw [hg]; exact (below_size (by repeat (first | (with_reducible first | exact HB.out | apply below_alloc | apply pw_below_drewN | apply below_drew1) | exact HB.out))) : w.heap.size ≤ gb126)); clear HB; have HB := n0_; have BK126 := n1_; have GW126 := n2_; have GE126 := n3_; clear n0_ n1_ n2_ n3_; clear hb hbox hg; have hcz6_0 : w5.cell? ⟨gb126, 0, none⟩ = some (.bool false) := (blk_cell BK126.out 0).trans rfl; have hcz6_1 : w5.cell? ⟨gb126, 1, none⟩ = some (.int .i64 a0_1) := (blk_cell BK126.out 1).trans rfl; have hcz6_2 : w5.cell? ⟨gb126, 2, none⟩ = some (.int .u64 a0_2) := (blk_cell BK126.out 2).trans rfl; have hcz6_3 : w5.cell? ⟨gb126, 3, none⟩ = some (.string a0_3) := (blk_cell BK126.out 3).trans rfl; have hcz6_4 : w5.cell? ⟨gb126, 4, none⟩ = some (.string a0_4) := (blk_cell BK126.out 4).trans rfl; have hcz6_5 : w5.cell? ⟨gb126, 5, none⟩ = some (.string a0_5) := (blk_cell BK126.out 5).trans rfl; have hcz6_6 : w5.cell? ⟨gb126, 6, none⟩ = some (.string a0_6) := (blk_cell BK126.out 6).trans rfl; have hcz6_7 : w5.cell? ⟨gb126, 7, none⟩ = some (.string a0_7) := (blk_cell BK126.out 7).trans rfl; have hfz6_0 := blk_frozen BK126.out 0; have hfz6_1 := blk_frozen BK126.out 1; have hfz6_2 := blk_frozen BK126.out 2; have hfz6_3 := blk_frozen BK126.out 3; have hfz6_4 := blk_frozen BK126.out 4; have hfz6_5 := blk_frozen BK126.out 5; have hfz6_6 := blk_frozen BK126.out 6; have hfz6_7 := blk_frozen BK126.out 7))
    go_ret
    exact ⟨by first | rfl | (simp [errW_none, errW_some] <;> rfl) | (simp [*, errW_none, errW_some] <;> rfl), by repeat (first | (with_reducible first | exact HB.out | apply below_alloc | apply pw_below_drewN | apply below_drew1 | refine below_set ?_ GE126.out) | exact HB.out)⟩

def header_isHead.f (a0 : Int) : Option (Bool) := if a0 ≥ 16384 then (if a0 ≤ 4194304 then (some ((Go.bits .and .u64 a0 (IntKind.u64.wrap (a0 - 1))) == 0)) else (some false)) else (some false)
set_option maxHeartbeats 8000000 in
set_option maxRecDepth 100000 in
theorem header_isHead.calls (a0 : Int) (r : Bool) (w : World) (h : header_isHead.f a0 = some r) :
    Calls Tryd.prog 38 #[.int .u64 a0] w fun e w' => e = .returned (.bool r) ∧ Drawn0 w w' := by
  have H : (if a0 ≥ 16384 then (if a0 ≤ 4194304 then (some ((Go.bits .and .u64 a0 (IntKind.u64.wrap (a0 - 1))) == 0)) else (some false)) else (some false)) = some r := h
  clear h
  by_cases c2 : a0 ≥ 16384
  · rw [if_pos c2] at H
    have c2b0 : decide (16384 ≤ a0) = true := decide_eq_true c2
    clear c2
    by_cases c3 : a0 ≤ 4194304
    · rw [if_pos c3] at H
      have c3b0 : decide (a0 ≤ 4194304) = true := decide_eq_true c3
      clear c3
      obtain rfl := Option.some.inj H
      go_enter Tryd.func38, Tryd.ntmps38
      go_wp2
      go_ret
      exact ⟨by first | rfl | (simp; done) | (simp [*]; done), by repeat (first | exact Drawn0.refl _ | apply Drawn0.step)⟩
    · rw [if_neg c3] at H
      have c3b0 : decide (a0 ≤ 4194304) = false := decide_eq_false c3
      clear c3
      obtain rfl := Option.some.inj H
      go_enter Tryd.func38, Tryd.ntmps38
      go_wp2
      go_ret
      exact ⟨by first | rfl | (simp; done) | (simp [*]; done), by repeat (first | exact Drawn0.refl _ | apply Drawn0.step)⟩
  · rw [if_neg c2] at H
    have c2b0 : decide (16384 ≤ a0) = false := decide_eq_false c2
    clear c2
    obtain rfl := Option.some.inj H
    go_enter Tryd.func38, Tryd.ntmps38
    go_wp2
    go_ret
    exact ⟨by first | rfl | (simp; done) | (simp [*]; done), by repeat (first | exact Drawn0.refl _ | apply Drawn0.step)⟩

/-! ### bytealg_Cutover: function 64 -/
def header_begin.f (a0_0 : Bool) (a0_1 : Int) (a0_2 : Int) (a0_3 : ByteArray) (a0_4 : ByteArray) (a0_5 : ByteArray) (a0_6 : ByteArray) (a0_7 : ByteArray) : Option (Int) := if a0_0 = true then (some a0_1) else (some 0)
set_option maxHeartbeats 8000000 in
set_option maxRecDepth 100000 in
theorem header_begin.calls (a0_0 : Bool) (a0_1 : Int) (a0_2 : Int) (a0_3 : ByteArray) (a0_4 : ByteArray) (a0_5 : ByteArray) (a0_6 : ByteArray) (a0_7 : ByteArray) (r : Int) (w : World) (h : header_begin.f a0_0 a0_1 a0_2 a0_3 a0_4 a0_5 a0_6 a0_7 = some r) :
    Calls Tryd.prog 26 #[.agg #[.bool a0_0, .int .i64 a0_1, .int .u64 a0_2, .string a0_3, .string a0_4, .string a0_5, .string a0_6, .string a0_7]] w fun e w' => e = .returned (.int .i64 r) ∧ Below w.heap.size w w' := by
  have hu24 := Tryd.underlying24
  have HB := Aside0.mk (Below.refl w.heap.size w)
  have H : (if a0_0 = true then (some a0_1) else (some 0)) = some r := h
  clear h
  by_cases c2 : a0_0 = true
  · subst c2
    have H1 : (some a0_1) = some r := by rw [if_pos rfl] at H; exact H
    clear H
    have H := H1
    clear H1
    obtain rfl := Option.some.inj H
    go_enter Tryd.func26, Tryd.ntmps26
    go_wp2_with (first | ((with_reducible refine gate_dst (N := 1) rfl ?_); refine box_event ?hg (N := 1) ?hd (cs := #[.bool true, .int .i64 a0_1, .int .u64 a0_2, .string a0_3, .string a0_4, .string a0_5, .string a0_6, .string a0_7]) (t := 24) ?hr ?_; (case hd => rfl); (case hg => rfl); (case hr => first | (go_simp; done) | (go_simp; rfl)); intro gb154 hg w3 hbox hb; have n0_ := Aside0.mk (below_step (by repeat (first | (with_reducible first | exact HB.out | apply below_alloc | apply pw_below_drewN | apply below_drew1) | exact HB.out)) hb); have n1_ := Aside0.mk (hbox); have n2_ := Aside0.mk ((by rw [hg]; exact (below_size (by repeat (first | (with_reducible first | exact HB.out | apply below_alloc | apply pw_below_drewN | apply below_drew1) | exact HB.out))) : w.heap.size ≤ gb154)); have n3_ := Aside0.mk ((by rw [hg]; exact (below_size (by repeat (first | (with_reducible first | exact HB.out | apply below_alloc | apply pw_below_drewN | apply below_drew1) | exact HB.out))) : w.heap.size ≤ gb154)); clear HB; have HB := n0_; have BK154 := n1_; have GW154 := n2_; have GE154 := n3_; clear n0_ n1_ n2_ n3_; clear hb hbox hg; have hcz4_0 : w3.cell? ⟨gb154, 0, none⟩ = some (.bool true) := (blk_cell BK154.out 0).trans rfl; have hcz4_1 : w3.cell? ⟨gb154, 1, none⟩ = some (.int .i64 a0_1) := (blk_cell BK154.out 1).trans rfl; have hcz4_2 : w3.cell? ⟨gb154, 2, none⟩ = some (.int .u64 a0_2) := (blk_cell BK154.out 2).trans rfl; have hcz4_3 : w3.cell? ⟨gb154, 3, none⟩ = some (.string a0_3) := (blk_cell BK154.out 3).trans rfl; have hcz4_4 : w3.cell? ⟨gb154, 4, none⟩ = some (.string a0_4) := (blk_cell BK154.out 4).trans rfl; have hcz4_5 : w3.cell? ⟨gb154, 5, none⟩ = some (.string a0_5) := (blk_cell BK154.out 5).trans rfl; have hcz4_6 : w3.cell? ⟨gb154, 6, none⟩ = some (.string a0_6) := (blk_cell BK154.out 6).trans rfl; have hcz4_7 : w3.cell? ⟨gb154, 7, none⟩ = some (.string a0_7) := (blk_cell BK154.out 7).trans rfl; have hfz4_0 := blk_frozen BK154.out 0; have hfz4_1 := blk_frozen BK154.out 1; have hfz4_2 := blk_frozen BK154.out 2; have hfz4_3 := blk_frozen BK154.out 3; have hfz4_4 := blk_frozen BK154.out 4; have hfz4_5 := blk_frozen BK154.out 5; have hfz4_6 := blk_frozen BK154.out 6; have hfz4_7 := blk_frozen BK154.out 7))
    go_ret
    exact ⟨by first | rfl | (simp [errW_none, errW_some] <;> rfl) | (simp [*, errW_none, errW_some] <;> rfl), by repeat (first | (with_reducible first | exact HB.out | apply below_alloc | apply pw_below_drewN | apply below_drew1 | refine below_set ?_ GE154.out) | exact HB.out)⟩
  · replace c2 := Bool.eq_false_iff.mpr c2
    subst c2
    have H1 : (some 0) = some r := by rw [if_neg (show ¬ (false = true) by decide)] at H; exact H
    clear H
    have H := H1
    clear H1
    obtain rfl := Option.some.inj H
    go_enter Tryd.func26, Tryd.ntmps26
    go_wp2_with (first | ((with_reducible refine gate_dst (N := 1) rfl ?_); refine box_event ?hg (N := 1) ?hd (cs := #[.bool false, .int .i64 a0_1, .int .u64 a0_2, .string a0_3, .string a0_4, .string a0_5, .string a0_6, .string a0_7]) (t := 24) ?hr ?_; (case hd => rfl); (case hg => rfl); (case hr => first | (go_simp; done) | (go_simp; rfl)); intro gb154 hg w5 hbox hb; have n0_ := Aside0.mk (below_step (by repeat (first | (with_reducible first | exact HB.out | apply below_alloc | apply pw_below_drewN | apply below_drew1) | exact HB.out)) hb); have n1_ := Aside0.mk (hbox); have n2_ := Aside0.mk ((by rw [hg]; exact (below_size (by repeat (first | (with_reducible first | exact HB.out | apply below_alloc | apply pw_below_drewN | apply below_drew1) | exact HB.out))) : w.heap.size ≤ gb154)); have n3_ := Aside0.mk ((by rw [hg]; exact (below_size (by repeat (first | (with_reducible first | exact HB.out | apply below_alloc | apply pw_below_drewN | apply below_drew1) | exact HB.out))) : w.heap.size ≤ gb154)); clear HB; have HB := n0_; have BK154 := n1_; have GW154 := n2_; have GE154 := n3_; clear n0_ n1_ n2_ n3_; clear hb hbox hg; have hcz6_0 : w5.cell? ⟨gb154, 0, none⟩ = some (.bool false) := (blk_cell BK154.out 0).trans rfl; have hcz6_1 : w5.cell? ⟨gb154, 1, none⟩ = some (.int .i64 a0_1) := (blk_cell BK154.out 1).trans rfl; have hcz6_2 : w5.cell? ⟨gb154, 2, none⟩ = some (.int .u64 a0_2) := (blk_cell BK154.out 2).trans rfl; have hcz6_3 : w5.cell? ⟨gb154, 3, none⟩ = some (.string a0_3) := (blk_cell BK154.out 3).trans rfl; have hcz6_4 : w5.cell? ⟨gb154, 4, none⟩ = some (.string a0_4) := (blk_cell BK154.out 4).trans rfl; have hcz6_5 : w5.cell? ⟨gb154, 5, none⟩ = some (.string a0_5) := (blk_cell BK154.out 5).trans rfl; have hcz6_6 : w5.cell? ⟨gb154, 6, none⟩ = some (.string a0_6) := (blk_cell BK154.out 6).trans rfl; have hcz6_7 : w5.cell? ⟨gb154, 7, none⟩ = some (.string a0_7) := (blk_cell BK154.out 7).trans rfl; have hfz6_0 := blk_frozen BK154.out 0; have hfz6_1 := blk_frozen BK154.out 1; have hfz6_2 := blk_frozen BK154.out 2; have hfz6_3 := blk_frozen BK154.out 3; have hfz6_4 := blk_frozen BK154.out 4; have hfz6_5 := blk_frozen BK154.out 5; have hfz6_6 := blk_frozen BK154.out 6; have hfz6_7 := blk_frozen BK154.out 7))
    go_ret
    exact ⟨by first | rfl | (simp [errW_none, errW_some] <;> rfl) | (simp [*, errW_none, errW_some] <;> rfl), by repeat (first | (with_reducible first | exact HB.out | apply below_alloc | apply pw_below_drewN | apply below_drew1 | refine below_set ?_ GE154.out) | exact HB.out)⟩

/-! ### bits_RotateLeft32: function 81 -/
end Go.Proofs.YtglcapkmeecknaaDoor.PHeaderPacks
/-! ## Head -/
namespace Go.Proofs.YtglcapkmeecknaaDoor.headp
open Go Go.RowKit Go.Proofs.YtglcapkmeecknaaDoor.PHeaderPacks Go.Proofs.YtglcapkmeecknaaDoorW.PrintWords
set_option linter.unusedVariables false
def isHd (h : Int) : Bool := decide (h = 16384 ∨ h = 32768 ∨ h = 65536 ∨ h = 131072 ∨ h = 262144 ∨ h = 524288 ∨ h = 1048576 ∨ h = 2097152 ∨ h = 4194304)
theorem and_nat (n m : Nat) (hn : n < 18446744073709551616) (hm : m < 18446744073709551616) : Go.bits .and .u64 (n : Int) (m : Int) = ((n &&& m : Nat) : Int) := by
  show IntKind.u64.wrap ((BitVec.ofInt 64 (n : Int) &&& BitVec.ofInt 64 (m : Int)).toNat : Int) = _
  rw [BitVec.toNat_and, BitVec.toNat_ofInt, BitVec.toNat_ofInt]
  have e1 : ((n : Int) % ((2 ^ 64 : Nat) : Int)).toNat = n := by
    rw [show ((2 ^ 64 : Nat) : Int) = 18446744073709551616 from rfl]; omega
  have e2 : ((m : Int) % ((2 ^ 64 : Nat) : Int)).toNat = m := by
    rw [show ((2 ^ 64 : Nat) : Int) = 18446744073709551616 from rfl]; omega
  rw [e1, e2]
  have h : n &&& m ≤ n := Nat.and_le_left
  rw [IntKind.wrap_u64]
  omega
theorem pow_of_and (n k : Nat) (h0 : 2 ^ k ≤ n) (h1 : n < 2 ^ (k + 1)) (h : n &&& (n - 1) = 0) : n = 2 ^ k := by
  rcases Nat.lt_or_ge (2 ^ k) n with hlt | hge
  · exfalso
    have t1 : n.testBit k = true := by
      rw [Nat.testBit_eq_decide_div_mod_eq]
      rw [show n / 2 ^ k = 1 from by
        apply Nat.div_eq_of_lt_le
        · omega
        · rw [Nat.pow_succ] at h1; omega]
      rfl
    have t2 : (n - 1).testBit k = true := by
      rw [Nat.testBit_eq_decide_div_mod_eq]
      rw [show (n - 1) / 2 ^ k = 1 from by
        apply Nat.div_eq_of_lt_le
        · omega
        · rw [Nat.pow_succ] at h1; omega]
      rfl
    have t3 : (n &&& (n - 1)).testBit k = true := by rw [Nat.testBit_and, t1, t2]; rfl
    rw [h] at t3
    simp at t3
  · omega
theorem isHead_prog (h : Int) (h0 : 0 ≤ h) (h1 : h < 18446744073709551616) : header_isHead.f h = some (isHd h) := by
  unfold header_isHead.f
  by_cases a : h ≥ 16384
  · rw [if_pos a]
    by_cases b : h ≤ 4194304
    · rw [if_pos b]
      obtain ⟨n, rfl⟩ : ∃ n : Nat, h = n := ⟨h.toNat, by omega⟩
      have ew : IntKind.u64.wrap ((n : Int) - 1) = ((n - 1 : Nat) : Int) := by rw [IntKind.wrap_u64]; omega
      rw [ew, and_nat n (n - 1) (by omega) (by omega)]
      congr 1
      by_cases hz : n &&& (n - 1) = 0
      · rw [hz]
        have hp : ∃ k, 14 ≤ k ∧ k ≤ 22 ∧ 2 ^ k ≤ n ∧ n < 2 ^ (k + 1) := by
          rcases Nat.lt_or_ge n 32768 with c | c
          · exact ⟨14, by omega, by omega, by omega, by omega⟩
          rcases Nat.lt_or_ge n 65536 with c | c
          · exact ⟨15, by omega, by omega, by omega, by omega⟩
          rcases Nat.lt_or_ge n 131072 with c | c
          · exact ⟨16, by omega, by omega, by omega, by omega⟩
          rcases Nat.lt_or_ge n 262144 with c | c
          · exact ⟨17, by omega, by omega, by omega, by omega⟩
          rcases Nat.lt_or_ge n 524288 with c | c
          · exact ⟨18, by omega, by omega, by omega, by omega⟩
          rcases Nat.lt_or_ge n 1048576 with c | c
          · exact ⟨19, by omega, by omega, by omega, by omega⟩
          rcases Nat.lt_or_ge n 2097152 with c | c
          · exact ⟨20, by omega, by omega, by omega, by omega⟩
          rcases Nat.lt_or_ge n 4194304 with c | c
          · exact ⟨21, by omega, by omega, by omega, by omega⟩
          exact ⟨22, by omega, by omega, by omega, by omega⟩
        obtain ⟨k, k0, k1, k2, k3⟩ := hp
        have e := pow_of_and n k k2 k3 hz
        have hk : k = 14 ∨ k = 15 ∨ k = 16 ∨ k = 17 ∨ k = 18 ∨ k = 19 ∨ k = 20 ∨ k = 21 ∨ k = 22 := by omega
        subst e
        rcases hk with rfl | rfl | rfl | rfl | rfl | rfl | rfl | rfl | rfl <;> decide
      · rw [show (((n &&& (n - 1) : Nat) : Int) == 0) = false from by simp; omega]
        symm
        unfold isHd
        rw [decide_eq_false_iff_not]
        intro hc
        apply hz
        have : n = 16384 ∨ n = 32768 ∨ n = 65536 ∨ n = 131072 ∨ n = 262144 ∨ n = 524288 ∨ n = 1048576 ∨ n = 2097152 ∨ n = 4194304 := by omega
        rcases this with rfl | rfl | rfl | rfl | rfl | rfl | rfl | rfl | rfl <;> decide
    · rw [if_neg b]
      congr 1
      symm
      unfold isHd
      rw [decide_eq_false_iff_not]
      omega
  · rw [if_neg a]
    congr 1
    symm
    unfold isHd
    rw [decide_eq_false_iff_not]
    omega
theorem isHead_step (k : Nat) (h x : Int) (h0 : 0 ≤ x) (h1 : x ≤ 4194304) : cofferref08_IsHead.l0 (k + 1) h x = if h = x then some true else cofferref08_IsHead.l0 k h (2 * x) := by
  simp only [cofferref08_IsHead.l0]
  rw [if_pos h1, show wrap64 (2 * x) = 2 * x by unfold wrap64; omega]
theorem isHead_ref (h : Int) : cofferref08_IsHead.f 11 h = some (isHd h) := by
  unfold cofferref08_IsHead.f
  rw [isHead_step _ _ _ (by omega) (by omega), isHead_step _ _ _ (by omega) (by omega), isHead_step _ _ _ (by omega) (by omega), isHead_step _ _ _ (by omega) (by omega), isHead_step _ _ _ (by omega) (by omega), isHead_step _ _ _ (by omega) (by omega), isHead_step _ _ _ (by omega) (by omega), isHead_step _ _ _ (by omega) (by omega), isHead_step _ _ _ (by omega) (by omega)]
  simp only [show (2 : Int) * 16384 = 32768 from rfl, show (2 : Int) * 32768 = 65536 from rfl, show (2 : Int) * 65536 = 131072 from rfl, show (2 : Int) * 131072 = 262144 from rfl, show (2 : Int) * 262144 = 524288 from rfl, show (2 : Int) * 524288 = 1048576 from rfl, show (2 : Int) * 1048576 = 2097152 from rfl, show (2 : Int) * 2097152 = 4194304 from rfl, show (2 : Int) * 4194304 = 8388608 from rfl]
  unfold isHd
  by_cases c0 : h = 16384
  · rw [if_pos c0, decide_eq_true (by omega)]
  by_cases c1 : h = 32768
  · rw [if_neg c0, if_pos c1, decide_eq_true (by omega)]
  by_cases c2 : h = 65536
  · rw [if_neg c0, if_neg c1, if_pos c2, decide_eq_true (by omega)]
  by_cases c3 : h = 131072
  · rw [if_neg c0, if_neg c1, if_neg c2, if_pos c3, decide_eq_true (by omega)]
  by_cases c4 : h = 262144
  · rw [if_neg c0, if_neg c1, if_neg c2, if_neg c3, if_pos c4, decide_eq_true (by omega)]
  by_cases c5 : h = 524288
  · rw [if_neg c0, if_neg c1, if_neg c2, if_neg c3, if_neg c4, if_pos c5, decide_eq_true (by omega)]
  by_cases c6 : h = 1048576
  · rw [if_neg c0, if_neg c1, if_neg c2, if_neg c3, if_neg c4, if_neg c5, if_pos c6, decide_eq_true (by omega)]
  by_cases c7 : h = 2097152
  · rw [if_neg c0, if_neg c1, if_neg c2, if_neg c3, if_neg c4, if_neg c5, if_neg c6, if_pos c7, decide_eq_true (by omega)]
  by_cases c8 : h = 4194304
  · rw [if_neg c0, if_neg c1, if_neg c2, if_neg c3, if_neg c4, if_neg c5, if_neg c6, if_neg c7, if_pos c8, decide_eq_true (by omega)]
  rw [if_neg c0, if_neg c1, if_neg c2, if_neg c3, if_neg c4, if_neg c5, if_neg c6, if_neg c7, if_neg c8, decide_eq_false (by omega)]
  rfl
/-- Does a text hold a zero byte? -/
def has0 (s : ByteArray) : Bool := s.data.toList.contains 0
theorem contains0 (s : ByteArray) (w : World) : Calls Tryd.prog 39 #[.string s, .string ⟨#[0]⟩] w fun e w' => e = .returned (.bool (has0 s)) ∧ w = w' :=
  (Tryd.strings_Contains_one s 0 w).mono fun e w' ⟨he, hw⟩ => ⟨by rw [he]; unfold has0; rw [Lib.contains_iff_indexByte], hw.symm⟩
theorem bt_get (s : ByteArray) (i : Nat) (h : i < s.data.toList.length) : bt s (i : Int) = ((s.data.toList[i]).toNat : Int) := by
  have h' : i < s.size := by rw [← data_length]; exact h
  unfold bt
  rw [dif_pos (by rw [Int.toNat_natCast]; exact h')]
  simp
  rfl
theorem plain_go (s : ByteArray) (n : Int) (hs : s.size ≤ 9223372036854775807) : ∀ (d k i : Nat), s.size - i = d → i ≤ s.size → d < k → cofferref08_plain.l0 k s n (i : Int) = some (!(s.data.toList.drop i).contains 0 && decide ((s.size : Int) ≤ n))
  | 0, k, i, hd, hi, hk => by
    obtain ⟨k, rfl⟩ : ∃ m, k = m + 1 := ⟨k - 1, by omega⟩
    simp only [cofferref08_plain.l0]
    rw [if_neg (by omega), List.drop_eq_nil_of_le (by rw [data_length]; omega)]
    simp
  | d + 1, k, i, hd, hi, hk => by
    obtain ⟨k, rfl⟩ : ∃ m, k = m + 1 := ⟨k - 1, by omega⟩
    have hil : i < s.data.toList.length := by rw [data_length]; omega
    have ew : wrap64 ((i : Int) + 1) = ((i + 1 : Nat) : Int) := by unfold wrap64; omega
    simp only [cofferref08_plain.l0]
    rw [if_pos (by omega), if_pos (by omega), bt_get s i hil, List.drop_eq_getElem_cons hil]
    by_cases z : s.data.toList[i] = 0
    · rw [if_pos (by rw [z]; rfl), z]
      simp
    · rw [if_neg (fun hc => z (UInt8.toNat_inj.1 (by simpa using hc))), ew, plain_go s n hs d k (i + 1) (by omega) (by omega) (by omega)]
      congr 2
      rw [List.contains_cons, show ((0 : UInt8) == s.data.toList[i]) = false from beq_false_of_ne (Ne.symm z), Bool.false_or]
theorem plain_ref (s : ByteArray) (n : Int) (hs : s.size ≤ 9223372036854775807) (k : Nat) (hk : s.size < k) : cofferref08_plain.f k s n = some (!has0 s && decide ((s.size : Int) ≤ n)) := plain_go s n hs s.size k 0 (by omega) (by omega) (by omega)
end Go.Proofs.YtglcapkmeecknaaDoor.headp
/-! ## M22 -/
namespace Go.Proofs.YtglcapkmeecknaaDoor.m22
open Go Go.RowKit Go.Proofs.YtglcapkmeecknaaDoor.PHeaderPacks Go.Proofs.YtglcapkmeecknaaDoor.mem Go.Proofs.YtglcapkmeecknaaDoor.headp Go.Proofs.YtglcapkmeecknaaDoor.f25 Go.Proofs.YtglcapkmeecknaaDoorW.PrintWords Go.Proofs.YtglcapkmeecknaaDoorW.PrintLast Go.Proofs.YtglcapkmeecknaaDoorW.PrintMore
set_option linter.unusedVariables false
set_option linter.unusedSimpArgs false
def badT (s : ByteArray) (most : Int) : Bool := decide (most < (s.size : Int)) || has0 s
def mayE (head seq : Int) (label sub uuid salt text : ByteArray) : Int :=
  if isHd head = false then 83 else if seq = 0 ∨ 4611686018427387904 < seq ∨ salt.size ≠ 64 then 85 else if badT label 47 = true ∨ badT uuid 39 = true ∨ badT sub 47 = true then 85 else if badT text (head - 4097) = true then 86 else 0
def txt (label sub uuid : ByteArray) : Nat → ByteArray
  | 0 => label
  | 1 => uuid
  | _ => sub
def mst : Nat → Int
  | 0 => 47
  | 1 => 39
  | _ => 47
set_option maxHeartbeats 2000000 in
set_option maxRecDepth 100000 in
theorem may_call (sec : Bool) (head seq : Int) (label sub uuid salt text : ByteArray) (hh0 : -9223372036854775808 ≤ head) (hh1 : head ≤ 9223372036854775807) (hq0 : 0 ≤ seq) (w : World) :
    Calls Tryd.prog 22 #[.agg #[.bool sec, .int .i64 head, .int .u64 seq, .string label, .string sub, .string uuid, .string salt, .string text]] w fun e w' => e = .returned (.int .i64 (mayE head seq label sub uuid salt text)) ∧ Below w.heap.size w w' := by
  obtain ⟨cs, hcs⟩ : ∃ cs : Array Value, Aside0 (cs = #[.bool sec, .int .i64 head, .int .u64 seq, .string label, .string sub, .string uuid, .string salt, .string text]) := ⟨_, ⟨rfl⟩⟩
  rw [← hcs.out]
  obtain ⟨E, hE⟩ : ∃ E, Aside0 (E = mayE head seq label sub uuid salt text) := ⟨_, ⟨rfl⟩⟩
  rw [← hE.out]
  by_cases hneg : head < 0
  · have hlt : decide (head < 0) = true := by simpa using hneg
    have hEA : Aside0 (E = 83) := ⟨by rw [hE.out]; unfold mayE; rw [if_pos (by unfold isHd; rw [decide_eq_false_iff_not]; omega)]⟩
    clear hE
    go_enter Tryd.func22, Tryd.ntmps22
    go_wp2_with (first | ((with_reducible refine gate_dst (N := 1) rfl ?_); refine box_event ?hg (N := 1) ?hd (cs := cs) (t := 24) ?hr ?_; (case hd => rfl); (case hg => rfl); (case hr => first | (go_simp; done) | (go_simp; rfl)); intro g hg W1 BG hb1; subst hg; generalize hn : w.heap.size = n at *; have HN := Aside0.mk hn; clear hn; have c1 : W1.cell? ⟨n, 1, none⟩ = some (.int .i64 head) := (blk_cell BG 1).trans (by rw [hcs.out]; rfl)) | fail)
    go_ret
    exact ⟨by rw [hEA.out]; rfl, by rw [HN.out]; exact hb1⟩
  have hlt : decide (head < 0) = false := by simp; omega
  have hpos : 0 ≤ head := by omega
  cases hhd : isHd head
  · have HH : Aside0 (header_isHead.f head = some false) := ⟨by rw [isHead_prog head (by omega) (by omega), hhd]⟩
    have hEA : Aside0 (E = 83) := ⟨by rw [hE.out]; unfold mayE; rw [if_pos hhd]⟩
    clear hE
    clear hhd
    go_enter Tryd.func22, Tryd.ntmps22
    go_wp2_with (first | ((with_reducible refine gate_dst (N := 1) rfl ?_); refine box_event ?hg (N := 1) ?hd (cs := cs) (t := 24) ?hr ?_; (case hd => rfl); (case hg => rfl); (case hr => first | (go_simp; done) | (go_simp; rfl)); intro g hg W1 BG hb1; subst hg; generalize hn : w.heap.size = n at *; have HN := Aside0.mk hn; clear hn; have c1 : W1.cell? ⟨n, 1, none⟩ = some (.int .i64 head) := (blk_cell BG 1).trans (by rw [hcs.out]; rfl)) | (go_at_call 38; refine (header_isHead.calls head false _ HH.out).mono ?_; rintro e W2 ⟨rfl, hd2⟩; have BG2 := blk_below BG hd2.below; have hb2 := hb1.trans (hd2.below.mono (by rw [← HN.out]; exact hb1.size)); clear c1; have c1 : W2.cell? ⟨n, 1, none⟩ = some (.int .i64 head) := (blk_cell BG2 1).trans (by rw [hcs.out]; rfl); have c2 : W2.cell? ⟨n, 2, none⟩ = some (.int .u64 seq) := (blk_cell BG2 2).trans (by rw [hcs.out]; rfl); have c6 : W2.cell? ⟨n, 6, none⟩ = some (.string salt) := (blk_cell BG2 6).trans (by rw [hcs.out]; rfl); have c7 : W2.cell? ⟨n, 7, none⟩ = some (.string text) := (blk_cell BG2 7).trans (by rw [hcs.out]; rfl)) | fail)
    go_ret
    exact ⟨by rw [hEA.out]; rfl, by rw [HN.out]; exact hb2⟩
  have HH : Aside0 (header_isHead.f head = some true) := ⟨by rw [isHead_prog head (by omega) (by omega), hhd]⟩
  by_cases hs0 : seq = 0
  · have q0 : (seq == 0) = true := by simp [hs0]
    have hEA : Aside0 (E = 85) := ⟨by rw [hE.out]; unfold mayE; rw [if_neg (by rw [hhd]; decide), if_pos (Or.inl hs0)]⟩
    clear hE
    clear hhd hs0
    go_enter Tryd.func22, Tryd.ntmps22
    go_wp2_with (first | ((with_reducible refine gate_dst (N := 1) rfl ?_); refine box_event ?hg (N := 1) ?hd (cs := cs) (t := 24) ?hr ?_; (case hd => rfl); (case hg => rfl); (case hr => first | (go_simp; done) | (go_simp; rfl)); intro g hg W1 BG hb1; subst hg; generalize hn : w.heap.size = n at *; have HN := Aside0.mk hn; clear hn; have c1 : W1.cell? ⟨n, 1, none⟩ = some (.int .i64 head) := (blk_cell BG 1).trans (by rw [hcs.out]; rfl)) | (go_at_call 38; refine (header_isHead.calls head true _ HH.out).mono ?_; rintro e W2 ⟨rfl, hd2⟩; have BG2 := blk_below BG hd2.below; have hb2 := hb1.trans (hd2.below.mono (by rw [← HN.out]; exact hb1.size)); clear c1; have c1 : W2.cell? ⟨n, 1, none⟩ = some (.int .i64 head) := (blk_cell BG2 1).trans (by rw [hcs.out]; rfl); have c2 : W2.cell? ⟨n, 2, none⟩ = some (.int .u64 seq) := (blk_cell BG2 2).trans (by rw [hcs.out]; rfl); have c6 : W2.cell? ⟨n, 6, none⟩ = some (.string salt) := (blk_cell BG2 6).trans (by rw [hcs.out]; rfl); have c7 : W2.cell? ⟨n, 7, none⟩ = some (.string text) := (blk_cell BG2 7).trans (by rw [hcs.out]; rfl)) | fail)
    go_ret
    exact ⟨by rw [hEA.out]; rfl, by rw [HN.out]; exact hb2⟩
  have q0 : (seq == 0) = false := by simpa using hs0
  by_cases hs1 : 4611686018427387904 < seq
  · have q1 : decide (seq > 4611686018427387904) = true := by simpa using hs1
    have hEA : Aside0 (E = 85) := ⟨by rw [hE.out]; unfold mayE; rw [if_neg (by rw [hhd]; decide), if_pos (Or.inr (Or.inl hs1))]⟩
    clear hE
    clear hhd hs1
    go_enter Tryd.func22, Tryd.ntmps22
    go_wp2_with (first | ((with_reducible refine gate_dst (N := 1) rfl ?_); refine box_event ?hg (N := 1) ?hd (cs := cs) (t := 24) ?hr ?_; (case hd => rfl); (case hg => rfl); (case hr => first | (go_simp; done) | (go_simp; rfl)); intro g hg W1 BG hb1; subst hg; generalize hn : w.heap.size = n at *; have HN := Aside0.mk hn; clear hn; have c1 : W1.cell? ⟨n, 1, none⟩ = some (.int .i64 head) := (blk_cell BG 1).trans (by rw [hcs.out]; rfl)) | (go_at_call 38; refine (header_isHead.calls head true _ HH.out).mono ?_; rintro e W2 ⟨rfl, hd2⟩; have BG2 := blk_below BG hd2.below; have hb2 := hb1.trans (hd2.below.mono (by rw [← HN.out]; exact hb1.size)); clear c1; have c1 : W2.cell? ⟨n, 1, none⟩ = some (.int .i64 head) := (blk_cell BG2 1).trans (by rw [hcs.out]; rfl); have c2 : W2.cell? ⟨n, 2, none⟩ = some (.int .u64 seq) := (blk_cell BG2 2).trans (by rw [hcs.out]; rfl); have c6 : W2.cell? ⟨n, 6, none⟩ = some (.string salt) := (blk_cell BG2 6).trans (by rw [hcs.out]; rfl); have c7 : W2.cell? ⟨n, 7, none⟩ = some (.string text) := (blk_cell BG2 7).trans (by rw [hcs.out]; rfl)) | fail)
    go_ret
    exact ⟨by rw [hEA.out]; rfl, by rw [HN.out]; exact hb2⟩
  have q1 : decide (seq > 4611686018427387904) = false := by simp; omega
  by_cases hs2 : salt.size ≠ 64
  · have q2 : ((salt.size : Int) == 64) = false := by simp; omega
    have q3 : ((salt.size : Int) != 64) = true := by simp; omega
    have hEA : Aside0 (E = 85) := ⟨by rw [hE.out]; unfold mayE; rw [if_neg (by rw [hhd]; decide), if_pos (Or.inr (Or.inr hs2))]⟩
    clear hE
    clear hhd hs1 hs2
    go_enter Tryd.func22, Tryd.ntmps22
    go_wp2_with (first | ((with_reducible refine gate_dst (N := 1) rfl ?_); refine box_event ?hg (N := 1) ?hd (cs := cs) (t := 24) ?hr ?_; (case hd => rfl); (case hg => rfl); (case hr => first | (go_simp; done) | (go_simp; rfl)); intro g hg W1 BG hb1; subst hg; generalize hn : w.heap.size = n at *; have HN := Aside0.mk hn; clear hn; have c1 : W1.cell? ⟨n, 1, none⟩ = some (.int .i64 head) := (blk_cell BG 1).trans (by rw [hcs.out]; rfl)) | (go_at_call 38; refine (header_isHead.calls head true _ HH.out).mono ?_; rintro e W2 ⟨rfl, hd2⟩; have BG2 := blk_below BG hd2.below; have hb2 := hb1.trans (hd2.below.mono (by rw [← HN.out]; exact hb1.size)); clear c1; have c1 : W2.cell? ⟨n, 1, none⟩ = some (.int .i64 head) := (blk_cell BG2 1).trans (by rw [hcs.out]; rfl); have c2 : W2.cell? ⟨n, 2, none⟩ = some (.int .u64 seq) := (blk_cell BG2 2).trans (by rw [hcs.out]; rfl); have c6 : W2.cell? ⟨n, 6, none⟩ = some (.string salt) := (blk_cell BG2 6).trans (by rw [hcs.out]; rfl); have c7 : W2.cell? ⟨n, 7, none⟩ = some (.string text) := (blk_cell BG2 7).trans (by rw [hcs.out]; rfl)) | fail)
    go_ret
    exact ⟨by rw [hEA.out]; rfl, by rw [HN.out]; exact hb2⟩
  have hs3 : salt.size = 64 := by omega
  have q2 : ((salt.size : Int) == 64) = true := by simp; omega
  have q3 : ((salt.size : Int) != 64) = false := by simp; omega
  have hEA : Aside0 (E = if badT label 47 = true ∨ badT uuid 39 = true ∨ badT sub 47 = true then 85 else if badT text (head - 4097) = true then 86 else 0) := ⟨by rw [hE.out]; unfold mayE; rw [if_neg (by rw [hhd]; decide), if_neg (by omega)]⟩
  have hhdA := Aside0.mk hhd
  clear hE hhd hs0 hs1 hs2 hs3
  go_enter Tryd.func22, Tryd.ntmps22
  go_wp2_with (first | ((with_reducible refine gate_dst (N := 1) rfl ?_); refine box_event ?hg (N := 1) ?hd (cs := cs) (t := 24) ?hr ?_; (case hd => rfl); (case hg => rfl); (case hr => first | (go_simp; done) | (go_simp; rfl)); intro g hg W1 BG hb1; subst hg; generalize hn : w.heap.size = n at *; have HN := Aside0.mk hn; clear hn; have c1 : W1.cell? ⟨n, 1, none⟩ = some (.int .i64 head) := (blk_cell BG 1).trans (by rw [hcs.out]; rfl)) | (go_at_call 38; refine (header_isHead.calls head true _ HH.out).mono ?_; rintro e W2 ⟨rfl, hd2⟩; have BG2 := blk_below BG hd2.below; have hb2 := hb1.trans (hd2.below.mono (by rw [← HN.out]; exact hb1.size)); clear c1; have c1 : W2.cell? ⟨n, 1, none⟩ = some (.int .i64 head) := (blk_cell BG2 1).trans (by rw [hcs.out]; rfl); have c2 : W2.cell? ⟨n, 2, none⟩ = some (.int .u64 seq) := (blk_cell BG2 2).trans (by rw [hcs.out]; rfl); have c6 : W2.cell? ⟨n, 6, none⟩ = some (.string salt) := (blk_cell BG2 6).trans (by rw [hcs.out]; rfl); have c7 : W2.cell? ⟨n, 7, none⟩ = some (.string text) := (blk_cell BG2 7).trans (by rw [hcs.out]; rfl)) | (go_at_call 25; refine (fields_call _ n _ BG2).mono ?_; rintro e W3 ⟨V, rfl, hV, BV, hb3⟩; have BG3 := blk_below BG2 hb3; have hb4 := hb2.trans (hb3.mono (by rw [← HN.out]; exact hb2.size)); have hV2 : n < V := Nat.lt_of_lt_of_le (blk_lt BG2) hV; clear c1 c2 c6 c7) | fail)
  go_loopw [32] (fun v32 wr => ∃ i : Nat, i ≤ 3 ∧ v32 = .int .i64 i ∧ Aside0 (∀ j, j < i → badT (txt label sub uuid j) (mst j) = false) ∧ wr.heap[n]? = some (.cells cs 24 (0, 0)) ∧ wr.heap[V]? = some (.cells (fieldCells n) 55 (0, 0)) ∧ Below n w wr) (fun v32 _ => 3 - (intOf v32).toNat)
  case atStart => exact ⟨0, by omega, rfl, ⟨fun j hj => absurd hj (by omega)⟩, BG3, BV, hb4⟩
  case round =>
    clear BG3 BV hb4
    obtain ⟨i, hi, rfl, hok, BG, BV, HB⟩ := hrel
    unfold fieldCells at BV
    have hd9 : 16384 ≤ head ∧ head ≤ 4194304 := by
      have h := hhdA.out
      unfold isHd at h
      have := of_decide_eq_true h
      omega
    obtain ⟨hd0, hd1⟩ := hd9
    obtain rfl | rfl | rfl | rfl : i = 0 ∨ i = 1 ∨ i = 2 ∨ i = 3 := by omega
    · rw [show ((0 : Nat) : Int) = (0 : Int) from rfl]
      have ct : wr.cell? ⟨n, 3, none⟩ = some (.string label) := (blk_cell BG 3).trans (by rw [hcs.out]; rfl)
      have k0 : wr.cell? ⟨V, 0, none⟩ = some (.int .i64 24) := (blk_cell BV 0).trans rfl
      have k1 : wr.cell? ⟨V, 1, none⟩ = some (.int .i64 48) := (blk_cell BV 1).trans rfl
      have k2 : wr.cell? ⟨V, 2, none⟩ = some (.int .i64 47) := (blk_cell BV 2).trans rfl
      have k3 : wr.cell? ⟨V, 3, none⟩ = some (.pointer (some ⟨n, 3, none⟩)) := (blk_cell BV 3).trans rfl
      have hnV : n < wr.heap.size := blk_lt BG
      by_cases hz : (47 : Int) < (label.size : Int)
      · have z0 : decide ((label.size : Int) > 47) = true := by simpa using hz
        have z1 : decide ((47 : Int) < (label.size : Int)) = true := by simpa using hz
        have hE9 : Aside0 (E = 85) := ⟨by rw [hEA.out, if_pos (Or.inl (by unfold badT; rw [decide_eq_true hz]; rfl))]⟩
        go_wp2
        go_ret
        exact ⟨by rw [hE9.out]; rfl, by rw [HN.out]; exact HB.alloc (by rw [← HN.out]; exact HB.size) _⟩
      · have z0 : decide ((label.size : Int) > 47) = false := by simpa using hz
        have z1 : decide ((47 : Int) < (label.size : Int)) = false := by simpa using hz
        cases hz0 : has0 label
        · have ctr : Aside0 (∀ W, Calls Tryd.prog 39 #[.string label, .string ⟨#[0]⟩] W fun e w' => e = .returned (.bool false) ∧ W = w') := ⟨fun W => by have h := contains0 label W; rwa [hz0] at h⟩
          go_wp2_with (first | (go_at_call 39; refine (ctr.out _).mono ?_; rintro e W5 ⟨rfl, rfl⟩) | fail)
          exact ⟨⟨1, by omega, rfl, ⟨fun j hj => by
            rcases Nat.lt_or_ge j 0 with h | h
            · exact hok.out j h
            · obtain rfl : j = 0 := by omega
              simp only [txt, mst]
              unfold badT
              rw [z1, hz0]
              rfl⟩, blk_alloc BG _, by unfold fieldCells; exact blk_alloc BV _, HB.alloc (by rw [← HN.out]; exact HB.size) _⟩, by decide⟩
        · have ctr : Aside0 (∀ W, Calls Tryd.prog 39 #[.string label, .string ⟨#[0]⟩] W fun e w' => e = .returned (.bool true) ∧ W = w') := ⟨fun W => by have h := contains0 label W; rwa [hz0] at h⟩
          have hE9 : Aside0 (E = 85) := ⟨by rw [hEA.out, if_pos (Or.inl (by unfold badT; rw [hz0]; simp))]⟩
          go_wp2_with (first | (go_at_call 39; refine (ctr.out _).mono ?_; rintro e W5 ⟨rfl, rfl⟩) | fail)
          go_ret
          exact ⟨by rw [hE9.out]; rfl, by rw [HN.out]; exact HB.alloc (by rw [← HN.out]; exact HB.size) _⟩
    · rw [show ((1 : Nat) : Int) = (1 : Int) from rfl]
      have ct : wr.cell? ⟨n, 5, none⟩ = some (.string uuid) := (blk_cell BG 5).trans (by rw [hcs.out]; rfl)
      have k0 : wr.cell? ⟨V, 4, none⟩ = some (.int .i64 168) := (blk_cell BV 4).trans rfl
      have k1 : wr.cell? ⟨V, 5, none⟩ = some (.int .i64 40) := (blk_cell BV 5).trans rfl
      have k2 : wr.cell? ⟨V, 6, none⟩ = some (.int .i64 39) := (blk_cell BV 6).trans rfl
      have k3 : wr.cell? ⟨V, 7, none⟩ = some (.pointer (some ⟨n, 5, none⟩)) := (blk_cell BV 7).trans rfl
      have hnV : n < wr.heap.size := blk_lt BG
      by_cases hz : (39 : Int) < (uuid.size : Int)
      · have z0 : decide ((uuid.size : Int) > 39) = true := by simpa using hz
        have z1 : decide ((39 : Int) < (uuid.size : Int)) = true := by simpa using hz
        have hE9 : Aside0 (E = 85) := ⟨by rw [hEA.out, if_pos (Or.inr (Or.inl (by unfold badT; rw [decide_eq_true hz]; rfl)))]⟩
        go_wp2
        go_ret
        exact ⟨by rw [hE9.out]; rfl, by rw [HN.out]; exact HB.alloc (by rw [← HN.out]; exact HB.size) _⟩
      · have z0 : decide ((uuid.size : Int) > 39) = false := by simpa using hz
        have z1 : decide ((39 : Int) < (uuid.size : Int)) = false := by simpa using hz
        cases hz0 : has0 uuid
        · have ctr : Aside0 (∀ W, Calls Tryd.prog 39 #[.string uuid, .string ⟨#[0]⟩] W fun e w' => e = .returned (.bool false) ∧ W = w') := ⟨fun W => by have h := contains0 uuid W; rwa [hz0] at h⟩
          go_wp2_with (first | (go_at_call 39; refine (ctr.out _).mono ?_; rintro e W5 ⟨rfl, rfl⟩) | fail)
          exact ⟨⟨2, by omega, rfl, ⟨fun j hj => by
            rcases Nat.lt_or_ge j 1 with h | h
            · exact hok.out j h
            · obtain rfl : j = 1 := by omega
              simp only [txt, mst]
              unfold badT
              rw [z1, hz0]
              rfl⟩, blk_alloc BG _, by unfold fieldCells; exact blk_alloc BV _, HB.alloc (by rw [← HN.out]; exact HB.size) _⟩, by decide⟩
        · have ctr : Aside0 (∀ W, Calls Tryd.prog 39 #[.string uuid, .string ⟨#[0]⟩] W fun e w' => e = .returned (.bool true) ∧ W = w') := ⟨fun W => by have h := contains0 uuid W; rwa [hz0] at h⟩
          have hE9 : Aside0 (E = 85) := ⟨by rw [hEA.out, if_pos (Or.inr (Or.inl (by unfold badT; rw [hz0]; simp)))]⟩
          go_wp2_with (first | (go_at_call 39; refine (ctr.out _).mono ?_; rintro e W5 ⟨rfl, rfl⟩) | fail)
          go_ret
          exact ⟨by rw [hE9.out]; rfl, by rw [HN.out]; exact HB.alloc (by rw [← HN.out]; exact HB.size) _⟩
    · rw [show ((2 : Nat) : Int) = (2 : Int) from rfl]
      have ct : wr.cell? ⟨n, 4, none⟩ = some (.string sub) := (blk_cell BG 4).trans (by rw [hcs.out]; rfl)
      have k0 : wr.cell? ⟨V, 8, none⟩ = some (.int .i64 208) := (blk_cell BV 8).trans rfl
      have k1 : wr.cell? ⟨V, 9, none⟩ = some (.int .i64 48) := (blk_cell BV 9).trans rfl
      have k2 : wr.cell? ⟨V, 10, none⟩ = some (.int .i64 47) := (blk_cell BV 10).trans rfl
      have k3 : wr.cell? ⟨V, 11, none⟩ = some (.pointer (some ⟨n, 4, none⟩)) := (blk_cell BV 11).trans rfl
      have hnV : n < wr.heap.size := blk_lt BG
      by_cases hz : (47 : Int) < (sub.size : Int)
      · have z0 : decide ((sub.size : Int) > 47) = true := by simpa using hz
        have z1 : decide ((47 : Int) < (sub.size : Int)) = true := by simpa using hz
        have hE9 : Aside0 (E = 85) := ⟨by rw [hEA.out, if_pos (Or.inr (Or.inr (by unfold badT; rw [decide_eq_true hz]; rfl)))]⟩
        go_wp2
        go_ret
        exact ⟨by rw [hE9.out]; rfl, by rw [HN.out]; exact HB.alloc (by rw [← HN.out]; exact HB.size) _⟩
      · have z0 : decide ((sub.size : Int) > 47) = false := by simpa using hz
        have z1 : decide ((47 : Int) < (sub.size : Int)) = false := by simpa using hz
        cases hz0 : has0 sub
        · have ctr : Aside0 (∀ W, Calls Tryd.prog 39 #[.string sub, .string ⟨#[0]⟩] W fun e w' => e = .returned (.bool false) ∧ W = w') := ⟨fun W => by have h := contains0 sub W; rwa [hz0] at h⟩
          go_wp2_with (first | (go_at_call 39; refine (ctr.out _).mono ?_; rintro e W5 ⟨rfl, rfl⟩) | fail)
          exact ⟨⟨3, by omega, rfl, ⟨fun j hj => by
            rcases Nat.lt_or_ge j 2 with h | h
            · exact hok.out j h
            · obtain rfl : j = 2 := by omega
              simp only [txt, mst]
              unfold badT
              rw [z1, hz0]
              rfl⟩, blk_alloc BG _, by unfold fieldCells; exact blk_alloc BV _, HB.alloc (by rw [← HN.out]; exact HB.size) _⟩, by decide⟩
        · have ctr : Aside0 (∀ W, Calls Tryd.prog 39 #[.string sub, .string ⟨#[0]⟩] W fun e w' => e = .returned (.bool true) ∧ W = w') := ⟨fun W => by have h := contains0 sub W; rwa [hz0] at h⟩
          have hE9 : Aside0 (E = 85) := ⟨by rw [hEA.out, if_pos (Or.inr (Or.inr (by unfold badT; rw [hz0]; simp)))]⟩
          go_wp2_with (first | (go_at_call 39; refine (ctr.out _).mono ?_; rintro e W5 ⟨rfl, rfl⟩) | fail)
          go_ret
          exact ⟨by rw [hE9.out]; rfl, by rw [HN.out]; exact HB.alloc (by rw [← HN.out]; exact HB.size) _⟩
    · rw [show ((3 : Nat) : Int) = (3 : Int) from rfl]
      have c1 : wr.cell? ⟨n, 1, none⟩ = some (.int .i64 head) := (blk_cell BG 1).trans (by rw [hcs.out]; rfl)
      have c7 : wr.cell? ⟨n, 7, none⟩ = some (.string text) := (blk_cell BG 7).trans (by rw [hcs.out]; rfl)
      have EA : Aside0 (E = if badT text (head - 4097) = true then 86 else 0) := ⟨by
        have b0 := hok.out 0 (by omega)
        have b1 := hok.out 1 (by omega)
        have b2 := hok.out 2 (by omega)
        simp only [txt, mst] at b0 b1 b2
        rw [hEA.out, if_neg (by rw [b0, b1, b2]; decide)]⟩
      by_cases hz : head - 4097 < (text.size : Int)
      · have z0 : decide ((text.size : Int) > head - 4097) = true := by simpa using hz
        have hE9 : Aside0 (E = 86) := ⟨by rw [EA.out, if_pos (by unfold badT; rw [decide_eq_true hz]; rfl)]⟩
        have z1 : decide (head - 4097 < (text.size : Int)) = true := by simpa using hz
        go_wp2
        go_ret
        exact ⟨by rw [hE9.out]; rfl, by rw [HN.out]; exact HB⟩
      · have z0 : decide ((text.size : Int) > head - 4097) = false := by simpa using hz
        have z1 : decide (head - 4097 < (text.size : Int)) = false := by simpa using hz
        cases hz0 : has0 text
        · have hE9 : Aside0 (E = 0) := ⟨by rw [EA.out, if_neg (by unfold badT; rw [z1, hz0]; decide)]⟩
          have ctr : Aside0 (∀ W, Calls Tryd.prog 39 #[.string text, .string ⟨#[0]⟩] W fun e w' => e = .returned (.bool false) ∧ W = w') := ⟨fun W => by have h := contains0 text W; rwa [hz0] at h⟩
          go_wp2_with (first | (go_at_call 39; refine (ctr.out _).mono ?_; rintro e W5 ⟨rfl, rfl⟩) | fail)
          go_ret
          exact ⟨by rw [hE9.out]; rfl, by rw [HN.out]; exact HB⟩
        · have hE9 : Aside0 (E = 86) := ⟨by rw [EA.out, if_pos (by unfold badT; rw [hz0]; simp)]⟩
          have ctr : Aside0 (∀ W, Calls Tryd.prog 39 #[.string text, .string ⟨#[0]⟩] W fun e w' => e = .returned (.bool true) ∧ W = w') := ⟨fun W => by have h := contains0 text W; rwa [hz0] at h⟩
          go_wp2_with (first | (go_at_call 39; refine (ctr.out _).mono ?_; rintro e W5 ⟨rfl, rfl⟩) | fail)
          go_ret
          exact ⟨by rw [hE9.out]; rfl, by rw [HN.out]; exact HB⟩
end Go.Proofs.YtglcapkmeecknaaDoor.m22
