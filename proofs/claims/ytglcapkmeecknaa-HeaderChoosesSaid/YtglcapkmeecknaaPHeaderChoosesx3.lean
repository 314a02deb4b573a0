-- PRINTED BY print.sh 35421559b90ae4d0a3588c463048766b98c2df88dd9212a6774a882060cdf62d: not written by this session
import Derived.Test.YtglcapkmeecknaaPHeaderChoosesx0
import Derived.Test.YtglcapkmeecknaaPHeaderChoosesx1
import Derived.Test.YtglcapkmeecknaaPHeaderChoosesx2
namespace Go.Proofs.Ytglcapkmeecknaa.PHeaderChooses
open Go.RowKit Go.Proofs.YtglcapkmeecknaaW.PrintWords Go.Proofs.YtglcapkmeecknaaW.PrintLast Go.Proofs.YtglcapkmeecknaaW.PrintMore
attribute [local go_sem] max2_int min2_int max_two min_two max_three min_three max_four min_four   -- for this text's walks alone
set_option linter.unusedVariables false
set_option linter.unusedSimpArgs false

/-! ### cofferlaw08_HeaderChooses: function 4 -/
def cofferlaw08_HeaderChooses.f (k : Nat) (a0_0 : Int) (a0_1 : Bool) (a0_2 : Int) (a0_3 : Int) (a0_4 : ByteArray) (a0_5 : ByteArray) (a0_6 : ByteArray) (a0_7 : ByteArray) (a0_8 : ByteArray) (a1_0 : Int) (a1_1 : Bool) (a1_2 : Int) (a1_3 : Int) (a1_4 : ByteArray) (a1_5 : ByteArray) (a1_6 : ByteArray) (a1_7 : ByteArray) (a1_8 : ByteArray) (a2 : Bool) (a3 : Bool) : Option (Bool) := (header_Choose.f k a0_0 a0_1 a0_2 a0_3 a0_4 a0_5 a0_6 a0_7 a0_8 a1_0 a1_1 a1_2 a1_3 a1_4 a1_5 a1_6 a1_7 a1_8 a2 a3).bind fun bt106 => ((cofferlaw08_num.f a0_0).bind fun t108 => ((cofferlaw08_num.f a1_0).bind fun t110 => ((cofferref08_Choose.f k t108 a0_1 a0_2 a0_3 a0_4 a0_5 a0_6 a0_7 a0_8 t110 a1_1 a1_2 a1_3 a1_4 a1_5 a1_6 a1_7 a1_8 a2 a3).bind fun bt112 => (if bt106.1 = bt112.1 then ((cofferlaw08_num.f bt106.2).bind fun t114 => (some (t114 == bt112.2))) else (some false)))))
theorem cofferlaw08_HeaderChooses.mono : ∀ a0 a1 a2 a3 a4 a5 a6 a7 a8 a9 a10 a11 a12 a13 a14 a15 a16 a17 a18 a19 k, LeO (cofferlaw08_HeaderChooses.f k a0 a1 a2 a3 a4 a5 a6 a7 a8 a9 a10 a11 a12 a13 a14 a15 a16 a17 a18 a19) (cofferlaw08_HeaderChooses.f (k + 1) a0 a1 a2 a3 a4 a5 a6 a7 a8 a9 a10 a11 a12 a13 a14 a15 a16 a17 a18 a19) := by
  intro a0 a1 a2 a3 a4 a5 a6 a7 a8 a9 a10 a11 a12 a13 a14 a15 a16 a17 a18 a19 k
  unfold cofferlaw08_HeaderChooses.f
  repeat' first
      | (with_reducible exact cofferref08_Choose.mono _ _ _ _ _ _ _ _ _ _ _ _ _ _ _ _ _ _ _ _ _)
      | (with_reducible exact header_Choose.mono _ _ _ _ _ _ _ _ _ _ _ _ _ _ _ _ _ _ _ _ _)
      | (with_reducible exact LeO.refl _)
      | (with_reducible exact LeO.none _)
      | (with_reducible refine LeO.ite ?_ ?_)
      | (with_reducible refine LeO.bind ?_ (fun _ => ?_))
      | exact cofferref08_Choose.mono _ _ _ _ _ _ _ _ _ _ _ _ _ _ _ _ _ _ _ _ _
      | exact header_Choose.mono _ _ _ _ _ _ _ _ _ _ _ _ _ _ _ _ _ _ _ _ _
      | exact LeO.none _
      | refine LeO.ite ?_ ?_
      | refine LeO.bind ?_ (fun _ => ?_)
def cofferlaw08_HeaderChooses.T2 : Bool × List (List Nat × List Nat) := (true, [([], []), ([0], [0]), ([1], [1]), ([], []), ([3], [3]), ([2, 4], [2, 4]), ([], []), ([6, 5, 2, 0, 1, 2, 3, 4, 5, 6], [5, 6])])
def cofferlaw08_HeaderChooses.B2 : List Nat := [0, 1, 3, 0, 8, 31, 0, 127]
theorem cofferlaw08_HeaderChooses.tab2 : rtab .any (opsOf Try.f4 2) = cofferlaw08_HeaderChooses.T2 := by kernel_rfl
theorem cofferlaw08_HeaderChooses.bits2 : waitsOk cofferlaw08_HeaderChooses.T2.2 cofferlaw08_HeaderChooses.B2 = true := by kernel_rfl
def cofferlaw08_HeaderChooses.T3 : Bool × List (List Nat × List Nat) := (true, [([], []), ([0], [0]), ([1], [1]), ([], []), ([3], [3]), ([2, 4], [2, 4]), ([], []), ([6, 5, 2, 0, 1, 2, 3, 4, 5, 6], [5, 6])])
def cofferlaw08_HeaderChooses.B3 : List Nat := [0, 1, 3, 0, 8, 31, 0, 127]
theorem cofferlaw08_HeaderChooses.tab3 : rtab .any (opsOf Try.f4 3) = cofferlaw08_HeaderChooses.T3 := by kernel_rfl
theorem cofferlaw08_HeaderChooses.bits3 : waitsOk cofferlaw08_HeaderChooses.T3.2 cofferlaw08_HeaderChooses.B3 = true := by kernel_rfl
set_option maxHeartbeats 8000000 in
set_option maxRecDepth 100000 in
theorem cofferlaw08_HeaderChooses.calls (k : Nat) (a0_0 : Int) (a0_1 : Bool) (a0_2 : Int) (a0_3 : Int) (a0_4 : ByteArray) (a0_5 : ByteArray) (a0_6 : ByteArray) (a0_7 : ByteArray) (a0_8 : ByteArray) (a1_0 : Int) (a1_1 : Bool) (a1_2 : Int) (a1_3 : Int) (a1_4 : ByteArray) (a1_5 : ByteArray) (a1_6 : ByteArray) (a1_7 : ByteArray) (a1_8 : ByteArray) (a2 : Bool) (a3 : Bool) (r : Bool) (w : World) (h : cofferlaw08_HeaderChooses.f k a0_0 a0_1 a0_2 a0_3 a0_4 a0_5 a0_6 a0_7 a0_8 a1_0 a1_1 a1_2 a1_3 a1_4 a1_5 a1_6 a1_7 a1_8 a2 a3 = some r) :
    Calls Try.prog 4 #[.agg #[.int .i64 a0_0, .bool a0_1, .int .i64 a0_2, .int .u64 a0_3, .string a0_4, .string a0_5, .string a0_6, .string a0_7, .string a0_8], .agg #[.int .i64 a1_0, .bool a1_1, .int .i64 a1_2, .int .u64 a1_3, .string a1_4, .string a1_5, .string a1_6, .string a1_7, .string a1_8], .bool a2, .bool a3] w fun e w' => e = .returned (.bool r) ∧ Below w.heap.size w w' := by
  have hu28 := Try.underlying28
  have hu32 := Try.underlying32
  have hu26 := Try.underlying26
  have hu35 := Try.underlying35
  have HB := Aside0.mk (Below.refl w.heap.size w)
  have H : ((header_Choose.f k a0_0 a0_1 a0_2 a0_3 a0_4 a0_5 a0_6 a0_7 a0_8 a1_0 a1_1 a1_2 a1_3 a1_4 a1_5 a1_6 a1_7 a1_8 a2 a3).bind fun bt106 => ((cofferlaw08_num.f a0_0).bind fun t108 => ((cofferlaw08_num.f a1_0).bind fun t110 => ((cofferref08_Choose.f k t108 a0_1 a0_2 a0_3 a0_4 a0_5 a0_6 a0_7 a0_8 t110 a1_1 a1_2 a1_3 a1_4 a1_5 a1_6 a1_7 a1_8 a2 a3).bind fun bt112 => (if bt106.1 = bt112.1 then ((cofferlaw08_num.f bt106.2).bind fun t114 => (some (t114 == bt112.2))) else (some false)))))) = some r := h
  clear h
  replace H := Option.bind_eq_some_iff.mp H
  obtain ⟨⟨t106, t107⟩, A50, H⟩ := H
  replace H : ((cofferlaw08_num.f a0_0).bind fun t108 => ((cofferlaw08_num.f a1_0).bind fun t110 => ((cofferref08_Choose.f k t108 a0_1 a0_2 a0_3 a0_4 a0_5 a0_6 a0_7 a0_8 t110 a1_1 a1_2 a1_3 a1_4 a1_5 a1_6 a1_7 a1_8 a2 a3).bind fun bt112 => (if t106 = bt112.1 then ((cofferlaw08_num.f t107).bind fun t114 => (some (t114 == bt112.2))) else (some false))))) = some r := H
  have A5 := Aside0.mk A50
  clear A50
  replace H := Option.bind_eq_some_iff.mp H
  obtain ⟨t108, A60, H⟩ := H
  replace H : ((cofferlaw08_num.f a1_0).bind fun t110 => ((cofferref08_Choose.f k t108 a0_1 a0_2 a0_3 a0_4 a0_5 a0_6 a0_7 a0_8 t110 a1_1 a1_2 a1_3 a1_4 a1_5 a1_6 a1_7 a1_8 a2 a3).bind fun bt112 => (if t106 = bt112.1 then ((cofferlaw08_num.f t107).bind fun t114 => (some (t114 == bt112.2))) else (some false)))) = some r := H
  have A6 := Aside0.mk A60
  clear A60
  replace H := Option.bind_eq_some_iff.mp H
  obtain ⟨t110, A70, H⟩ := H
  replace H : ((cofferref08_Choose.f k t108 a0_1 a0_2 a0_3 a0_4 a0_5 a0_6 a0_7 a0_8 t110 a1_1 a1_2 a1_3 a1_4 a1_5 a1_6 a1_7 a1_8 a2 a3).bind fun bt112 => (if t106 = bt112.1 then ((cofferlaw08_num.f t107).bind fun t114 => (some (t114 == bt112.2))) else (some false))) = some r := H
  have A7 := Aside0.mk A70
  clear A70
  replace H := Option.bind_eq_some_iff.mp H
  obtain ⟨⟨t112, t113⟩, A80, H⟩ := H
  replace H : (if t106 = t112 then ((cofferlaw08_num.f t107).bind fun t114 => (some (t114 == t113))) else (some false)) = some r := H
  have A8 := Aside0.mk A80
  clear A80
  by_cases c9 : t106 = t112
  · rw [if_pos c9] at H
    have c9b0 : (t106 == t112) = true := beq_iff_eq.mpr c9
    have c9b1 : (t106 != t112) = false := bne_eq_false_iff_eq.mpr c9
    clear c9
    replace H := Option.bind_eq_some_iff.mp H
    obtain ⟨t114, A100, H⟩ := H
    replace H : (some (t114 == t113)) = some r := H
    have A10 := Aside0.mk A100
    clear A100
    obtain rfl := Option.some.inj H
    go_enter Try.func4, Try.ntmps4
    try go_wp2_with (first | ((with_reducible refine gate_dst (N := 4) rfl ?_); refine box_event ?hg (N := 4) ?hd (cs := #[.int .i64 a0_0, .bool a0_1, .int .i64 a0_2, .int .u64 a0_3, .string a0_4, .string a0_5, .string a0_6, .string a0_7, .string a0_8]) (t := 28) ?hr ?_; (case hd => rfl); (case hg => rfl); (case hr => first | (go_simp; done) | (go_simp; rfl)); intro gb104 hg w11 hbox hb; have n0_ := Aside0.mk (below_step (by repeat (first | (with_reducible first | exact HB.out | apply below_alloc | apply pw_below_drewN | apply below_drew1) | exact HB.out)) hb); have n1_ := Aside0.mk (hbox); have n2_ := Aside0.mk ((by rw [hg]; exact (below_size (by repeat (first | (with_reducible first | exact HB.out | apply below_alloc | apply pw_below_drewN | apply below_drew1) | exact HB.out))) : w.heap.size ≤ gb104)); have n3_ := Aside0.mk ((by rw [hg]; exact (below_size (by repeat (first | (with_reducible first | exact HB.out | apply below_alloc | apply pw_below_drewN | apply below_drew1) | exact HB.out))) : w.heap.size ≤ gb104)); clear HB; have HB := n0_; have BK104 := n1_; have GW104 := n2_; have GE104 := n3_; clear n0_ n1_ n2_ n3_; clear hb hbox hg) | ((with_reducible refine gate_dst (N := 5) rfl ?_); refine box_event ?hg (N := 5) ?hd (cs := #[.int .i64 a1_0, .bool a1_1, .int .i64 a1_2, .int .u64 a1_3, .string a1_4, .string a1_5, .string a1_6, .string a1_7, .string a1_8]) (t := 28) ?hr ?_; (case hd => rfl); (case hg => rfl); (case hr => first | (go_simp; done) | (go_simp; rfl)); intro gb105 hg w12 hbox hb; have n0_ := Aside0.mk (blk_below (g := gb104) (o := .cells #[.int .i64 a0_0, .bool a0_1, .int .i64 a0_2, .int .u64 a0_3, .string a0_4, .string a0_5, .string a0_6, .string a0_7, .string a0_8] 28 (0, 0)) (by (with_reducible repeat (first | refine blk_drewN ?_ _ | refine blk_drew ?_ | refine blk_alloc ?_ _)); exact BK104.out) hb); have n1_ := Aside0.mk (below_step (by repeat (first | (with_reducible first | exact HB.out | apply below_alloc | apply pw_below_drewN | apply below_drew1 | refine below_set ?_ GE104.out) | exact HB.out)) hb); have n2_ := Aside0.mk (hbox); have n3_ := Aside0.mk ((by rw [hg]; exact (below_size (by repeat (first | (with_reducible first | exact HB.out | apply below_alloc | apply pw_below_drewN | apply below_drew1 | refine below_set ?_ GE104.out) | exact HB.out))) : w.heap.size ≤ gb105)); have n4_ := Aside0.mk ((by rw [hg]; exact (below_size (by repeat (first | (with_reducible first | exact HB.out | apply below_alloc | apply pw_below_drewN | apply below_drew1 | refine below_set ?_ GE104.out) | exact HB.out))) : w.heap.size ≤ gb105)); have n5_ := Aside0.mk ((by rw [hg]; exact Nat.ne_of_lt (blk_lt (g := gb104) (o := .cells #[.int .i64 a0_0, .bool a0_1, .int .i64 a0_2, .int .u64 a0_3, .string a0_4, .string a0_5, .string a0_6, .string a0_7, .string a0_8] 28 (0, 0)) (by (with_reducible repeat (first | refine blk_drewN ?_ _ | refine blk_drew ?_ | refine blk_alloc ?_ _)); exact BK104.out)) : gb104 ≠ gb105)); have n6_ := Aside0.mk ((by rw [hg]; exact Nat.ne_of_gt (blk_lt (g := gb104) (o := .cells #[.int .i64 a0_0, .bool a0_1, .int .i64 a0_2, .int .u64 a0_3, .string a0_4, .string a0_5, .string a0_6, .string a0_7, .string a0_8] 28 (0, 0)) (by (with_reducible repeat (first | refine blk_drewN ?_ _ | refine blk_drew ?_ | refine blk_alloc ?_ _)); exact BK104.out)) : gb105 ≠ gb104)); clear BK104; clear HB; have BK104 := n0_; have HB := n1_; have BK105 := n2_; have GW105 := n3_; have GE105 := n4_; have NB104_105 := n5_; have NB105_104 := n6_; clear n0_ n1_ n2_ n3_ n4_ n5_ n6_; clear hb hbox hg; have hnb13 := NB104_105.out; have hnc13 := NB105_104.out; have hcz14_0 : w12.cell? ⟨gb104, 0, none⟩ = some (.int .i64 a0_0) := (blk_cell BK104.out 0).trans rfl; have hcz14_1 : w12.cell? ⟨gb104, 1, none⟩ = some (.bool a0_1) := (blk_cell BK104.out 1).trans rfl; have hcz14_2 : w12.cell? ⟨gb104, 2, none⟩ = some (.int .i64 a0_2) := (blk_cell BK104.out 2).trans rfl; have hcz14_3 : w12.cell? ⟨gb104, 3, none⟩ = some (.int .u64 a0_3) := (blk_cell BK104.out 3).trans rfl; have hcz14_4 : w12.cell? ⟨gb104, 4, none⟩ = some (.string a0_4) := (blk_cell BK104.out 4).trans rfl; have hcz14_5 : w12.cell? ⟨gb104, 5, none⟩ = some (.string a0_5) := (blk_cell BK104.out 5).trans rfl; have hcz14_6 : w12.cell? ⟨gb104, 6, none⟩ = some (.string a0_6) := (blk_cell BK104.out 6).trans rfl; have hcz14_7 : w12.cell? ⟨gb104, 7, none⟩ = some (.string a0_7) := (blk_cell BK104.out 7).trans rfl; have hcz14_8 : w12.cell? ⟨gb104, 8, none⟩ = some (.string a0_8) := (blk_cell BK104.out 8).trans rfl; have hfz14_0 := blk_frozen BK104.out 0; have hfz14_1 := blk_frozen BK104.out 1; have hfz14_2 := blk_frozen BK104.out 2; have hfz14_3 := blk_frozen BK104.out 3; have hfz14_4 := blk_frozen BK104.out 4; have hfz14_5 := blk_frozen BK104.out 5; have hfz14_6 := blk_frozen BK104.out 6; have hfz14_7 := blk_frozen BK104.out 7; have hfz14_8 := blk_frozen BK104.out 8; have hcz15_0 : w12.cell? ⟨gb105, 0, none⟩ = some (.int .i64 a1_0) := (blk_cell BK105.out 0).trans rfl; have hcz15_1 : w12.cell? ⟨gb105, 1, none⟩ = some (.bool a1_1) := (blk_cell BK105.out 1).trans rfl; have hcz15_2 : w12.cell? ⟨gb105, 2, none⟩ = some (.int .i64 a1_2) := (blk_cell BK105.out 2).trans rfl; have hcz15_3 : w12.cell? ⟨gb105, 3, none⟩ = some (.int .u64 a1_3) := (blk_cell BK105.out 3).trans rfl; have hcz15_4 : w12.cell? ⟨gb105, 4, none⟩ = some (.string a1_4) := (blk_cell BK105.out 4).trans rfl; have hcz15_5 : w12.cell? ⟨gb105, 5, none⟩ = some (.string a1_5) := (blk_cell BK105.out 5).trans rfl; have hcz15_6 : w12.cell? ⟨gb105, 6, none⟩ = some (.string a1_6) := (blk_cell BK105.out 6).trans rfl; have hcz15_7 : w12.cell? ⟨gb105, 7, none⟩ = some (.string a1_7) := (blk_cell BK105.out 7).trans rfl; have hcz15_8 : w12.cell? ⟨gb105, 8, none⟩ = some (.string a1_8) := (blk_cell BK105.out 8).trans rfl; have hfz15_0 := blk_frozen BK105.out 0; have hfz15_1 := blk_frozen BK105.out 1; have hfz15_2 := blk_frozen BK105.out 2; have hfz15_3 := blk_frozen BK105.out 3; have hfz15_4 := blk_frozen BK105.out 4; have hfz15_5 := blk_frozen BK105.out 5; have hfz15_6 := blk_frozen BK105.out 6; have hfz15_7 := blk_frozen BK105.out 7; have hfz15_8 := blk_frozen BK105.out 8) | ((with_reducible refine gate_callee (f := 5) rfl ?_); refine goesL_ (some 21) rfl rfl Try.func5 (by kernel_rfl) rfl #[.agg #[.int .i64 a0_0, .bool a0_1, .int .i64 a0_2, .int .u64 a0_3, .string a0_4, .string a0_5, .string a0_6, .string a0_7, .string a0_8, .int .i64 a1_0, .bool a1_1, .int .i64 a1_2, .int .u64 a1_3, .string a1_4, .string a1_5, .string a1_6, .string a1_7, .string a1_8], .bool a2, .bool a3] rfl (by (try simp only [List.map_toArray, List.map_cons, List.map_nil]); first | done | rfl | (simp only [List.length_drop, List.length_take]; rfl)) ?_; (with_reducible refine (header_Choose.calls k a0_0 a0_1 a0_2 a0_3 a0_4 a0_5 a0_6 a0_7 a0_8 a1_0 a1_1 a1_2 a1_3 a1_4 a1_5 a1_6 a1_7 a1_8 a2 a3 t106 t107 _ A5.out).mono ?_); rintro e w16 ⟨rfl, hb⟩; refine ⟨_, rfl, ?_⟩; have n0_ := Aside0.mk (blk_below (g := gb104) (o := .cells #[.int .i64 a0_0, .bool a0_1, .int .i64 a0_2, .int .u64 a0_3, .string a0_4, .string a0_5, .string a0_6, .string a0_7, .string a0_8] 28 (0, 0)) (by (with_reducible repeat (first | refine blk_drewN ?_ _ | refine blk_drew ?_ | refine blk_alloc ?_ _)); exact BK104.out) hb); have n1_ := Aside0.mk (blk_below (g := gb105) (o := .cells #[.int .i64 a1_0, .bool a1_1, .int .i64 a1_2, .int .u64 a1_3, .string a1_4, .string a1_5, .string a1_6, .string a1_7, .string a1_8] 28 (0, 0)) (by (with_reducible repeat (first | refine blk_drewN ?_ _ | refine blk_drew ?_ | refine blk_alloc ?_ _)); exact BK105.out) hb); have n2_ := Aside0.mk (below_step (by repeat (first | (with_reducible first | exact HB.out | apply below_alloc | apply pw_below_drewN | apply below_drew1 | refine below_set ?_ GE104.out | refine below_set ?_ GE105.out) | exact HB.out)) hb); clear BK104; clear BK105; clear HB; have BK104 := n0_; have BK105 := n1_; have HB := n2_; clear n0_ n1_ n2_; (try clear hb); (try clear hb2); (try clear hk); (try clear hi)))
    have n0_ := Aside0.mk (blk_drew BK104.out)
    have n1_ := Aside0.mk (blk_drew BK105.out)
    have n2_ := Aside0.mk (below_drew1 HB.out)
    clear BK104
    clear BK105
    clear HB
    have BK104 := n0_
    have BK105 := n1_
    have HB := n2_
    clear n0_ n1_ n2_
    refine start_ (n := 8) (S := fun w' => w'.cell? ⟨gb104, 0, none⟩ = some (.int .i64 a0_0) ∧ w'.cell? ⟨gb104, 1, none⟩ = some (.bool a0_1) ∧ w'.cell? ⟨gb104, 2, none⟩ = some (.int .i64 a0_2) ∧ w'.cell? ⟨gb104, 3, none⟩ = some (.int .u64 a0_3) ∧ w'.cell? ⟨gb104, 4, none⟩ = some (.string a0_4) ∧ w'.cell? ⟨gb104, 5, none⟩ = some (.string a0_5) ∧ w'.cell? ⟨gb104, 6, none⟩ = some (.string a0_6) ∧ w'.cell? ⟨gb104, 7, none⟩ = some (.string a0_7) ∧ w'.cell? ⟨gb104, 8, none⟩ = some (.string a0_8)) (ds := []) #[false, false, false, false, false, false, false, false] (by kernel_rfl) rfl rfl ⟨(blk_cell BK104.out 0).trans rfl, (blk_cell BK104.out 1).trans rfl, (blk_cell BK104.out 2).trans rfl, (blk_cell BK104.out 3).trans rfl, (blk_cell BK104.out 4).trans rfl, (blk_cell BK104.out 5).trans rfl, (blk_cell BK104.out 6).trans rfl, (blk_cell BK104.out 7).trans rfl, (blk_cell BK104.out 8).trans rfl⟩ (fun hHeld => ?_); refine with_tabW cofferlaw08_HeaderChooses.tab2 cofferlaw08_HeaderChooses.bits2 (fun HT_ HW_ => ?_)
    generalize w16.drew = w17 at BK104 BK105 HB hHeld ⊢
    refine pure_ (i := 0) (N := some 24) (v := ?_) (a' := ?_) #[true, false, false, false, false, false, false, false] rfl rfl (any_of HT_.out (by kernel_rfl)) (fun _ _ _ h => h) (Or.inl ⟨by rfl, ?_⟩) ?_ ?_
    rotate_left
    · intro w'
      go_simp
      with_reducible rfl
    rotate_left
    · simp only [Act.put, List.setIfInBounds_toArray, List.set_cons_zero, List.set_cons_succ, i64_w, i32_w]
      rfl
    refine pure_ (i := 3) (N := some 27) (v := ?_) (a' := ?_) #[true, false, false, true, false, false, false, false] rfl rfl (any_of HT_.out (by kernel_rfl)) (fun _ _ _ h => h) (Or.inl ⟨by rfl, ?_⟩) ?_ ?_
    rotate_left
    · intro w'
      go_simp
      with_reducible rfl
    rotate_left
    · simp only [Act.put, List.setIfInBounds_toArray, List.set_cons_zero, List.set_cons_succ, i64_w, i32_w]
      rfl
    refine take_ (i := 1) (N := some 25) (v := ?_) (a' := ?_) #[true, true, false, true, false, false, false, false] rfl rfl (take_ofW HT_.out HW_.out (by kernel_rfl)) (fun _ _ _ h => h) (Or.inl ⟨by rfl, ?_⟩) hHeld ?_ ?_
    rotate_left
    · rintro w' ⟨s0, s1, s2, s3, s4, s5, s6, s7, s8⟩
      go_simp
      with_reducible rfl
    rotate_left
    · simp only [Act.put, List.setIfInBounds_toArray, List.set_cons_zero, List.set_cons_succ, i64_w, i32_w]
      rfl
    refine take_ (i := 4) (N := some 28) (v := ?_) (a' := ?_) #[true, true, false, true, true, false, false, false] rfl rfl (take_ofW HT_.out HW_.out (by kernel_rfl)) (fun _ _ _ h => h) (Or.inl ⟨by rfl, ?_⟩) hHeld ?_ ?_
    rotate_left
    · rintro w' ⟨s0, s1, s2, s3, s4, s5, s6, s7, s8⟩
      go_simp
      with_reducible rfl
    rotate_left
    · simp only [Act.put, List.setIfInBounds_toArray, List.set_cons_zero, List.set_cons_succ, i64_w, i32_w]
      rfl
    refine join_ (σ := Nat) 1 #[true, true, true, true, true, true, true, false] (fun s_ => [(26, .int .i64 t108), (11, .pointer (some ⟨s_, 0, none⟩)), (29, .agg #[.int .i64 t108, .bool a0_1, .int .i64 a0_2, .int .u64 a0_3, .string a0_4, .string a0_5, .string a0_6, .string a0_7, .string a0_8])]) (fun s_ w' => (w'.cell? ⟨gb104, 0, none⟩ = some (.int .i64 a0_0) ∧ w'.cell? ⟨gb104, 1, none⟩ = some (.bool a0_1) ∧ w'.cell? ⟨gb104, 2, none⟩ = some (.int .i64 a0_2) ∧ w'.cell? ⟨gb104, 3, none⟩ = some (.int .u64 a0_3) ∧ w'.cell? ⟨gb104, 4, none⟩ = some (.string a0_4) ∧ w'.cell? ⟨gb104, 5, none⟩ = some (.string a0_5) ∧ w'.cell? ⟨gb104, 6, none⟩ = some (.string a0_6) ∧ w'.cell? ⟨gb104, 7, none⟩ = some (.string a0_7) ∧ w'.cell? ⟨gb104, 8, none⟩ = some (.string a0_8)) ∧ (w'.heap[gb104]? = some (.cells #[.int .i64 a0_0, .bool a0_1, .int .i64 a0_2, .int .u64 a0_3, .string a0_4, .string a0_5, .string a0_6, .string a0_7, .string a0_8] 28 (0, 0))) ∧ (w'.heap[gb105]? = some (.cells #[.int .i64 a1_0, .bool a1_1, .int .i64 a1_2, .int .u64 a1_3, .string a1_4, .string a1_5, .string a1_6, .string a1_7, .string a1_8] 28 (0, 0))) ∧ (w'.heap[s_]? = some (.cells #[.int .i64 0, .bool false, .int .i64 0, .int .u64 0, .string (⟨#[]⟩ : ByteArray), .string (⟨#[]⟩ : ByteArray), .string (⟨#[]⟩ : ByteArray), .string (⟨#[]⟩ : ByteArray), .string (⟨#[]⟩ : ByteArray)] 35 (0, 0))) ∧ (w.heap.size ≤ s_) ∧ (w.heap.size ≤ s_) ∧ (gb104 ≠ s_) ∧ (s_ ≠ gb104) ∧ (gb105 ≠ s_) ∧ (s_ ≠ gb105) ∧ (Below w.heap.size w w')) ?_ ?_
    rotate_left
    · intro hCont
      refine two_ (i := 2) (j := 6) (Ni := some 26) (Nj := some 11) #[true, true, true, true, true, false, false, false] #[true, true, false, true, true, false, true, false] rfl rfl rfl rfl (two_of HT_.out (by kernel_rfl)) (by decide) (by decide) (fun K hK => ?_) (fun K hK => ?_)
      · skip
        refine goes_ Try.func6 (by kernel_rfl) rfl #[.int .i64 a0_0] (by rfl) rfl rfl (by (try simp only [List.map_toArray, List.map_cons, List.map_nil]); first | done | rfl | (simp only [List.length_drop, List.length_take]; rfl)) ?_
        with_reducible refine (cofferlaw08_num.calls a0_0 t108 _ A6.out).mono ?_
        rintro e w' ⟨rfl, ⟨nd, rfl⟩⟩
        refine ⟨_, rfl, ?_⟩
        refine hK.out _ _ ⟨(blk_cell BK104.out 0).trans rfl, (blk_cell BK104.out 1).trans rfl, (blk_cell BK104.out 2).trans rfl, (blk_cell BK104.out 3).trans rfl, (blk_cell BK104.out 4).trans rfl, (blk_cell BK104.out 5).trans rfl, (blk_cell BK104.out 6).trans rfl, (blk_cell BK104.out 7).trans rfl, (blk_cell BK104.out 8).trans rfl⟩ (fun hHeld => ?_)
        clear hK K
        refine norm_ (a' := ?_) ?_ ?_
        rotate_left
        · show Act.put _ (some 26) _ = _
          simp only [Act.put, List.setIfInBounds_toArray, List.set_cons_zero, List.set_cons_succ, i64_w, i32_w]
          rfl
        refine pure_ (i := 5) (N := some 29) (v := ?_) (a' := ?_) #[true, true, true, true, true, true, false, false] rfl rfl (any_of HT_.out (by kernel_rfl)) (fun _ _ _ h => h) (Or.inl ⟨by rfl, ?_⟩) ?_ ?_
        rotate_left
        · intro w'
          go_simp
          with_reducible rfl
        rotate_left
        · simp only [Act.put, List.setIfInBounds_toArray, List.set_cons_zero, List.set_cons_succ, i64_w, i32_w]
          rfl
        refine one_ (i := 6) (N := some 11) #[true, true, true, true, true, true, true, false] rfl rfl (one_of HT_.out (by kernel_rfl)) (by decide) (fun K hK => ?_)
        refine box_step ?hg (N := 11) ?hd (cs := #[.int .i64 0, .bool false, .int .i64 0, .int .u64 0, .string (⟨#[]⟩ : ByteArray), .string (⟨#[]⟩ : ByteArray), .string (⟨#[]⟩ : ByteArray), .string (⟨#[]⟩ : ByteArray), .string (⟨#[]⟩ : ByteArray)]) (t := 35) ?hr ?_; (case hd => rfl); (case hg => rfl); (case hr => first | (go_simp; done) | (go_simp; rfl))
        intro gb109 hg w18 hbox hb
        have n0_ := Aside0.mk (blk_below (g := gb104) (o := .cells #[.int .i64 a0_0, .bool a0_1, .int .i64 a0_2, .int .u64 a0_3, .string a0_4, .string a0_5, .string a0_6, .string a0_7, .string a0_8] 28 (0, 0)) (by (with_reducible repeat (first | refine blk_drewN ?_ _ | refine blk_drew ?_ | refine blk_alloc ?_ _)); exact BK104.out) hb)
        have n1_ := Aside0.mk (blk_below (g := gb105) (o := .cells #[.int .i64 a1_0, .bool a1_1, .int .i64 a1_2, .int .u64 a1_3, .string a1_4, .string a1_5, .string a1_6, .string a1_7, .string a1_8] 28 (0, 0)) (by (with_reducible repeat (first | refine blk_drewN ?_ _ | refine blk_drew ?_ | refine blk_alloc ?_ _)); exact BK105.out) hb)
        have n2_ := Aside0.mk (below_step (by repeat (first | (with_reducible first | exact HB.out | apply below_alloc | apply pw_below_drewN | apply below_drew1 | refine below_set ?_ GE104.out | refine below_set ?_ GE105.out) | exact HB.out)) hb)
        have n3_ := Aside0.mk (hbox)
        have n4_ := Aside0.mk ((by rw [hg]; exact (below_size (by repeat (first | (with_reducible first | exact HB.out | apply below_alloc | apply pw_below_drewN | apply below_drew1 | refine below_set ?_ GE104.out | refine below_set ?_ GE105.out) | exact HB.out))) : w.heap.size ≤ gb109))
        have n5_ := Aside0.mk ((by rw [hg]; exact (below_size (by repeat (first | (with_reducible first | exact HB.out | apply below_alloc | apply pw_below_drewN | apply below_drew1 | refine below_set ?_ GE104.out | refine below_set ?_ GE105.out) | exact HB.out))) : w.heap.size ≤ gb109))
        have n6_ := Aside0.mk ((by rw [hg]; exact Nat.ne_of_lt (blk_lt (g := gb104) (o := .cells #[.int .i64 a0_0, .bool a0_1, .int .i64 a0_2, .int .u64 a0_3, .string a0_4, .string a0_5, .string a0_6, .string a0_7, .string a0_8] 28 (0, 0)) (by (with_reducible repeat (first | refine blk_drewN ?_ _ | refine blk_drew ?_ | refine blk_alloc ?_ _)); exact BK104.out)) : gb104 ≠ gb109))
        have n7_ := Aside0.mk ((by rw [hg]; exact Nat.ne_of_gt (blk_lt (g := gb104) (o := .cells #[.int .i64 a0_0, .bool a0_1, .int .i64 a0_2, .int .u64 a0_3, .string a0_4, .string a0_5, .string a0_6, .string a0_7, .string a0_8] 28 (0, 0)) (by (with_reducible repeat (first | refine blk_drewN ?_ _ | refine blk_drew ?_ | refine blk_alloc ?_ _)); exact BK104.out)) : gb109 ≠ gb104))
        have n8_ := Aside0.mk ((by rw [hg]; exact Nat.ne_of_lt (blk_lt (g := gb105) (o := .cells #[.int .i64 a1_0, .bool a1_1, .int .i64 a1_2, .int .u64 a1_3, .string a1_4, .string a1_5, .string a1_6, .string a1_7, .string a1_8] 28 (0, 0)) (by (with_reducible repeat (first | refine blk_drewN ?_ _ | refine blk_drew ?_ | refine blk_alloc ?_ _)); exact BK105.out)) : gb105 ≠ gb109))
        have n9_ := Aside0.mk ((by rw [hg]; exact Nat.ne_of_gt (blk_lt (g := gb105) (o := .cells #[.int .i64 a1_0, .bool a1_1, .int .i64 a1_2, .int .u64 a1_3, .string a1_4, .string a1_5, .string a1_6, .string a1_7, .string a1_8] 28 (0, 0)) (by (with_reducible repeat (first | refine blk_drewN ?_ _ | refine blk_drew ?_ | refine blk_alloc ?_ _)); exact BK105.out)) : gb109 ≠ gb105))
        clear BK104
        clear BK105
        clear HB
        have BK104 := n0_
        have BK105 := n1_
        have HB := n2_
        have BK109 := n3_
        have GW109 := n4_
        have GE109 := n5_
        have NB104_109 := n6_
        have NB109_104 := n7_
        have NB105_109 := n8_
        have NB109_105 := n9_
        clear n0_ n1_ n2_ n3_ n4_ n5_ n6_ n7_ n8_ n9_
        clear hb hbox hg
        refine hK.out _ _ ⟨(blk_cell BK104.out 0).trans rfl, (blk_cell BK104.out 1).trans rfl, (blk_cell BK104.out 2).trans rfl, (blk_cell BK104.out 3).trans rfl, (blk_cell BK104.out 4).trans rfl, (blk_cell BK104.out 5).trans rfl, (blk_cell BK104.out 6).trans rfl, (blk_cell BK104.out 7).trans rfl, (blk_cell BK104.out 8).trans rfl⟩ (fun hHeld => ?_)
        clear hK K
        refine norm_ (a' := ?_) ?_ ?_
        rotate_left
        · show Act.put _ (some 11) _ = _
          simp only [Act.put, List.setIfInBounds_toArray, List.set_cons_zero, List.set_cons_succ, i64_w, i32_w]
          rfl
        exact norm_ (by simp only [putAll, Act.put, List.setIfInBounds_toArray, List.set_cons_zero, List.set_cons_succ]) (hCont (gb109) _ ⟨hHeld, (by (with_reducible repeat (first | refine blk_drewN ?_ _ | refine blk_drew ?_ | refine blk_alloc ?_ _)); exact BK104.out), (by (with_reducible repeat (first | refine blk_drewN ?_ _ | refine blk_drew ?_ | refine blk_alloc ?_ _)); exact BK105.out), (by (with_reducible repeat (first | refine blk_drewN ?_ _ | refine blk_drew ?_ | refine blk_alloc ?_ _)); exact BK109.out), GW109.out, GE109.out, NB104_109.out, NB109_104.out, NB105_109.out, NB109_105.out, (by repeat (first | (with_reducible first | exact HB.out | apply below_alloc | apply pw_below_drewN | apply below_drew1 | refine below_set ?_ GE104.out | refine below_set ?_ GE105.out | refine below_set ?_ GE109.out) | exact HB.out))⟩)
      · skip
        refine box_step ?hg (N := 11) ?hd (cs := #[.int .i64 0, .bool false, .int .i64 0, .int .u64 0, .string (⟨#[]⟩ : ByteArray), .string (⟨#[]⟩ : ByteArray), .string (⟨#[]⟩ : ByteArray), .string (⟨#[]⟩ : ByteArray), .string (⟨#[]⟩ : ByteArray)]) (t := 35) ?hr ?_; (case hd => rfl); (case hg => rfl); (case hr => first | (go_simp; done) | (go_simp; rfl))
        intro gb109 hg w18 hbox hb
        have n0_ := Aside0.mk (blk_below (g := gb104) (o := .cells #[.int .i64 a0_0, .bool a0_1, .int .i64 a0_2, .int .u64 a0_3, .string a0_4, .string a0_5, .string a0_6, .string a0_7, .string a0_8] 28 (0, 0)) (by (with_reducible repeat (first | refine blk_drewN ?_ _ | refine blk_drew ?_ | refine blk_alloc ?_ _)); exact BK104.out) hb)
        have n1_ := Aside0.mk (blk_below (g := gb105) (o := .cells #[.int .i64 a1_0, .bool a1_1, .int .i64 a1_2, .int .u64 a1_3, .string a1_4, .string a1_5, .string a1_6, .string a1_7, .string a1_8] 28 (0, 0)) (by (with_reducible repeat (first | refine blk_drewN ?_ _ | refine blk_drew ?_ | refine blk_alloc ?_ _)); exact BK105.out) hb)
        have n2_ := Aside0.mk (below_step (by repeat (first | (with_reducible first | exact HB.out | apply below_alloc | apply pw_below_drewN | apply below_drew1 | refine below_set ?_ GE104.out | refine below_set ?_ GE105.out) | exact HB.out)) hb)
        have n3_ := Aside0.mk (hbox)
        have n4_ := Aside0.mk ((by rw [hg]; exact (below_size (by repeat (first | (with_reducible first | exact HB.out | apply below_alloc | apply pw_below_drewN | apply below_drew1 | refine below_set ?_ GE104.out | refine below_set ?_ GE105.out) | exact HB.out))) : w.heap.size ≤ gb109))
        have n5_ := Aside0.mk ((by rw [hg]; exact (below_size (by repeat (first | (with_reducible first | exact HB.out | apply below_alloc | apply pw_below_drewN | apply below_drew1 | refine below_set ?_ GE104.out | refine below_set ?_ GE105.out) | exact HB.out))) : w.heap.size ≤ gb109))
        have n6_ := Aside0.mk ((by rw [hg]; exact Nat.ne_of_lt (blk_lt (g := gb104) (o := .cells #[.int .i64 a0_0, .bool a0_1, .int .i64 a0_2, .int .u64 a0_3, .string a0_4, .string a0_5, .string a0_6, .string a0_7, .string a0_8] 28 (0, 0)) (by (with_reducible repeat (first | refine blk_drewN ?_ _ | refine blk_drew ?_ | refine blk_alloc ?_ _)); exact BK104.out)) : gb104 ≠ gb109))
        have n7_ := Aside0.mk ((by rw [hg]; exact Nat.ne_of_gt (blk_lt (g := gb104) (o := .cells #[.int .i64 a0_0, .bool a0_1, .int .i64 a0_2, .int .u64 a0_3, .string a0_4, .string a0_5, .string a0_6, .string a0_7, .string a0_8] 28 (0, 0)) (by (with_reducible repeat (first | refine blk_drewN ?_ _ | refine blk_drew ?_ | refine blk_alloc ?_ _)); exact BK104.out)) : gb109 ≠ gb104))
        have n8_ := Aside0.mk ((by rw [hg]; exact Nat.ne_of_lt (blk_lt (g := gb105) (o := .cells #[.int .i64 a1_0, .bool a1_1, .int .i64 a1_2, .int .u64 a1_3, .string a1_4, .string a1_5, .string a1_6, .string a1_7, .string a1_8] 28 (0, 0)) (by (with_reducible repeat (first | refine blk_drewN ?_ _ | refine blk_drew ?_ | refine blk_alloc ?_ _)); exact BK105.out)) : gb105 ≠ gb109))
        have n9_ := Aside0.mk ((by rw [hg]; exact Nat.ne_of_gt (blk_lt (g := gb105) (o := .cells #[.int .i64 a1_0, .bool a1_1, .int .i64 a1_2, .int .u64 a1_3, .string a1_4, .string a1_5, .string a1_6, .string a1_7, .string a1_8] 28 (0, 0)) (by (with_reducible repeat (first | refine blk_drewN ?_ _ | refine blk_drew ?_ | refine blk_alloc ?_ _)); exact BK105.out)) : gb109 ≠ gb105))
        clear BK104
        clear BK105
        clear HB
        have BK104 := n0_
        have BK105 := n1_
        have HB := n2_
        have BK109 := n3_
        have GW109 := n4_
        have GE109 := n5_
        have NB104_109 := n6_
        have NB109_104 := n7_
        have NB105_109 := n8_
        have NB109_105 := n9_
        clear n0_ n1_ n2_ n3_ n4_ n5_ n6_ n7_ n8_ n9_
        clear hb hbox hg
        refine hK.out _ _ ⟨(blk_cell BK104.out 0).trans rfl, (blk_cell BK104.out 1).trans rfl, (blk_cell BK104.out 2).trans rfl, (blk_cell BK104.out 3).trans rfl, (blk_cell BK104.out 4).trans rfl, (blk_cell BK104.out 5).trans rfl, (blk_cell BK104.out 6).trans rfl, (blk_cell BK104.out 7).trans rfl, (blk_cell BK104.out 8).trans rfl⟩ (fun hHeld => ?_)
        clear hK K
        refine norm_ (a' := ?_) ?_ ?_
        rotate_left
        · show Act.put _ (some 11) _ = _
          simp only [Act.put, List.setIfInBounds_toArray, List.set_cons_zero, List.set_cons_succ, i64_w, i32_w]
          rfl
        refine one_ (i := 2) (N := some 26) #[true, true, true, true, true, false, true, false] rfl rfl (one_of HT_.out (by kernel_rfl)) (by decide) (fun K hK => ?_)
        refine goes_ Try.func6 (by kernel_rfl) rfl #[.int .i64 a0_0] (by rfl) rfl rfl (by (try simp only [List.map_toArray, List.map_cons, List.map_nil]); first | done | rfl | (simp only [List.length_drop, List.length_take]; rfl)) ?_
        with_reducible refine (cofferlaw08_num.calls a0_0 t108 _ A6.out).mono ?_
        rintro e w' ⟨rfl, ⟨nd, rfl⟩⟩
        refine ⟨_, rfl, ?_⟩
        refine hK.out _ _ ⟨(blk_cell BK104.out 0).trans rfl, (blk_cell BK104.out 1).trans rfl, (blk_cell BK104.out 2).trans rfl, (blk_cell BK104.out 3).trans rfl, (blk_cell BK104.out 4).trans rfl, (blk_cell BK104.out 5).trans rfl, (blk_cell BK104.out 6).trans rfl, (blk_cell BK104.out 7).trans rfl, (blk_cell BK104.out 8).trans rfl⟩ (fun hHeld => ?_)
        clear hK K
        refine norm_ (a' := ?_) ?_ ?_
        rotate_left
        · show Act.put _ (some 26) _ = _
          simp only [Act.put, List.setIfInBounds_toArray, List.set_cons_zero, List.set_cons_succ, i64_w, i32_w]
          rfl
        refine pure_ (i := 5) (N := some 29) (v := ?_) (a' := ?_) #[true, true, true, true, true, true, true, false] rfl rfl (any_of HT_.out (by kernel_rfl)) (fun _ _ _ h => h) (Or.inl ⟨by rfl, ?_⟩) ?_ ?_
        rotate_left
        · intro w'
          go_simp
          with_reducible rfl
        rotate_left
        · simp only [Act.put, List.setIfInBounds_toArray, List.set_cons_zero, List.set_cons_succ, i64_w, i32_w]
          rfl
        exact norm_ (by simp only [putAll, Act.put, List.setIfInBounds_toArray, List.set_cons_zero, List.set_cons_succ]) (hCont (gb109) _ ⟨hHeld, (by (with_reducible repeat (first | refine blk_drewN ?_ _ | refine blk_drew ?_ | refine blk_alloc ?_ _)); exact BK104.out), (by (with_reducible repeat (first | refine blk_drewN ?_ _ | refine blk_drew ?_ | refine blk_alloc ?_ _)); exact BK105.out), (by (with_reducible repeat (first | refine blk_drewN ?_ _ | refine blk_drew ?_ | refine blk_alloc ?_ _)); exact BK109.out), GW109.out, GE109.out, NB104_109.out, NB109_104.out, NB105_109.out, NB109_105.out, (by repeat (first | (with_reducible first | exact HB.out | apply below_alloc | apply pw_below_drewN | apply below_drew1 | refine below_set ?_ GE104.out | refine below_set ?_ GE105.out | refine below_set ?_ GE109.out) | exact HB.out))⟩)
    rintro gb109 w19 ⟨hS_, h0_, h1_, h2_, h3_, h4_, h5_, h6_, h7_, h8_, h9_⟩
    have n0_ : Aside0 (w19.heap[gb104]? = some (.cells #[.int .i64 a0_0, .bool a0_1, .int .i64 a0_2, .int .u64 a0_3, .string a0_4, .string a0_5, .string a0_6, .string a0_7, .string a0_8] 28 (0, 0))) := ⟨h0_⟩
    have n1_ : Aside0 (w19.heap[gb105]? = some (.cells #[.int .i64 a1_0, .bool a1_1, .int .i64 a1_2, .int .u64 a1_3, .string a1_4, .string a1_5, .string a1_6, .string a1_7, .string a1_8] 28 (0, 0))) := ⟨h1_⟩
    have n2_ : Aside0 (w19.heap[gb109]? = some (.cells #[.int .i64 0, .bool false, .int .i64 0, .int .u64 0, .string (⟨#[]⟩ : ByteArray), .string (⟨#[]⟩ : ByteArray), .string (⟨#[]⟩ : ByteArray), .string (⟨#[]⟩ : ByteArray), .string (⟨#[]⟩ : ByteArray)] 35 (0, 0))) := ⟨h2_⟩
    have n3_ : Aside0 (w.heap.size ≤ gb109) := ⟨h3_⟩
    have n4_ : Aside0 (w.heap.size ≤ gb109) := ⟨h4_⟩
    have n5_ : Aside0 (gb104 ≠ gb109) := ⟨h5_⟩
    have n6_ : Aside0 (gb109 ≠ gb104) := ⟨h6_⟩
    have n7_ : Aside0 (gb105 ≠ gb109) := ⟨h7_⟩
    have n8_ : Aside0 (gb109 ≠ gb105) := ⟨h8_⟩
    have n9_ : Aside0 (Below w.heap.size w w19) := ⟨h9_⟩
    clear BK104
    clear BK105
    clear HB
    clear h0_ h1_ h2_ h3_ h4_ h5_ h6_ h7_ h8_ h9_
    have BK104 := n0_
    have BK105 := n1_
    have BK109 := n2_
    have GW109 := n3_
    have GE109 := n4_
    have NB104_109 := n5_
    have NB109_104 := n6_
    have NB105_109 := n7_
    have NB109_105 := n8_
    have HB := n9_
    clear n0_ n1_ n2_ n3_ n4_ n5_ n6_ n7_ n8_ n9_
    have hHeld : w19.cell? ⟨gb104, 0, none⟩ = some (.int .i64 a0_0) ∧ w19.cell? ⟨gb104, 1, none⟩ = some (.bool a0_1) ∧ w19.cell? ⟨gb104, 2, none⟩ = some (.int .i64 a0_2) ∧ w19.cell? ⟨gb104, 3, none⟩ = some (.int .u64 a0_3) ∧ w19.cell? ⟨gb104, 4, none⟩ = some (.string a0_4) ∧ w19.cell? ⟨gb104, 5, none⟩ = some (.string a0_5) ∧ w19.cell? ⟨gb104, 6, none⟩ = some (.string a0_6) ∧ w19.cell? ⟨gb104, 7, none⟩ = some (.string a0_7) ∧ w19.cell? ⟨gb104, 8, none⟩ = some (.string a0_8) := hS_
    refine norm_ (a' := ?_) ?_ ?_
    rotate_left
    · simp only [putAll, Act.put, List.setIfInBounds_toArray, List.set_cons_zero, List.set_cons_succ]
      rfl
    refine one_ (i := 7) (N := none) #[true, true, true, true, true, true, true, true] rfl rfl (one_of HT_.out (by kernel_rfl)) (by decide) (fun K hK => ?_)
    have hs20 : w19.cell? ⟨gb109, 0, none⟩ = some (.int .i64 0) := (blk_cell BK109.out 0).trans rfl
    have hfs20 := blk_frozen BK109.out 0
    have hns20_0 := NB104_109.out
    have hns20_1 := NB105_109.out
    have hms20_0 := NB109_104.out
    have hms20_1 := NB109_105.out
    have hs21 : w19.cell? ⟨gb109, 1, none⟩ = some (.bool false) := (blk_cell BK109.out 1).trans rfl
    have hfs21 := blk_frozen BK109.out 1
    have hns21_0 := NB104_109.out
    have hns21_1 := NB105_109.out
    have hms21_0 := NB109_104.out
    have hms21_1 := NB109_105.out
    have hs22 : w19.cell? ⟨gb109, 2, none⟩ = some (.int .i64 0) := (blk_cell BK109.out 2).trans rfl
    have hfs22 := blk_frozen BK109.out 2
    have hns22_0 := NB104_109.out
    have hns22_1 := NB105_109.out
    have hms22_0 := NB109_104.out
    have hms22_1 := NB109_105.out
    have hs23 : w19.cell? ⟨gb109, 3, none⟩ = some (.int .u64 0) := (blk_cell BK109.out 3).trans rfl
    have hfs23 := blk_frozen BK109.out 3
    have hns23_0 := NB104_109.out
    have hns23_1 := NB105_109.out
    have hms23_0 := NB109_104.out
    have hms23_1 := NB109_105.out
    have hs24 : w19.cell? ⟨gb109, 4, none⟩ = some (.string (⟨#[]⟩ : ByteArray)) := (blk_cell BK109.out 4).trans rfl
    have hfs24 := blk_frozen BK109.out 4
    have hns24_0 := NB104_109.out
    have hns24_1 := NB105_109.out
    have hms24_0 := NB109_104.out
    have hms24_1 := NB109_105.out
    have hs25 : w19.cell? ⟨gb109, 5, none⟩ = some (.string (⟨#[]⟩ : ByteArray)) := (blk_cell BK109.out 5).trans rfl
    have hfs25 := blk_frozen BK109.out 5
    have hns25_0 := NB104_109.out
    have hns25_1 := NB105_109.out
    have hms25_0 := NB109_104.out
    have hms25_1 := NB109_105.out
    have hs26 : w19.cell? ⟨gb109, 6, none⟩ = some (.string (⟨#[]⟩ : ByteArray)) := (blk_cell BK109.out 6).trans rfl
    have hfs26 := blk_frozen BK109.out 6
    have hns26_0 := NB104_109.out
    have hns26_1 := NB105_109.out
    have hms26_0 := NB109_104.out
    have hms26_1 := NB109_105.out
    have hs27 : w19.cell? ⟨gb109, 7, none⟩ = some (.string (⟨#[]⟩ : ByteArray)) := (blk_cell BK109.out 7).trans rfl
    have hfs27 := blk_frozen BK109.out 7
    have hns27_0 := NB104_109.out
    have hns27_1 := NB105_109.out
    have hms27_0 := NB109_104.out
    have hms27_1 := NB109_105.out
    have hs28 : w19.cell? ⟨gb109, 8, none⟩ = some (.string (⟨#[]⟩ : ByteArray)) := (blk_cell BK109.out 8).trans rfl
    have hfs28 := blk_frozen BK109.out 8
    have hns28_0 := NB104_109.out
    have hns28_1 := NB105_109.out
    have hms28_0 := NB109_104.out
    have hms28_1 := NB109_105.out
    refine skip_ (w1 := ?_) (by rfl) rfl ?_ ?_
    rotate_left
    · go_simp
      rfl
    refine hK.out _ _ ⟨((cell_far (p := ⟨gb109, _, none⟩) NB104_109.out _).trans (((cell_far (p := ⟨gb109, _, none⟩) NB104_109.out _).trans (((cell_far (p := ⟨gb109, _, none⟩) NB104_109.out _).trans (((cell_far (p := ⟨gb109, _, none⟩) NB104_109.out _).trans (((cell_far (p := ⟨gb109, _, none⟩) NB104_109.out _).trans (((cell_far (p := ⟨gb109, _, none⟩) NB104_109.out _).trans (((cell_far (p := ⟨gb109, _, none⟩) NB104_109.out _).trans (((cell_far (p := ⟨gb109, _, none⟩) NB104_109.out _).trans (((cell_far (p := ⟨gb109, _, none⟩) NB104_109.out _).trans (hHeld.1)))))))))))))))))), ((cell_far (p := ⟨gb109, _, none⟩) NB104_109.out _).trans (((cell_far (p := ⟨gb109, _, none⟩) NB104_109.out _).trans (((cell_far (p := ⟨gb109, _, none⟩) NB104_109.out _).trans (((cell_far (p := ⟨gb109, _, none⟩) NB104_109.out _).trans (((cell_far (p := ⟨gb109, _, none⟩) NB104_109.out _).trans (((cell_far (p := ⟨gb109, _, none⟩) NB104_109.out _).trans (((cell_far (p := ⟨gb109, _, none⟩) NB104_109.out _).trans (((cell_far (p := ⟨gb109, _, none⟩) NB104_109.out _).trans (((cell_far (p := ⟨gb109, _, none⟩) NB104_109.out _).trans (hHeld.2.1)))))))))))))))))), ((cell_far (p := ⟨gb109, _, none⟩) NB104_109.out _).trans (((cell_far (p := ⟨gb109, _, none⟩) NB104_109.out _).trans (((cell_far (p := ⟨gb109, _, none⟩) NB104_109.out _).trans (((cell_far (p := ⟨gb109, _, none⟩) NB104_109.out _).trans (((cell_far (p := ⟨gb109, _, none⟩) NB104_109.out _).trans (((cell_far (p := ⟨gb109, _, none⟩) NB104_109.out _).trans (((cell_far (p := ⟨gb109, _, none⟩) NB104_109.out _).trans (((cell_far (p := ⟨gb109, _, none⟩) NB104_109.out _).trans (((cell_far (p := ⟨gb109, _, none⟩) NB104_109.out _).trans (hHeld.2.2.1)))))))))))))))))), ((cell_far (p := ⟨gb109, _, none⟩) NB104_109.out _).trans (((cell_far (p := ⟨gb109, _, none⟩) NB104_109.out _).trans (((cell_far (p := ⟨gb109, _, none⟩) NB104_109.out _).trans (((cell_far (p := ⟨gb109, _, none⟩) NB104_109.out _).trans (((cell_far (p := ⟨gb109, _, none⟩) NB104_109.out _).trans (((cell_far (p := ⟨gb109, _, none⟩) NB104_109.out _).trans (((cell_far (p := ⟨gb109, _, none⟩) NB104_109.out _).trans (((cell_far (p := ⟨gb109, _, none⟩) NB104_109.out _).trans (((cell_far (p := ⟨gb109, _, none⟩) NB104_109.out _).trans (hHeld.2.2.2.1)))))))))))))))))), ((cell_far (p := ⟨gb109, _, none⟩) NB104_109.out _).trans (((cell_far (p := ⟨gb109, _, none⟩) NB104_109.out _).trans (((cell_far (p := ⟨gb109, _, none⟩) NB104_109.out _).trans (((cell_far (p := ⟨gb109, _, none⟩) NB104_109.out _).trans (((cell_far (p := ⟨gb109, _, none⟩) NB104_109.out _).trans (((cell_far (p := ⟨gb109, _, none⟩) NB104_109.out _).trans (((cell_far (p := ⟨gb109, _, none⟩) NB104_109.out _).trans (((cell_far (p := ⟨gb109, _, none⟩) NB104_109.out _).trans (((cell_far (p := ⟨gb109, _, none⟩) NB104_109.out _).trans (hHeld.2.2.2.2.1)))))))))))))))))), ((cell_far (p := ⟨gb109, _, none⟩) NB104_109.out _).trans (((cell_far (p := ⟨gb109, _, none⟩) NB104_109.out _).trans (((cell_far (p := ⟨gb109, _, none⟩) NB104_109.out _).trans (((cell_far (p := ⟨gb109, _, none⟩) NB104_109.out _).trans (((cell_far (p := ⟨gb109, _, none⟩) NB104_109.out _).trans (((cell_far (p := ⟨gb109, _, none⟩) NB104_109.out _).trans (((cell_far (p := ⟨gb109, _, none⟩) NB104_109.out _).trans (((cell_far (p := ⟨gb109, _, none⟩) NB104_109.out _).trans (((cell_far (p := ⟨gb109, _, none⟩) NB104_109.out _).trans (hHeld.2.2.2.2.2.1)))))))))))))))))), ((cell_far (p := ⟨gb109, _, none⟩) NB104_109.out _).trans (((cell_far (p := ⟨gb109, _, none⟩) NB104_109.out _).trans (((cell_far (p := ⟨gb109, _, none⟩) NB104_109.out _).trans (((cell_far (p := ⟨gb109, _, none⟩) NB104_109.out _).trans (((cell_far (p := ⟨gb109, _, none⟩) NB104_109.out _).trans (((cell_far (p := ⟨gb109, _, none⟩) NB104_109.out _).trans (((cell_far (p := ⟨gb109, _, none⟩) NB104_109.out _).trans (((cell_far (p := ⟨gb109, _, none⟩) NB104_109.out _).trans (((cell_far (p := ⟨gb109, _, none⟩) NB104_109.out _).trans (hHeld.2.2.2.2.2.2.1)))))))))))))))))), ((cell_far (p := ⟨gb109, _, none⟩) NB104_109.out _).trans (((cell_far (p := ⟨gb109, _, none⟩) NB104_109.out _).trans (((cell_far (p := ⟨gb109, _, none⟩) NB104_109.out _).trans (((cell_far (p := ⟨gb109, _, none⟩) NB104_109.out _).trans (((cell_far (p := ⟨gb109, _, none⟩) NB104_109.out _).trans (((cell_far (p := ⟨gb109, _, none⟩) NB104_109.out _).trans (((cell_far (p := ⟨gb109, _, none⟩) NB104_109.out _).trans (((cell_far (p := ⟨gb109, _, none⟩) NB104_109.out _).trans (((cell_far (p := ⟨gb109, _, none⟩) NB104_109.out _).trans (hHeld.2.2.2.2.2.2.2.1)))))))))))))))))), ((cell_far (p := ⟨gb109, _, none⟩) NB104_109.out _).trans (((cell_far (p := ⟨gb109, _, none⟩) NB104_109.out _).trans (((cell_far (p := ⟨gb109, _, none⟩) NB104_109.out _).trans (((cell_far (p := ⟨gb109, _, none⟩) NB104_109.out _).trans (((cell_far (p := ⟨gb109, _, none⟩) NB104_109.out _).trans (((cell_far (p := ⟨gb109, _, none⟩) NB104_109.out _).trans (((cell_far (p := ⟨gb109, _, none⟩) NB104_109.out _).trans (((cell_far (p := ⟨gb109, _, none⟩) NB104_109.out _).trans (((cell_far (p := ⟨gb109, _, none⟩) NB104_109.out _).trans (hHeld.2.2.2.2.2.2.2.2))))))))))))))))))⟩ (fun hHeld => ?_)
    clear hK K
    refine done_ (done_of HT_.out (by kernel_rfl)) ?_
    try go_wp2
    have n0_ : Aside0 ((((((((((w19.setCell ⟨gb109, 0, none⟩ (.int .i64 t108)).setCell ⟨gb109, 1, none⟩ (.bool a0_1)).setCell ⟨gb109, 2, none⟩ (.int .i64 a0_2)).setCell ⟨gb109, 3, none⟩ (.int .u64 a0_3)).setCell ⟨gb109, 4, none⟩ (.string a0_4)).setCell ⟨gb109, 5, none⟩ (.string a0_5)).setCell ⟨gb109, 6, none⟩ (.string a0_6)).setCell ⟨gb109, 7, none⟩ (.string a0_7)).setCell ⟨gb109, 8, none⟩ (.string a0_8)).heap[gb104]? = some (.cells #[.int .i64 a0_0, .bool a0_1, .int .i64 a0_2, .int .u64 a0_3, .string a0_4, .string a0_5, .string a0_6, .string a0_7, .string a0_8] 28 (0, 0))) := ⟨by (with_reducible repeat (first | refine blk_drewN ?_ _ | refine blk_drew ?_ | refine blk_alloc ?_ _)); refine blk_far ?_ NB104_109.out _; (with_reducible repeat (first | refine blk_drewN ?_ _ | refine blk_drew ?_ | refine blk_alloc ?_ _)); refine blk_far ?_ NB104_109.out _; (with_reducible repeat (first | refine blk_drewN ?_ _ | refine blk_drew ?_ | refine blk_alloc ?_ _)); refine blk_far ?_ NB104_109.out _; (with_reducible repeat (first | refine blk_drewN ?_ _ | refine blk_drew ?_ | refine blk_alloc ?_ _)); refine blk_far ?_ NB104_109.out _; (with_reducible repeat (first | refine blk_drewN ?_ _ | refine blk_drew ?_ | refine blk_alloc ?_ _)); refine blk_far ?_ NB104_109.out _; (with_reducible repeat (first | refine blk_drewN ?_ _ | refine blk_drew ?_ | refine blk_alloc ?_ _)); refine blk_far ?_ NB104_109.out _; (with_reducible repeat (first | refine blk_drewN ?_ _ | refine blk_drew ?_ | refine blk_alloc ?_ _)); refine blk_far ?_ NB104_109.out _; (with_reducible repeat (first | refine blk_drewN ?_ _ | refine blk_drew ?_ | refine blk_alloc ?_ _)); refine blk_far ?_ NB104_109.out _; (with_reducible repeat (first | refine blk_drewN ?_ _ | refine blk_drew ?_ | refine blk_alloc ?_ _)); refine blk_far ?_ NB104_109.out _; (with_reducible repeat (first | refine blk_drewN ?_ _ | refine blk_drew ?_ | refine blk_alloc ?_ _)); exact BK104.out⟩
    have n1_ : Aside0 ((((((((((w19.setCell ⟨gb109, 0, none⟩ (.int .i64 t108)).setCell ⟨gb109, 1, none⟩ (.bool a0_1)).setCell ⟨gb109, 2, none⟩ (.int .i64 a0_2)).setCell ⟨gb109, 3, none⟩ (.int .u64 a0_3)).setCell ⟨gb109, 4, none⟩ (.string a0_4)).setCell ⟨gb109, 5, none⟩ (.string a0_5)).setCell ⟨gb109, 6, none⟩ (.string a0_6)).setCell ⟨gb109, 7, none⟩ (.string a0_7)).setCell ⟨gb109, 8, none⟩ (.string a0_8)).heap[gb105]? = some (.cells #[.int .i64 a1_0, .bool a1_1, .int .i64 a1_2, .int .u64 a1_3, .string a1_4, .string a1_5, .string a1_6, .string a1_7, .string a1_8] 28 (0, 0))) := ⟨by (with_reducible repeat (first | refine blk_drewN ?_ _ | refine blk_drew ?_ | refine blk_alloc ?_ _)); refine blk_far ?_ NB105_109.out _; (with_reducible repeat (first | refine blk_drewN ?_ _ | refine blk_drew ?_ | refine blk_alloc ?_ _)); refine blk_far ?_ NB105_109.out _; (with_reducible repeat (first | refine blk_drewN ?_ _ | refine blk_drew ?_ | refine blk_alloc ?_ _)); refine blk_far ?_ NB105_109.out _; (with_reducible repeat (first | refine blk_drewN ?_ _ | refine blk_drew ?_ | refine blk_alloc ?_ _)); refine blk_far ?_ NB105_109.out _; (with_reducible repeat (first | refine blk_drewN ?_ _ | refine blk_drew ?_ | refine blk_alloc ?_ _)); refine blk_far ?_ NB105_109.out _; (with_reducible repeat (first | refine blk_drewN ?_ _ | refine blk_drew ?_ | refine blk_alloc ?_ _)); refine blk_far ?_ NB105_109.out _; (with_reducible repeat (first | refine blk_drewN ?_ _ | refine blk_drew ?_ | refine blk_alloc ?_ _)); refine blk_far ?_ NB105_109.out _; (with_reducible repeat (first | refine blk_drewN ?_ _ | refine blk_drew ?_ | refine blk_alloc ?_ _)); refine blk_far ?_ NB105_109.out _; (with_reducible repeat (first | refine blk_drewN ?_ _ | refine blk_drew ?_ | refine blk_alloc ?_ _)); refine blk_far ?_ NB105_109.out _; (with_reducible repeat (first | refine blk_drewN ?_ _ | refine blk_drew ?_ | refine blk_alloc ?_ _)); exact BK105.out⟩
    have n2_ : Aside0 ((((((((((w19.setCell ⟨gb109, 0, none⟩ (.int .i64 t108)).setCell ⟨gb109, 1, none⟩ (.bool a0_1)).setCell ⟨gb109, 2, none⟩ (.int .i64 a0_2)).setCell ⟨gb109, 3, none⟩ (.int .u64 a0_3)).setCell ⟨gb109, 4, none⟩ (.string a0_4)).setCell ⟨gb109, 5, none⟩ (.string a0_5)).setCell ⟨gb109, 6, none⟩ (.string a0_6)).setCell ⟨gb109, 7, none⟩ (.string a0_7)).setCell ⟨gb109, 8, none⟩ (.string a0_8)).heap[gb109]? = some (.cells #[.int .i64 t108, .bool a0_1, .int .i64 a0_2, .int .u64 a0_3, .string a0_4, .string a0_5, .string a0_6, .string a0_7, .string a0_8] 35 (0, 0))) := ⟨by (with_reducible repeat (first | refine blk_drewN ?_ _ | refine blk_drew ?_ | refine blk_alloc ?_ _)); refine blk_put (cs := #[.int .i64 t108, .bool a0_1, .int .i64 a0_2, .int .u64 a0_3, .string a0_4, .string a0_5, .string a0_6, .string a0_7, .string (⟨#[]⟩ : ByteArray)]) ?_ 8 _ rfl; (with_reducible repeat (first | refine blk_drewN ?_ _ | refine blk_drew ?_ | refine blk_alloc ?_ _)); refine blk_put (cs := #[.int .i64 t108, .bool a0_1, .int .i64 a0_2, .int .u64 a0_3, .string a0_4, .string a0_5, .string a0_6, .string (⟨#[]⟩ : ByteArray), .string (⟨#[]⟩ : ByteArray)]) ?_ 7 _ rfl; (with_reducible repeat (first | refine blk_drewN ?_ _ | refine blk_drew ?_ | refine blk_alloc ?_ _)); refine blk_put (cs := #[.int .i64 t108, .bool a0_1, .int .i64 a0_2, .int .u64 a0_3, .string a0_4, .string a0_5, .string (⟨#[]⟩ : ByteArray), .string (⟨#[]⟩ : ByteArray), .string (⟨#[]⟩ : ByteArray)]) ?_ 6 _ rfl; (with_reducible repeat (first | refine blk_drewN ?_ _ | refine blk_drew ?_ | refine blk_alloc ?_ _)); refine blk_put (cs := #[.int .i64 t108, .bool a0_1, .int .i64 a0_2, .int .u64 a0_3, .string a0_4, .string (⟨#[]⟩ : ByteArray), .string (⟨#[]⟩ : ByteArray), .string (⟨#[]⟩ : ByteArray), .string (⟨#[]⟩ : ByteArray)]) ?_ 5 _ rfl; (with_reducible repeat (first | refine blk_drewN ?_ _ | refine blk_drew ?_ | refine blk_alloc ?_ _)); refine blk_put (cs := #[.int .i64 t108, .bool a0_1, .int .i64 a0_2, .int .u64 a0_3, .string (⟨#[]⟩ : ByteArray), .string (⟨#[]⟩ : ByteArray), .string (⟨#[]⟩ : ByteArray), .string (⟨#[]⟩ : ByteArray), .string (⟨#[]⟩ : ByteArray)]) ?_ 4 _ rfl; (with_reducible repeat (first | refine blk_drewN ?_ _ | refine blk_drew ?_ | refine blk_alloc ?_ _)); refine blk_put (cs := #[.int .i64 t108, .bool a0_1, .int .i64 a0_2, .int .u64 0, .string (⟨#[]⟩ : ByteArray), .string (⟨#[]⟩ : ByteArray), .string (⟨#[]⟩ : ByteArray), .string (⟨#[]⟩ : ByteArray), .string (⟨#[]⟩ : ByteArray)]) ?_ 3 _ rfl; (with_reducible repeat (first | refine blk_drewN ?_ _ | refine blk_drew ?_ | refine blk_alloc ?_ _)); refine blk_put (cs := #[.int .i64 t108, .bool a0_1, .int .i64 0, .int .u64 0, .string (⟨#[]⟩ : ByteArray), .string (⟨#[]⟩ : ByteArray), .string (⟨#[]⟩ : ByteArray), .string (⟨#[]⟩ : ByteArray), .string (⟨#[]⟩ : ByteArray)]) ?_ 2 _ rfl; (with_reducible repeat (first | refine blk_drewN ?_ _ | refine blk_drew ?_ | refine blk_alloc ?_ _)); refine blk_put (cs := #[.int .i64 t108, .bool false, .int .i64 0, .int .u64 0, .string (⟨#[]⟩ : ByteArray), .string (⟨#[]⟩ : ByteArray), .string (⟨#[]⟩ : ByteArray), .string (⟨#[]⟩ : ByteArray), .string (⟨#[]⟩ : ByteArray)]) ?_ 1 _ rfl; (with_reducible repeat (first | refine blk_drewN ?_ _ | refine blk_drew ?_ | refine blk_alloc ?_ _)); refine blk_put (cs := #[.int .i64 0, .bool false, .int .i64 0, .int .u64 0, .string (⟨#[]⟩ : ByteArray), .string (⟨#[]⟩ : ByteArray), .string (⟨#[]⟩ : ByteArray), .string (⟨#[]⟩ : ByteArray), .string (⟨#[]⟩ : ByteArray)]) ?_ 0 _ rfl; (with_reducible repeat (first | refine blk_drewN ?_ _ | refine blk_drew ?_ | refine blk_alloc ?_ _)); exact BK109.out⟩
    have n3_ : Aside0 (Below w.heap.size w (((((((((w19.setCell ⟨gb109, 0, none⟩ (.int .i64 t108)).setCell ⟨gb109, 1, none⟩ (.bool a0_1)).setCell ⟨gb109, 2, none⟩ (.int .i64 a0_2)).setCell ⟨gb109, 3, none⟩ (.int .u64 a0_3)).setCell ⟨gb109, 4, none⟩ (.string a0_4)).setCell ⟨gb109, 5, none⟩ (.string a0_5)).setCell ⟨gb109, 6, none⟩ (.string a0_6)).setCell ⟨gb109, 7, none⟩ (.string a0_7)).setCell ⟨gb109, 8, none⟩ (.string a0_8))) := ⟨by repeat (first | (with_reducible first | exact HB.out | apply below_alloc | apply pw_below_drewN | apply below_drew1 | refine below_set ?_ GE104.out | refine below_set ?_ GE105.out | refine below_set ?_ GE109.out) | exact HB.out)⟩
    (try clear BK104)
    (try clear BK105)
    (try clear BK109)
    (try clear HB)
    generalize (((((((((w19.setCell ⟨gb109, 0, none⟩ (.int .i64 t108)).setCell ⟨gb109, 1, none⟩ (.bool a0_1)).setCell ⟨gb109, 2, none⟩ (.int .i64 a0_2)).setCell ⟨gb109, 3, none⟩ (.int .u64 a0_3)).setCell ⟨gb109, 4, none⟩ (.string a0_4)).setCell ⟨gb109, 5, none⟩ (.string a0_5)).setCell ⟨gb109, 6, none⟩ (.string a0_6)).setCell ⟨gb109, 7, none⟩ (.string a0_7)).setCell ⟨gb109, 8, none⟩ (.string a0_8)) = w29 at n0_ n1_ n2_ n3_ ⊢
    have BK104 := n0_
    have BK105 := n1_
    have BK109 := n2_
    have HB := n3_
    clear n0_ n1_ n2_ n3_
    have n0_ := Aside0.mk (blk_drew BK104.out)
    have n1_ := Aside0.mk (blk_drew BK105.out)
    have n2_ := Aside0.mk (blk_drew BK109.out)
    have n3_ := Aside0.mk (below_drew1 HB.out)
    clear BK104
    clear BK105
    clear BK109
    clear HB
    have BK104 := n0_
    have BK105 := n1_
    have BK109 := n2_
    have HB := n3_
    clear n0_ n1_ n2_ n3_
    refine start_ (n := 8) (S := fun w' => w'.cell? ⟨gb105, 0, none⟩ = some (.int .i64 a1_0) ∧ w'.cell? ⟨gb105, 1, none⟩ = some (.bool a1_1) ∧ w'.cell? ⟨gb105, 2, none⟩ = some (.int .i64 a1_2) ∧ w'.cell? ⟨gb105, 3, none⟩ = some (.int .u64 a1_3) ∧ w'.cell? ⟨gb105, 4, none⟩ = some (.string a1_4) ∧ w'.cell? ⟨gb105, 5, none⟩ = some (.string a1_5) ∧ w'.cell? ⟨gb105, 6, none⟩ = some (.string a1_6) ∧ w'.cell? ⟨gb105, 7, none⟩ = some (.string a1_7) ∧ w'.cell? ⟨gb105, 8, none⟩ = some (.string a1_8)) (ds := []) #[false, false, false, false, false, false, false, false] (by kernel_rfl) rfl rfl ⟨(blk_cell BK105.out 0).trans rfl, (blk_cell BK105.out 1).trans rfl, (blk_cell BK105.out 2).trans rfl, (blk_cell BK105.out 3).trans rfl, (blk_cell BK105.out 4).trans rfl, (blk_cell BK105.out 5).trans rfl, (blk_cell BK105.out 6).trans rfl, (blk_cell BK105.out 7).trans rfl, (blk_cell BK105.out 8).trans rfl⟩ (fun hHeld => ?_); refine with_tabW cofferlaw08_HeaderChooses.tab3 cofferlaw08_HeaderChooses.bits3 (fun HT_ HW_ => ?_)
    generalize w29.drew = w30 at BK104 BK105 BK109 HB hHeld ⊢
    refine pure_ (i := 0) (N := some 30) (v := ?_) (a' := ?_) #[true, false, false, false, false, false, false, false] rfl rfl (any_of HT_.out (by kernel_rfl)) (fun _ _ _ h => h) (Or.inl ⟨by rfl, ?_⟩) ?_ ?_
    rotate_left
    · intro w'
      go_simp
      with_reducible rfl
    rotate_left
    · simp only [Act.put, List.setIfInBounds_toArray, List.set_cons_zero, List.set_cons_succ, i64_w, i32_w]
      rfl
    refine pure_ (i := 3) (N := some 33) (v := ?_) (a' := ?_) #[true, false, false, true, false, false, false, false] rfl rfl (any_of HT_.out (by kernel_rfl)) (fun _ _ _ h => h) (Or.inl ⟨by rfl, ?_⟩) ?_ ?_
    rotate_left
    · intro w'
      go_simp
      with_reducible rfl
    rotate_left
    · simp only [Act.put, List.setIfInBounds_toArray, List.set_cons_zero, List.set_cons_succ, i64_w, i32_w]
      rfl
    refine take_ (i := 1) (N := some 31) (v := ?_) (a' := ?_) #[true, true, false, true, false, false, false, false] rfl rfl (take_ofW HT_.out HW_.out (by kernel_rfl)) (fun _ _ _ h => h) (Or.inl ⟨by rfl, ?_⟩) hHeld ?_ ?_
    rotate_left
    · rintro w' ⟨s0, s1, s2, s3, s4, s5, s6, s7, s8⟩
      go_simp
      with_reducible rfl
    rotate_left
    · simp only [Act.put, List.setIfInBounds_toArray, List.set_cons_zero, List.set_cons_succ, i64_w, i32_w]
      rfl
    refine take_ (i := 4) (N := some 34) (v := ?_) (a' := ?_) #[true, true, false, true, true, false, false, false] rfl rfl (take_ofW HT_.out HW_.out (by kernel_rfl)) (fun _ _ _ h => h) (Or.inl ⟨by rfl, ?_⟩) hHeld ?_ ?_
    rotate_left
    · rintro w' ⟨s0, s1, s2, s3, s4, s5, s6, s7, s8⟩
      go_simp
      with_reducible rfl
    rotate_left
    · simp only [Act.put, List.setIfInBounds_toArray, List.set_cons_zero, List.set_cons_succ, i64_w, i32_w]
      rfl
    refine join_ (σ := Nat) 1 #[true, true, true, true, true, true, true, false] (fun s_ => [(32, .int .i64 t110), (12, .pointer (some ⟨s_, 0, none⟩)), (35, .agg #[.int .i64 t110, .bool a1_1, .int .i64 a1_2, .int .u64 a1_3, .string a1_4, .string a1_5, .string a1_6, .string a1_7, .string a1_8])]) (fun s_ w' => (w'.cell? ⟨gb105, 0, none⟩ = some (.int .i64 a1_0) ∧ w'.cell? ⟨gb105, 1, none⟩ = some (.bool a1_1) ∧ w'.cell? ⟨gb105, 2, none⟩ = some (.int .i64 a1_2) ∧ w'.cell? ⟨gb105, 3, none⟩ = some (.int .u64 a1_3) ∧ w'.cell? ⟨gb105, 4, none⟩ = some (.string a1_4) ∧ w'.cell? ⟨gb105, 5, none⟩ = some (.string a1_5) ∧ w'.cell? ⟨gb105, 6, none⟩ = some (.string a1_6) ∧ w'.cell? ⟨gb105, 7, none⟩ = some (.string a1_7) ∧ w'.cell? ⟨gb105, 8, none⟩ = some (.string a1_8)) ∧ (w'.heap[gb104]? = some (.cells #[.int .i64 a0_0, .bool a0_1, .int .i64 a0_2, .int .u64 a0_3, .string a0_4, .string a0_5, .string a0_6, .string a0_7, .string a0_8] 28 (0, 0))) ∧ (w'.heap[gb105]? = some (.cells #[.int .i64 a1_0, .bool a1_1, .int .i64 a1_2, .int .u64 a1_3, .string a1_4, .string a1_5, .string a1_6, .string a1_7, .string a1_8] 28 (0, 0))) ∧ (w'.heap[gb109]? = some (.cells #[.int .i64 t108, .bool a0_1, .int .i64 a0_2, .int .u64 a0_3, .string a0_4, .string a0_5, .string a0_6, .string a0_7, .string a0_8] 35 (0, 0))) ∧ (w'.heap[s_]? = some (.cells #[.int .i64 0, .bool false, .int .i64 0, .int .u64 0, .string (⟨#[]⟩ : ByteArray), .string (⟨#[]⟩ : ByteArray), .string (⟨#[]⟩ : ByteArray), .string (⟨#[]⟩ : ByteArray), .string (⟨#[]⟩ : ByteArray)] 35 (0, 0))) ∧ (w.heap.size ≤ s_) ∧ (w.heap.size ≤ s_) ∧ (gb104 ≠ s_) ∧ (s_ ≠ gb104) ∧ (gb105 ≠ s_) ∧ (s_ ≠ gb105) ∧ (gb109 ≠ s_) ∧ (s_ ≠ gb109) ∧ (Below w.heap.size w w')) ?_ ?_
    rotate_left
    · intro hCont
      refine two_ (i := 2) (j := 6) (Ni := some 32) (Nj := some 12) #[true, true, true, true, true, false, false, false] #[true, true, false, true, true, false, true, false] rfl rfl rfl rfl (two_of HT_.out (by kernel_rfl)) (by decide) (by decide) (fun K hK => ?_) (fun K hK => ?_)
      · skip
        refine goes_ Try.func6 (by kernel_rfl) rfl #[.int .i64 a1_0] (by rfl) rfl rfl (by (try simp only [List.map_toArray, List.map_cons, List.map_nil]); first | done | rfl | (simp only [List.length_drop, List.length_take]; rfl)) ?_
        with_reducible refine (cofferlaw08_num.calls a1_0 t110 _ A7.out).mono ?_
        rintro e w' ⟨rfl, ⟨nd, rfl⟩⟩
        refine ⟨_, rfl, ?_⟩
        refine hK.out _ _ ⟨(blk_cell BK105.out 0).trans rfl, (blk_cell BK105.out 1).trans rfl, (blk_cell BK105.out 2).trans rfl, (blk_cell BK105.out 3).trans rfl, (blk_cell BK105.out 4).trans rfl, (blk_cell BK105.out 5).trans rfl, (blk_cell BK105.out 6).trans rfl, (blk_cell BK105.out 7).trans rfl, (blk_cell BK105.out 8).trans rfl⟩ (fun hHeld => ?_)
        clear hK K
        refine norm_ (a' := ?_) ?_ ?_
        rotate_left
        · show Act.put _ (some 32) _ = _
          simp only [Act.put, List.setIfInBounds_toArray, List.set_cons_zero, List.set_cons_succ, i64_w, i32_w]
          rfl
        refine pure_ (i := 5) (N := some 35) (v := ?_) (a' := ?_) #[true, true, true, true, true, true, false, false] rfl rfl (any_of HT_.out (by kernel_rfl)) (fun _ _ _ h => h) (Or.inl ⟨by rfl, ?_⟩) ?_ ?_
        rotate_left
        · intro w'
          go_simp
          with_reducible rfl
        rotate_left
        · simp only [Act.put, List.setIfInBounds_toArray, List.set_cons_zero, List.set_cons_succ, i64_w, i32_w]
          rfl
        refine one_ (i := 6) (N := some 12) #[true, true, true, true, true, true, true, false] rfl rfl (one_of HT_.out (by kernel_rfl)) (by decide) (fun K hK => ?_)
        refine box_step ?hg (N := 12) ?hd (cs := #[.int .i64 0, .bool false, .int .i64 0, .int .u64 0, .string (⟨#[]⟩ : ByteArray), .string (⟨#[]⟩ : ByteArray), .string (⟨#[]⟩ : ByteArray), .string (⟨#[]⟩ : ByteArray), .string (⟨#[]⟩ : ByteArray)]) (t := 35) ?hr ?_; (case hd => rfl); (case hg => rfl); (case hr => first | (go_simp; done) | (go_simp; rfl))
        intro gb111 hg w31 hbox hb
        have n0_ := Aside0.mk (blk_below (g := gb104) (o := .cells #[.int .i64 a0_0, .bool a0_1, .int .i64 a0_2, .int .u64 a0_3, .string a0_4, .string a0_5, .string a0_6, .string a0_7, .string a0_8] 28 (0, 0)) (by (with_reducible repeat (first | refine blk_drewN ?_ _ | refine blk_drew ?_ | refine blk_alloc ?_ _)); exact BK104.out) hb)
        have n1_ := Aside0.mk (blk_below (g := gb105) (o := .cells #[.int .i64 a1_0, .bool a1_1, .int .i64 a1_2, .int .u64 a1_3, .string a1_4, .string a1_5, .string a1_6, .string a1_7, .string a1_8] 28 (0, 0)) (by (with_reducible repeat (first | refine blk_drewN ?_ _ | refine blk_drew ?_ | refine blk_alloc ?_ _)); exact BK105.out) hb)
        have n2_ := Aside0.mk (blk_below (g := gb109) (o := .cells #[.int .i64 t108, .bool a0_1, .int .i64 a0_2, .int .u64 a0_3, .string a0_4, .string a0_5, .string a0_6, .string a0_7, .string a0_8] 35 (0, 0)) (by (with_reducible repeat (first | refine blk_drewN ?_ _ | refine blk_drew ?_ | refine blk_alloc ?_ _)); exact BK109.out) hb)
        have n3_ := Aside0.mk (below_step (by repeat (first | (with_reducible first | exact HB.out | apply below_alloc | apply pw_below_drewN | apply below_drew1 | refine below_set ?_ GE104.out | refine below_set ?_ GE105.out | refine below_set ?_ GE109.out) | exact HB.out)) hb)
        have n4_ := Aside0.mk (hbox)
        have n5_ := Aside0.mk ((by rw [hg]; exact (below_size (by repeat (first | (with_reducible first | exact HB.out | apply below_alloc | apply pw_below_drewN | apply below_drew1 | refine below_set ?_ GE104.out | refine below_set ?_ GE105.out | refine below_set ?_ GE109.out) | exact HB.out))) : w.heap.size ≤ gb111))
        have n6_ := Aside0.mk ((by rw [hg]; exact (below_size (by repeat (first | (with_reducible first | exact HB.out | apply below_alloc | apply pw_below_drewN | apply below_drew1 | refine below_set ?_ GE104.out | refine below_set ?_ GE105.out | refine below_set ?_ GE109.out) | exact HB.out))) : w.heap.size ≤ gb111))
        have n7_ := Aside0.mk ((by rw [hg]; exact Nat.ne_of_lt (blk_lt (g := gb104) (o := .cells #[.int .i64 a0_0, .bool a0_1, .int .i64 a0_2, .int .u64 a0_3, .string a0_4, .string a0_5, .string a0_6, .string a0_7, .string a0_8] 28 (0, 0)) (by (with_reducible repeat (first | refine blk_drewN ?_ _ | refine blk_drew ?_ | refine blk_alloc ?_ _)); exact BK104.out)) : gb104 ≠ gb111))
        have n8_ := Aside0.mk ((by rw [hg]; exact Nat.ne_of_gt (blk_lt (g := gb104) (o := .cells #[.int .i64 a0_0, .bool a0_1, .int .i64 a0_2, .int .u64 a0_3, .string a0_4, .string a0_5, .string a0_6, .string a0_7, .string a0_8] 28 (0, 0)) (by (with_reducible repeat (first | refine blk_drewN ?_ _ | refine blk_drew ?_ | refine blk_alloc ?_ _)); exact BK104.out)) : gb111 ≠ gb104))
        have n9_ := Aside0.mk ((by rw [hg]; exact Nat.ne_of_lt (blk_lt (g := gb105) (o := .cells #[.int .i64 a1_0, .bool a1_1, .int .i64 a1_2, .int .u64 a1_3, .string a1_4, .string a1_5, .string a1_6, .string a1_7, .string a1_8] 28 (0, 0)) (by (with_reducible repeat (first | refine blk_drewN ?_ _ | refine blk_drew ?_ | refine blk_alloc ?_ _)); exact BK105.out)) : gb105 ≠ gb111))
        have n10_ := Aside0.mk ((by rw [hg]; exact Nat.ne_of_gt (blk_lt (g := gb105) (o := .cells #[.int .i64 a1_0, .bool a1_1, .int .i64 a1_2, .int .u64 a1_3, .string a1_4, .string a1_5, .string a1_6, .string a1_7, .string a1_8] 28 (0, 0)) (by (with_reducible repeat (first | refine blk_drewN ?_ _ | refine blk_drew ?_ | refine blk_alloc ?_ _)); exact BK105.out)) : gb111 ≠ gb105))
        have n11_ := Aside0.mk ((by rw [hg]; exact Nat.ne_of_lt (blk_lt (g := gb109) (o := .cells #[.int .i64 t108, .bool a0_1, .int .i64 a0_2, .int .u64 a0_3, .string a0_4, .string a0_5, .string a0_6, .string a0_7, .string a0_8] 35 (0, 0)) (by (with_reducible repeat (first | refine blk_drewN ?_ _ | refine blk_drew ?_ | refine blk_alloc ?_ _)); exact BK109.out)) : gb109 ≠ gb111))
        have n12_ := Aside0.mk ((by rw [hg]; exact Nat.ne_of_gt (blk_lt (g := gb109) (o := .cells #[.int .i64 t108, .bool a0_1, .int .i64 a0_2, .int .u64 a0_3, .string a0_4, .string a0_5, .string a0_6, .string a0_7, .string a0_8] 35 (0, 0)) (by (with_reducible repeat (first | refine blk_drewN ?_ _ | refine blk_drew ?_ | refine blk_alloc ?_ _)); exact BK109.out)) : gb111 ≠ gb109))
        clear BK104
        clear BK105
        clear BK109
        clear HB
        have BK104 := n0_
        have BK105 := n1_
        have BK109 := n2_
        have HB := n3_
        have BK111 := n4_
        have GW111 := n5_
        have GE111 := n6_
        have NB104_111 := n7_
        have NB111_104 := n8_
        have NB105_111 := n9_
        have NB111_105 := n10_
        have NB109_111 := n11_
        have NB111_109 := n12_
        clear n0_ n1_ n2_ n3_ n4_ n5_ n6_ n7_ n8_ n9_ n10_ n11_ n12_
        clear hb hbox hg
        refine hK.out _ _ ⟨(blk_cell BK105.out 0).trans rfl, (blk_cell BK105.out 1).trans rfl, (blk_cell BK105.out 2).trans rfl, (blk_cell BK105.out 3).trans rfl, (blk_cell BK105.out 4).trans rfl, (blk_cell BK105.out 5).trans rfl, (blk_cell BK105.out 6).trans rfl, (blk_cell BK105.out 7).trans rfl, (blk_cell BK105.out 8).trans rfl⟩ (fun hHeld => ?_)
        clear hK K
        refine norm_ (a' := ?_) ?_ ?_
        rotate_left
        · show Act.put _ (some 12) _ = _
          simp only [Act.put, List.setIfInBounds_toArray, List.set_cons_zero, List.set_cons_succ, i64_w, i32_w]
          rfl
        exact norm_ (by simp only [putAll, Act.put, List.setIfInBounds_toArray, List.set_cons_zero, List.set_cons_succ]) (hCont (gb111) _ ⟨hHeld, (by (with_reducible repeat (first | refine blk_drewN ?_ _ | refine blk_drew ?_ | refine blk_alloc ?_ _)); exact BK104.out), (by (with_reducible repeat (first | refine blk_drewN ?_ _ | refine blk_drew ?_ | refine blk_alloc ?_ _)); exact BK105.out), (by (with_reducible repeat (first | refine blk_drewN ?_ _ | refine blk_drew ?_ | refine blk_alloc ?_ _)); exact BK109.out), (by (with_reducible repeat (first | refine blk_drewN ?_ _ | refine blk_drew ?_ | refine blk_alloc ?_ _)); exact BK111.out), GW111.out, GE111.out, NB104_111.out, NB111_104.out, NB105_111.out, NB111_105.out, NB109_111.out, NB111_109.out, (by repeat (first | (with_reducible first | exact HB.out | apply below_alloc | apply pw_below_drewN | apply below_drew1 | refine below_set ?_ GE104.out | refine below_set ?_ GE105.out | refine below_set ?_ GE109.out | refine below_set ?_ GE111.out) | exact HB.out))⟩)
      · skip
        refine box_step ?hg (N := 12) ?hd (cs := #[.int .i64 0, .bool false, .int .i64 0, .int .u64 0, .string (⟨#[]⟩ : ByteArray), .string (⟨#[]⟩ : ByteArray), .string (⟨#[]⟩ : ByteArray), .string (⟨#[]⟩ : ByteArray), .string (⟨#[]⟩ : ByteArray)]) (t := 35) ?hr ?_; (case hd => rfl); (case hg => rfl); (case hr => first | (go_simp; done) | (go_simp; rfl))
        intro gb111 hg w31 hbox hb
        have n0_ := Aside0.mk (blk_below (g := gb104) (o := .cells #[.int .i64 a0_0, .bool a0_1, .int .i64 a0_2, .int .u64 a0_3, .string a0_4, .string a0_5, .string a0_6, .string a0_7, .string a0_8] 28 (0, 0)) (by (with_reducible repeat (first | refine blk_drewN ?_ _ | refine blk_drew ?_ | refine blk_alloc ?_ _)); exact BK104.out) hb)
        have n1_ := Aside0.mk (blk_below (g := gb105) (o := .cells #[.int .i64 a1_0, .bool a1_1, .int .i64 a1_2, .int .u64 a1_3, .string a1_4, .string a1_5, .string a1_6, .string a1_7, .string a1_8] 28 (0, 0)) (by (with_reducible repeat (first | refine blk_drewN ?_ _ | refine blk_drew ?_ | refine blk_alloc ?_ _)); exact BK105.out) hb)
        have n2_ := Aside0.mk (blk_below (g := gb109) (o := .cells #[.int .i64 t108, .bool a0_1, .int .i64 a0_2, .int .u64 a0_3, .string a0_4, .string a0_5, .string a0_6, .string a0_7, .string a0_8] 35 (0, 0)) (by (with_reducible repeat (first | refine blk_drewN ?_ _ | refine blk_drew ?_ | refine blk_alloc ?_ _)); exact BK109.out) hb)
        have n3_ := Aside0.mk (below_step (by repeat (first | (with_reducible first | exact HB.out | apply below_alloc | apply pw_below_drewN | apply below_drew1 | refine below_set ?_ GE104.out | refine below_set ?_ GE105.out | refine below_set ?_ GE109.out) | exact HB.out)) hb)
        have n4_ := Aside0.mk (hbox)
        have n5_ := Aside0.mk ((by rw [hg]; exact (below_size (by repeat (first | (with_reducible first | exact HB.out | apply below_alloc | apply pw_below_drewN | apply below_drew1 | refine below_set ?_ GE104.out | refine below_set ?_ GE105.out | refine below_set ?_ GE109.out) | exact HB.out))) : w.heap.size ≤ gb111))
        have n6_ := Aside0.mk ((by rw [hg]; exact (below_size (by repeat (first | (with_reducible first | exact HB.out | apply below_alloc | apply pw_below_drewN | apply below_drew1 | refine below_set ?_ GE104.out | refine below_set ?_ GE105.out | refine below_set ?_ GE109.out) | exact HB.out))) : w.heap.size ≤ gb111))
        have n7_ := Aside0.mk ((by rw [hg]; exact Nat.ne_of_lt (blk_lt (g := gb104) (o := .cells #[.int .i64 a0_0, .bool a0_1, .int .i64 a0_2, .int .u64 a0_3, .string a0_4, .string a0_5, .string a0_6, .string a0_7, .string a0_8] 28 (0, 0)) (by (with_reducible repeat (first | refine blk_drewN ?_ _ | refine blk_drew ?_ | refine blk_alloc ?_ _)); exact BK104.out)) : gb104 ≠ gb111))
        have n8_ := Aside0.mk ((by rw [hg]; exact Nat.ne_of_gt (blk_lt (g := gb104) (o := .cells #[.int .i64 a0_0, .bool a0_1, .int .i64 a0_2, .int .u64 a0_3, .string a0_4, .string a0_5, .string a0_6, .string a0_7, .string a0_8] 28 (0, 0)) (by (with_reducible repeat (first | refine blk_drewN ?_ _ | refine blk_drew ?_ | refine blk_alloc ?_ _)); exact BK104.out)) : gb111 ≠ gb104))
        have n9_ := Aside0.mk ((by rw [hg]; exact Nat.ne_of_lt (blk_lt (g := gb105) (o := .cells #[.int .i64 a1_0, .bool a1_1, .int .i64 a1_2, .int .u64 a1_3, .string a1_4, .string a1_5, .string a1_6, .string a1_7, .string a1_8] 28 (0, 0)) (by (with_reducible repeat (first | refine blk_drewN ?_ _ | refine blk_drew ?_ | refine blk_alloc ?_ _)); exact BK105.out)) : gb105 ≠ gb111))
        have n10_ := Aside0.mk ((by rw [hg]; exact Nat.ne_of_gt (blk_lt (g := gb105) (o := .cells #[.int .i64 a1_0, .bool a1_1, .int .i64 a1_2, .int .u64 a1_3, .string a1_4, .string a1_5, .string a1_6, .string a1_7, .string a1_8] 28 (0, 0)) (by (with_reducible repeat (first | refine blk_drewN ?_ _ | refine blk_drew ?_ | refine blk_alloc ?_ _)); exact BK105.out)) : gb111 ≠ gb105))
        have n11_ := Aside0.mk ((by rw [hg]; exact Nat.ne_of_lt (blk_lt (g := gb109) (o := .cells #[.int .i64 t108, .bool a0_1, .int .i64 a0_2, .int .u64 a0_3, .string a0_4, .string a0_5, .string a0_6, .string a0_7, .string a0_8] 35 (0, 0)) (by (with_reducible repeat (first | refine blk_drewN ?_ _ | refine blk_drew ?_ | refine blk_alloc ?_ _)); exact BK109.out)) : gb109 ≠ gb111))
        have n12_ := Aside0.mk ((by rw [hg]; exact Nat.ne_of_gt (blk_lt (g := gb109) (o := .cells #[.int .i64 t108, .bool a0_1, .int .i64 a0_2, .int .u64 a0_3, .string a0_4, .string a0_5, .string a0_6, .string a0_7, .string a0_8] 35 (0, 0)) (by (with_reducible repeat (first | refine blk_drewN ?_ _ | refine blk_drew ?_ | refine blk_alloc ?_ _)); exact BK109.out)) : gb111 ≠ gb109))
        clear BK104
        clear BK105
        clear BK109
        clear HB
        have BK104 := n0_
        have BK105 := n1_
        have BK109 := n2_
        have HB := n3_
        have BK111 := n4_
        have GW111 := n5_
        have GE111 := n6_
        have NB104_111 := n7_
        have NB111_104 := n8_
        have NB105_111 := n9_
        have NB111_105 := n10_
        have NB109_111 := n11_
        have NB111_109 := n12_
        clear n0_ n1_ n2_ n3_ n4_ n5_ n6_ n7_ n8_ n9_ n10_ n11_ n12_
        clear hb hbox hg
        refine hK.out _ _ ⟨(blk_cell BK105.out 0).trans rfl, (blk_cell BK105.out 1).trans rfl, (blk_cell BK105.out 2).trans rfl, (blk_cell BK105.out 3).trans rfl, (blk_cell BK105.out 4).trans rfl, (blk_cell BK105.out 5).trans rfl, (blk_cell BK105.out 6).trans rfl, (blk_cell BK105.out 7).trans rfl, (blk_cell BK105.out 8).trans rfl⟩ (fun hHeld => ?_)
        clear hK K
        refine norm_ (a' := ?_) ?_ ?_
        rotate_left
        · show Act.put _ (some 12) _ = _
          simp only [Act.put, List.setIfInBounds_toArray, List.set_cons_zero, List.set_cons_succ, i64_w, i32_w]
          rfl
        refine one_ (i := 2) (N := some 32) #[true, true, true, true, true, false, true, false] rfl rfl (one_of HT_.out (by kernel_rfl)) (by decide) (fun K hK => ?_)
        refine goes_ Try.func6 (by kernel_rfl) rfl #[.int .i64 a1_0] (by rfl) rfl rfl (by (try simp only [List.map_toArray, List.map_cons, List.map_nil]); first | done | rfl | (simp only [List.length_drop, List.length_take]; rfl)) ?_
        with_reducible refine (cofferlaw08_num.calls a1_0 t110 _ A7.out).mono ?_
        rintro e w' ⟨rfl, ⟨nd, rfl⟩⟩
        refine ⟨_, rfl, ?_⟩
        refine hK.out _ _ ⟨(blk_cell BK105.out 0).trans rfl, (blk_cell BK105.out 1).trans rfl, (blk_cell BK105.out 2).trans rfl, (blk_cell BK105.out 3).trans rfl, (blk_cell BK105.out 4).trans rfl, (blk_cell BK105.out 5).trans rfl, (blk_cell BK105.out 6).trans rfl, (blk_cell BK105.out 7).trans rfl, (blk_cell BK105.out 8).trans rfl⟩ (fun hHeld => ?_)
        clear hK K
        refine norm_ (a' := ?_) ?_ ?_
        rotate_left
        · show Act.put _ (some 32) _ = _
          simp only [Act.put, List.setIfInBounds_toArray, List.set_cons_zero, List.set_cons_succ, i64_w, i32_w]
          rfl
        refine pure_ (i := 5) (N := some 35) (v := ?_) (a' := ?_) #[true, true, true, true, true, true, true, false] rfl rfl (any_of HT_.out (by kernel_rfl)) (fun _ _ _ h => h) (Or.inl ⟨by rfl, ?_⟩) ?_ ?_
        rotate_left
        · intro w'
          go_simp
          with_reducible rfl
        rotate_left
        · simp only [Act.put, List.setIfInBounds_toArray, List.set_cons_zero, List.set_cons_succ, i64_w, i32_w]
          rfl
        exact norm_ (by simp only [putAll, Act.put, List.setIfInBounds_toArray, List.set_cons_zero, List.set_cons_succ]) (hCont (gb111) _ ⟨hHeld, (by (with_reducible repeat (first | refine blk_drewN ?_ _ | refine blk_drew ?_ | refine blk_alloc ?_ _)); exact BK104.out), (by (with_reducible repeat (first | refine blk_drewN ?_ _ | refine blk_drew ?_ | refine blk_alloc ?_ _)); exact BK105.out), (by (with_reducible repeat (first | refine blk_drewN ?_ _ | refine blk_drew ?_ | refine blk_alloc ?_ _)); exact BK109.out), (by (with_reducible repeat (first | refine blk_drewN ?_ _ | refine blk_drew ?_ | refine blk_alloc ?_ _)); exact BK111.out), GW111.out, GE111.out, NB104_111.out, NB111_104.out, NB105_111.out, NB111_105.out, NB109_111.out, NB111_109.out, (by repeat (first | (with_reducible first | exact HB.out | apply below_alloc | apply pw_below_drewN | apply below_drew1 | refine below_set ?_ GE104.out | refine below_set ?_ GE105.out | refine below_set ?_ GE109.out | refine below_set ?_ GE111.out) | exact HB.out))⟩)
    rintro gb111 w32 ⟨hS_, h0_, h1_, h2_, h3_, h4_, h5_, h6_, h7_, h8_, h9_, h10_, h11_, h12_⟩
    have n0_ : Aside0 (w32.heap[gb104]? = some (.cells #[.int .i64 a0_0, .bool a0_1, .int .i64 a0_2, .int .u64 a0_3, .string a0_4, .string a0_5, .string a0_6, .string a0_7, .string a0_8] 28 (0, 0))) := ⟨h0_⟩
    have n1_ : Aside0 (w32.heap[gb105]? = some (.cells #[.int .i64 a1_0, .bool a1_1, .int .i64 a1_2, .int .u64 a1_3, .string a1_4, .string a1_5, .string a1_6, .string a1_7, .string a1_8] 28 (0, 0))) := ⟨h1_⟩
    have n2_ : Aside0 (w32.heap[gb109]? = some (.cells #[.int .i64 t108, .bool a0_1, .int .i64 a0_2, .int .u64 a0_3, .string a0_4, .string a0_5, .string a0_6, .string a0_7, .string a0_8] 35 (0, 0))) := ⟨h2_⟩
    have n3_ : Aside0 (w32.heap[gb111]? = some (.cells #[.int .i64 0, .bool false, .int .i64 0, .int .u64 0, .string (⟨#[]⟩ : ByteArray), .string (⟨#[]⟩ : ByteArray), .string (⟨#[]⟩ : ByteArray), .string (⟨#[]⟩ : ByteArray), .string (⟨#[]⟩ : ByteArray)] 35 (0, 0))) := ⟨h3_⟩
    have n4_ : Aside0 (w.heap.size ≤ gb111) := ⟨h4_⟩
    have n5_ : Aside0 (w.heap.size ≤ gb111) := ⟨h5_⟩
    have n6_ : Aside0 (gb104 ≠ gb111) := ⟨h6_⟩
    have n7_ : Aside0 (gb111 ≠ gb104) := ⟨h7_⟩
    have n8_ : Aside0 (gb105 ≠ gb111) := ⟨h8_⟩
    have n9_ : Aside0 (gb111 ≠ gb105) := ⟨h9_⟩
    have n10_ : Aside0 (gb109 ≠ gb111) := ⟨h10_⟩
    have n11_ : Aside0 (gb111 ≠ gb109) := ⟨h11_⟩
    have n12_ : Aside0 (Below w.heap.size w w32) := ⟨h12_⟩
    clear BK104
    clear BK105
    clear BK109
    clear HB
    clear h0_ h1_ h2_ h3_ h4_ h5_ h6_ h7_ h8_ h9_ h10_ h11_ h12_
    have BK104 := n0_
    have BK105 := n1_
    have BK109 := n2_
    have BK111 := n3_
    have GW111 := n4_
    have GE111 := n5_
    have NB104_111 := n6_
    have NB111_104 := n7_
    have NB105_111 := n8_
    have NB111_105 := n9_
    have NB109_111 := n10_
    have NB111_109 := n11_
    have HB := n12_
    clear n0_ n1_ n2_ n3_ n4_ n5_ n6_ n7_ n8_ n9_ n10_ n11_ n12_
    have hHeld : w32.cell? ⟨gb105, 0, none⟩ = some (.int .i64 a1_0) ∧ w32.cell? ⟨gb105, 1, none⟩ = some (.bool a1_1) ∧ w32.cell? ⟨gb105, 2, none⟩ = some (.int .i64 a1_2) ∧ w32.cell? ⟨gb105, 3, none⟩ = some (.int .u64 a1_3) ∧ w32.cell? ⟨gb105, 4, none⟩ = some (.string a1_4) ∧ w32.cell? ⟨gb105, 5, none⟩ = some (.string a1_5) ∧ w32.cell? ⟨gb105, 6, none⟩ = some (.string a1_6) ∧ w32.cell? ⟨gb105, 7, none⟩ = some (.string a1_7) ∧ w32.cell? ⟨gb105, 8, none⟩ = some (.string a1_8) := hS_
    refine norm_ (a' := ?_) ?_ ?_
    rotate_left
    · simp only [putAll, Act.put, List.setIfInBounds_toArray, List.set_cons_zero, List.set_cons_succ]
      rfl
    refine one_ (i := 7) (N := none) #[true, true, true, true, true, true, true, true] rfl rfl (one_of HT_.out (by kernel_rfl)) (by decide) (fun K hK => ?_)
    have hs33 : w32.cell? ⟨gb111, 0, none⟩ = some (.int .i64 0) := (blk_cell BK111.out 0).trans rfl
    have hfs33 := blk_frozen BK111.out 0
    have hns33_0 := NB104_111.out
    have hns33_1 := NB105_111.out
    have hns33_2 := NB109_111.out
    have hms33_0 := NB111_104.out
    have hms33_1 := NB111_105.out
    have hms33_2 := NB111_109.out
    have hs34 : w32.cell? ⟨gb111, 1, none⟩ = some (.bool false) := (blk_cell BK111.out 1).trans rfl
    have hfs34 := blk_frozen BK111.out 1
    have hns34_0 := NB104_111.out
    have hns34_1 := NB105_111.out
    have hns34_2 := NB109_111.out
    have hms34_0 := NB111_104.out
    have hms34_1 := NB111_105.out
    have hms34_2 := NB111_109.out
    have hs35 : w32.cell? ⟨gb111, 2, none⟩ = some (.int .i64 0) := (blk_cell BK111.out 2).trans rfl
    have hfs35 := blk_frozen BK111.out 2
    have hns35_0 := NB104_111.out
    have hns35_1 := NB105_111.out
    have hns35_2 := NB109_111.out
    have hms35_0 := NB111_104.out
    have hms35_1 := NB111_105.out
    have hms35_2 := NB111_109.out
    have hs36 : w32.cell? ⟨gb111, 3, none⟩ = some (.int .u64 0) := (blk_cell BK111.out 3).trans rfl
    have hfs36 := blk_frozen BK111.out 3
    have hns36_0 := NB104_111.out
    have hns36_1 := NB105_111.out
    have hns36_2 := NB109_111.out
    have hms36_0 := NB111_104.out
    have hms36_1 := NB111_105.out
    have hms36_2 := NB111_109.out
    have hs37 : w32.cell? ⟨gb111, 4, none⟩ = some (.string (⟨#[]⟩ : ByteArray)) := (blk_cell BK111.out 4).trans rfl
    have hfs37 := blk_frozen BK111.out 4
    have hns37_0 := NB104_111.out
    have hns37_1 := NB105_111.out
    have hns37_2 := NB109_111.out
    have hms37_0 := NB111_104.out
    have hms37_1 := NB111_105.out
    have hms37_2 := NB111_109.out
    have hs38 : w32.cell? ⟨gb111, 5, none⟩ = some (.string (⟨#[]⟩ : ByteArray)) := (blk_cell BK111.out 5).trans rfl
    have hfs38 := blk_frozen BK111.out 5
    have hns38_0 := NB104_111.out
    have hns38_1 := NB105_111.out
    have hns38_2 := NB109_111.out
    have hms38_0 := NB111_104.out
    have hms38_1 := NB111_105.out
    have hms38_2 := NB111_109.out
    have hs39 : w32.cell? ⟨gb111, 6, none⟩ = some (.string (⟨#[]⟩ : ByteArray)) := (blk_cell BK111.out 6).trans rfl
    have hfs39 := blk_frozen BK111.out 6
    have hns39_0 := NB104_111.out
    have hns39_1 := NB105_111.out
    have hns39_2 := NB109_111.out
    have hms39_0 := NB111_104.out
    have hms39_1 := NB111_105.out
    have hms39_2 := NB111_109.out
    have hs40 : w32.cell? ⟨gb111, 7, none⟩ = some (.string (⟨#[]⟩ : ByteArray)) := (blk_cell BK111.out 7).trans rfl
    have hfs40 := blk_frozen BK111.out 7
    have hns40_0 := NB104_111.out
    have hns40_1 := NB105_111.out
    have hns40_2 := NB109_111.out
    have hms40_0 := NB111_104.out
    have hms40_1 := NB111_105.out
    have hms40_2 := NB111_109.out
    have hs41 : w32.cell? ⟨gb111, 8, none⟩ = some (.string (⟨#[]⟩ : ByteArray)) := (blk_cell BK111.out 8).trans rfl
    have hfs41 := blk_frozen BK111.out 8
    have hns41_0 := NB104_111.out
    have hns41_1 := NB105_111.out
    have hns41_2 := NB109_111.out
    have hms41_0 := NB111_104.out
    have hms41_1 := NB111_105.out
    have hms41_2 := NB111_109.out
    refine skip_ (w1 := ?_) (by rfl) rfl ?_ ?_
    rotate_left
    · go_simp
      rfl
    refine hK.out _ _ ⟨((cell_far (p := ⟨gb111, _, none⟩) NB105_111.out _).trans (((cell_far (p := ⟨gb111, _, none⟩) NB105_111.out _).trans (((cell_far (p := ⟨gb111, _, none⟩) NB105_111.out _).trans (((cell_far (p := ⟨gb111, _, none⟩) NB105_111.out _).trans (((cell_far (p := ⟨gb111, _, none⟩) NB105_111.out _).trans (((cell_far (p := ⟨gb111, _, none⟩) NB105_111.out _).trans (((cell_far (p := ⟨gb111, _, none⟩) NB105_111.out _).trans (((cell_far (p := ⟨gb111, _, none⟩) NB105_111.out _).trans (((cell_far (p := ⟨gb111, _, none⟩) NB105_111.out _).trans (hHeld.1)))))))))))))))))), ((cell_far (p := ⟨gb111, _, none⟩) NB105_111.out _).trans (((cell_far (p := ⟨gb111, _, none⟩) NB105_111.out _).trans (((cell_far (p := ⟨gb111, _, none⟩) NB105_111.out _).trans (((cell_far (p := ⟨gb111, _, none⟩) NB105_111.out _).trans (((cell_far (p := ⟨gb111, _, none⟩) NB105_111.out _).trans (((cell_far (p := ⟨gb111, _, none⟩) NB105_111.out _).trans (((cell_far (p := ⟨gb111, _, none⟩) NB105_111.out _).trans (((cell_far (p := ⟨gb111, _, none⟩) NB105_111.out _).trans (((cell_far (p := ⟨gb111, _, none⟩) NB105_111.out _).trans (hHeld.2.1)))))))))))))))))), ((cell_far (p := ⟨gb111, _, none⟩) NB105_111.out _).trans (((cell_far (p := ⟨gb111, _, none⟩) NB105_111.out _).trans (((cell_far (p := ⟨gb111, _, none⟩) NB105_111.out _).trans (((cell_far (p := ⟨gb111, _, none⟩) NB105_111.out _).trans (((cell_far (p := ⟨gb111, _, none⟩) NB105_111.out _).trans (((cell_far (p := ⟨gb111, _, none⟩) NB105_111.out _).trans (((cell_far (p := ⟨gb111, _, none⟩) NB105_111.out _).trans (((cell_far (p := ⟨gb111, _, none⟩) NB105_111.out _).trans (((cell_far (p := ⟨gb111, _, none⟩) NB105_111.out _).trans (hHeld.2.2.1)))))))))))))))))), ((cell_far (p := ⟨gb111, _, none⟩) NB105_111.out _).trans (((cell_far (p := ⟨gb111, _, none⟩) NB105_111.out _).trans (((cell_far (p := ⟨gb111, _, none⟩) NB105_111.out _).trans (((cell_far (p := ⟨gb111, _, none⟩) NB105_111.out _).trans (((cell_far (p := ⟨gb111, _, none⟩) NB105_111.out _).trans (((cell_far (p := ⟨gb111, _, none⟩) NB105_111.out _).trans (((cell_far (p := ⟨gb111, _, none⟩) NB105_111.out _).trans (((cell_far (p := ⟨gb111, _, none⟩) NB105_111.out _).trans (((cell_far (p := ⟨gb111, _, none⟩) NB105_111.out _).trans (hHeld.2.2.2.1)))))))))))))))))), ((cell_far (p := ⟨gb111, _, none⟩) NB105_111.out _).trans (((cell_far (p := ⟨gb111, _, none⟩) NB105_111.out _).trans (((cell_far (p := ⟨gb111, _, none⟩) NB105_111.out _).trans (((cell_far (p := ⟨gb111, _, none⟩) NB105_111.out _).trans (((cell_far (p := ⟨gb111, _, none⟩) NB105_111.out _).trans (((cell_far (p := ⟨gb111, _, none⟩) NB105_111.out _).trans (((cell_far (p := ⟨gb111, _, none⟩) NB105_111.out _).trans (((cell_far (p := ⟨gb111, _, none⟩) NB105_111.out _).trans (((cell_far (p := ⟨gb111, _, none⟩) NB105_111.out _).trans (hHeld.2.2.2.2.1)))))))))))))))))), ((cell_far (p := ⟨gb111, _, none⟩) NB105_111.out _).trans (((cell_far (p := ⟨gb111, _, none⟩) NB105_111.out _).trans (((cell_far (p := ⟨gb111, _, none⟩) NB105_111.out _).trans (((cell_far (p := ⟨gb111, _, none⟩) NB105_111.out _).trans (((cell_far (p := ⟨gb111, _, none⟩) NB105_111.out _).trans (((cell_far (p := ⟨gb111, _, none⟩) NB105_111.out _).trans (((cell_far (p := ⟨gb111, _, none⟩) NB105_111.out _).trans (((cell_far (p := ⟨gb111, _, none⟩) NB105_111.out _).trans (((cell_far (p := ⟨gb111, _, none⟩) NB105_111.out _).trans (hHeld.2.2.2.2.2.1)))))))))))))))))), ((cell_far (p := ⟨gb111, _, none⟩) NB105_111.out _).trans (((cell_far (p := ⟨gb111, _, none⟩) NB105_111.out _).trans (((cell_far (p := ⟨gb111, _, none⟩) NB105_111.out _).trans (((cell_far (p := ⟨gb111, _, none⟩) NB105_111.out _).trans (((cell_far (p := ⟨gb111, _, none⟩) NB105_111.out _).trans (((cell_far (p := ⟨gb111, _, none⟩) NB105_111.out _).trans (((cell_far (p := ⟨gb111, _, none⟩) NB105_111.out _).trans (((cell_far (p := ⟨gb111, _, none⟩) NB105_111.out _).trans (((cell_far (p := ⟨gb111, _, none⟩) NB105_111.out _).trans (hHeld.2.2.2.2.2.2.1)))))))))))))))))), ((cell_far (p := ⟨gb111, _, none⟩) NB105_111.out _).trans (((cell_far (p := ⟨gb111, _, none⟩) NB105_111.out _).trans (((cell_far (p := ⟨gb111, _, none⟩) NB105_111.out _).trans (((cell_far (p := ⟨gb111, _, none⟩) NB105_111.out _).trans (((cell_far (p := ⟨gb111, _, none⟩) NB105_111.out _).trans (((cell_far (p := ⟨gb111, _, none⟩) NB105_111.out _).trans (((cell_far (p := ⟨gb111, _, none⟩) NB105_111.out _).trans (((cell_far (p := ⟨gb111, _, none⟩) NB105_111.out _).trans (((cell_far (p := ⟨gb111, _, none⟩) NB105_111.out _).trans (hHeld.2.2.2.2.2.2.2.1)))))))))))))))))), ((cell_far (p := ⟨gb111, _, none⟩) NB105_111.out _).trans (((cell_far (p := ⟨gb111, _, none⟩) NB105_111.out _).trans (((cell_far (p := ⟨gb111, _, none⟩) NB105_111.out _).trans (((cell_far (p := ⟨gb111, _, none⟩) NB105_111.out _).trans (((cell_far (p := ⟨gb111, _, none⟩) NB105_111.out _).trans (((cell_far (p := ⟨gb111, _, none⟩) NB105_111.out _).trans (((cell_far (p := ⟨gb111, _, none⟩) NB105_111.out _).trans (((cell_far (p := ⟨gb111, _, none⟩) NB105_111.out _).trans (((cell_far (p := ⟨gb111, _, none⟩) NB105_111.out _).trans (hHeld.2.2.2.2.2.2.2.2))))))))))))))))))⟩ (fun hHeld => ?_)
    clear hK K
    refine done_ (done_of HT_.out (by kernel_rfl)) ?_
    have hnb42 := NB109_104.out
    have hnc42 := NB104_109.out
    have hnb43 := NB109_105.out
    have hnc43 := NB105_109.out
    have hnb44 := NB109_111.out
    have hnc44 := NB111_109.out
    have hcz45_0 : w32.cell? ⟨gb109, 0, none⟩ = some (.int .i64 t108) := (blk_cell BK109.out 0).trans rfl
    have hcz45_1 : w32.cell? ⟨gb109, 1, none⟩ = some (.bool a0_1) := (blk_cell BK109.out 1).trans rfl
    have hcz45_2 : w32.cell? ⟨gb109, 2, none⟩ = some (.int .i64 a0_2) := (blk_cell BK109.out 2).trans rfl
    have hcz45_3 : w32.cell? ⟨gb109, 3, none⟩ = some (.int .u64 a0_3) := (blk_cell BK109.out 3).trans rfl
    have hcz45_4 : w32.cell? ⟨gb109, 4, none⟩ = some (.string a0_4) := (blk_cell BK109.out 4).trans rfl
    have hcz45_5 : w32.cell? ⟨gb109, 5, none⟩ = some (.string a0_5) := (blk_cell BK109.out 5).trans rfl
    have hcz45_6 : w32.cell? ⟨gb109, 6, none⟩ = some (.string a0_6) := (blk_cell BK109.out 6).trans rfl
    have hcz45_7 : w32.cell? ⟨gb109, 7, none⟩ = some (.string a0_7) := (blk_cell BK109.out 7).trans rfl
    have hcz45_8 : w32.cell? ⟨gb109, 8, none⟩ = some (.string a0_8) := (blk_cell BK109.out 8).trans rfl
    have hfz45_0 := blk_frozen BK109.out 0
    have hfz45_1 := blk_frozen BK109.out 1
    have hfz45_2 := blk_frozen BK109.out 2
    have hfz45_3 := blk_frozen BK109.out 3
    have hfz45_4 := blk_frozen BK109.out 4
    have hfz45_5 := blk_frozen BK109.out 5
    have hfz45_6 := blk_frozen BK109.out 6
    have hfz45_7 := blk_frozen BK109.out 7
    have hfz45_8 := blk_frozen BK109.out 8
    have hnb46 := NB111_104.out
    have hnc46 := NB104_111.out
    have hnb47 := NB111_105.out
    have hnc47 := NB105_111.out
    have hcz48_0 : w32.cell? ⟨gb111, 0, none⟩ = some (.int .i64 0) := (blk_cell BK111.out 0).trans rfl
    have hcz48_1 : w32.cell? ⟨gb111, 1, none⟩ = some (.bool false) := (blk_cell BK111.out 1).trans rfl
    have hcz48_2 : w32.cell? ⟨gb111, 2, none⟩ = some (.int .i64 0) := (blk_cell BK111.out 2).trans rfl
    have hcz48_3 : w32.cell? ⟨gb111, 3, none⟩ = some (.int .u64 0) := (blk_cell BK111.out 3).trans rfl
    have hcz48_4 : w32.cell? ⟨gb111, 4, none⟩ = some (.string (⟨#[]⟩ : ByteArray)) := (blk_cell BK111.out 4).trans rfl
    have hcz48_5 : w32.cell? ⟨gb111, 5, none⟩ = some (.string (⟨#[]⟩ : ByteArray)) := (blk_cell BK111.out 5).trans rfl
    have hcz48_6 : w32.cell? ⟨gb111, 6, none⟩ = some (.string (⟨#[]⟩ : ByteArray)) := (blk_cell BK111.out 6).trans rfl
    have hcz48_7 : w32.cell? ⟨gb111, 7, none⟩ = some (.string (⟨#[]⟩ : ByteArray)) := (blk_cell BK111.out 7).trans rfl
    have hcz48_8 : w32.cell? ⟨gb111, 8, none⟩ = some (.string (⟨#[]⟩ : ByteArray)) := (blk_cell BK111.out 8).trans rfl
    have hfz48_0 := blk_frozen BK111.out 0
    have hfz48_1 := blk_frozen BK111.out 1
    have hfz48_2 := blk_frozen BK111.out 2
    have hfz48_3 := blk_frozen BK111.out 3
    have hfz48_4 := blk_frozen BK111.out 4
    have hfz48_5 := blk_frozen BK111.out 5
    have hfz48_6 := blk_frozen BK111.out 6
    have hfz48_7 := blk_frozen BK111.out 7
    have hfz48_8 := blk_frozen BK111.out 8
    try go_wp2_with (first | ((with_reducible refine gate_callee (f := 7) rfl ?_); refine goesL_ (some 41) rfl rfl Try.func7 (by kernel_rfl) rfl #[.agg #[.int .i64 t108, .bool a0_1, .int .i64 a0_2, .int .u64 a0_3, .string a0_4, .string a0_5, .string a0_6, .string a0_7, .string a0_8], .agg #[.int .i64 t110, .bool a1_1, .int .i64 a1_2, .int .u64 a1_3, .string a1_4, .string a1_5, .string a1_6, .string a1_7, .string a1_8], .bool a2, .bool a3] rfl (by (try simp only [List.map_toArray, List.map_cons, List.map_nil]); first | done | rfl | (simp only [List.length_drop, List.length_take]; rfl)) ?_; (with_reducible refine (cofferref08_Choose.calls k t108 a0_1 a0_2 a0_3 a0_4 a0_5 a0_6 a0_7 a0_8 t110 a1_1 a1_2 a1_3 a1_4 a1_5 a1_6 a1_7 a1_8 a2 a3 t112 t113 _ A8.out).mono ?_); rintro e w49 ⟨rfl, hb⟩; refine ⟨_, rfl, ?_⟩; have n0_ := Aside0.mk (blk_below (g := gb104) (o := .cells #[.int .i64 a0_0, .bool a0_1, .int .i64 a0_2, .int .u64 a0_3, .string a0_4, .string a0_5, .string a0_6, .string a0_7, .string a0_8] 28 (0, 0)) (by (with_reducible repeat (first | refine blk_drewN ?_ _ | refine blk_drew ?_ | refine blk_alloc ?_ _)); refine blk_far ?_ NB104_111.out _; (with_reducible repeat (first | refine blk_drewN ?_ _ | refine blk_drew ?_ | refine blk_alloc ?_ _)); refine blk_far ?_ NB104_111.out _; (with_reducible repeat (first | refine blk_drewN ?_ _ | refine blk_drew ?_ | refine blk_alloc ?_ _)); refine blk_far ?_ NB104_111.out _; (with_reducible repeat (first | refine blk_drewN ?_ _ | refine blk_drew ?_ | refine blk_alloc ?_ _)); refine blk_far ?_ NB104_111.out _; (with_reducible repeat (first | refine blk_drewN ?_ _ | refine blk_drew ?_ | refine blk_alloc ?_ _)); refine blk_far ?_ NB104_111.out _; (with_reducible repeat (first | refine blk_drewN ?_ _ | refine blk_drew ?_ | refine blk_alloc ?_ _)); refine blk_far ?_ NB104_111.out _; (with_reducible repeat (first | refine blk_drewN ?_ _ | refine blk_drew ?_ | refine blk_alloc ?_ _)); refine blk_far ?_ NB104_111.out _; (with_reducible repeat (first | refine blk_drewN ?_ _ | refine blk_drew ?_ | refine blk_alloc ?_ _)); refine blk_far ?_ NB104_111.out _; (with_reducible repeat (first | refine blk_drewN ?_ _ | refine blk_drew ?_ | refine blk_alloc ?_ _)); refine blk_far ?_ NB104_111.out _; (with_reducible repeat (first | refine blk_drewN ?_ _ | refine blk_drew ?_ | refine blk_alloc ?_ _)); exact BK104.out) hb); have n1_ := Aside0.mk (blk_below (g := gb105) (o := .cells #[.int .i64 a1_0, .bool a1_1, .int .i64 a1_2, .int .u64 a1_3, .string a1_4, .string a1_5, .string a1_6, .string a1_7, .string a1_8] 28 (0, 0)) (by (with_reducible repeat (first | refine blk_drewN ?_ _ | refine blk_drew ?_ | refine blk_alloc ?_ _)); refine blk_far ?_ NB105_111.out _; (with_reducible repeat (first | refine blk_drewN ?_ _ | refine blk_drew ?_ | refine blk_alloc ?_ _)); refine blk_far ?_ NB105_111.out _; (with_reducible repeat (first | refine blk_drewN ?_ _ | refine blk_drew ?_ | refine blk_alloc ?_ _)); refine blk_far ?_ NB105_111.out _; (with_reducible repeat (first | refine blk_drewN ?_ _ | refine blk_drew ?_ | refine blk_alloc ?_ _)); refine blk_far ?_ NB105_111.out _; (with_reducible repeat (first | refine blk_drewN ?_ _ | refine blk_drew ?_ | refine blk_alloc ?_ _)); refine blk_far ?_ NB105_111.out _; (with_reducible repeat (first | refine blk_drewN ?_ _ | refine blk_drew ?_ | refine blk_alloc ?_ _)); refine blk_far ?_ NB105_111.out _; (with_reducible repeat (first | refine blk_drewN ?_ _ | refine blk_drew ?_ | refine blk_alloc ?_ _)); refine blk_far ?_ NB105_111.out _; (with_reducible repeat (first | refine blk_drewN ?_ _ | refine blk_drew ?_ | refine blk_alloc ?_ _)); refine blk_far ?_ NB105_111.out _; (with_reducible repeat (first | refine blk_drewN ?_ _ | refine blk_drew ?_ | refine blk_alloc ?_ _)); refine blk_far ?_ NB105_111.out _; (with_reducible repeat (first | refine blk_drewN ?_ _ | refine blk_drew ?_ | refine blk_alloc ?_ _)); exact BK105.out) hb); have n2_ := Aside0.mk (blk_below (g := gb109) (o := .cells #[.int .i64 t108, .bool a0_1, .int .i64 a0_2, .int .u64 a0_3, .string a0_4, .string a0_5, .string a0_6, .string a0_7, .string a0_8] 35 (0, 0)) (by (with_reducible repeat (first | refine blk_drewN ?_ _ | refine blk_drew ?_ | refine blk_alloc ?_ _)); refine blk_far ?_ NB109_111.out _; (with_reducible repeat (first | refine blk_drewN ?_ _ | refine blk_drew ?_ | refine blk_alloc ?_ _)); refine blk_far ?_ NB109_111.out _; (with_reducible repeat (first | refine blk_drewN ?_ _ | refine blk_drew ?_ | refine blk_alloc ?_ _)); refine blk_far ?_ NB109_111.out _; (with_reducible repeat (first | refine blk_drewN ?_ _ | refine blk_drew ?_ | refine blk_alloc ?_ _)); refine blk_far ?_ NB109_111.out _; (with_reducible repeat (first | refine blk_drewN ?_ _ | refine blk_drew ?_ | refine blk_alloc ?_ _)); refine blk_far ?_ NB109_111.out _; (with_reducible repeat (first | refine blk_drewN ?_ _ | refine blk_drew ?_ | refine blk_alloc ?_ _)); refine blk_far ?_ NB109_111.out _; (with_reducible repeat (first | refine blk_drewN ?_ _ | refine blk_drew ?_ | refine blk_alloc ?_ _)); refine blk_far ?_ NB109_111.out _; (with_reducible repeat (first | refine blk_drewN ?_ _ | refine blk_drew ?_ | refine blk_alloc ?_ _)); refine blk_far ?_ NB109_111.out _; (with_reducible repeat (first | refine blk_drewN ?_ _ | refine blk_drew ?_ | refine blk_alloc ?_ _)); refine blk_far ?_ NB109_111.out _; (with_reducible repeat (first | refine blk_drewN ?_ _ | refine blk_drew ?_ | refine blk_alloc ?_ _)); exact BK109.out) hb); have n3_ := Aside0.mk (blk_below (g := gb111) (o := .cells #[.int .i64 t110, .bool a1_1, .int .i64 a1_2, .int .u64 a1_3, .string a1_4, .string a1_5, .string a1_6, .string a1_7, .string a1_8] 35 (0, 0)) (by (with_reducible repeat (first | refine blk_drewN ?_ _ | refine blk_drew ?_ | refine blk_alloc ?_ _)); refine blk_put (cs := #[.int .i64 t110, .bool a1_1, .int .i64 a1_2, .int .u64 a1_3, .string a1_4, .string a1_5, .string a1_6, .string a1_7, .string (⟨#[]⟩ : ByteArray)]) ?_ 8 _ rfl; (with_reducible repeat (first | refine blk_drewN ?_ _ | refine blk_drew ?_ | refine blk_alloc ?_ _)); refine blk_put (cs := #[.int .i64 t110, .bool a1_1, .int .i64 a1_2, .int .u64 a1_3, .string a1_4, .string a1_5, .string a1_6, .string (⟨#[]⟩ : ByteArray), .string (⟨#[]⟩ : ByteArray)]) ?_ 7 _ rfl; (with_reducible repeat (first | refine blk_drewN ?_ _ | refine blk_drew ?_ | refine blk_alloc ?_ _)); refine blk_put (cs := #[.int .i64 t110, .bool a1_1, .int .i64 a1_2, .int .u64 a1_3, .string a1_4, .string a1_5, .string (⟨#[]⟩ : ByteArray), .string (⟨#[]⟩ : ByteArray), .string (⟨#[]⟩ : ByteArray)]) ?_ 6 _ rfl; (with_reducible repeat (first | refine blk_drewN ?_ _ | refine blk_drew ?_ | refine blk_alloc ?_ _)); refine blk_put (cs := #[.int .i64 t110, .bool a1_1, .int .i64 a1_2, .int .u64 a1_3, .string a1_4, .string (⟨#[]⟩ : ByteArray), .string (⟨#[]⟩ : ByteArray), .string (⟨#[]⟩ : ByteArray), .string (⟨#[]⟩ : ByteArray)]) ?_ 5 _ rfl; (with_reducible repeat (first | refine blk_drewN ?_ _ | refine blk_drew ?_ | refine blk_alloc ?_ _)); refine blk_put (cs := #[.int .i64 t110, .bool a1_1, .int .i64 a1_2, .int .u64 a1_3, .string (⟨#[]⟩ : ByteArray), .string (⟨#[]⟩ : ByteArray), .string (⟨#[]⟩ : ByteArray), .string (⟨#[]⟩ : ByteArray), .string (⟨#[]⟩ : ByteArray)]) ?_ 4 _ rfl; (with_reducible repeat (first | refine blk_drewN ?_ _ | refine blk_drew ?_ | refine blk_alloc ?_ _)); refine blk_put (cs := #[.int .i64 t110, .bool a1_1, .int .i64 a1_2, .int .u64 0, .string (⟨#[]⟩ : ByteArray), .string (⟨#[]⟩ : ByteArray), .string (⟨#[]⟩ : ByteArray), .string (⟨#[]⟩ : ByteArray), .string (⟨#[]⟩ : ByteArray)]) ?_ 3 _ rfl; (with_reducible repeat (first | refine blk_drewN ?_ _ | refine blk_drew ?_ | refine blk_alloc ?_ _)); refine blk_put (cs := #[.int .i64 t110, .bool a1_1, .int .i64 0, .int .u64 0, .string (⟨#[]⟩ : ByteArray), .string (⟨#[]⟩ : ByteArray), .string (⟨#[]⟩ : ByteArray), .string (⟨#[]⟩ : ByteArray), .string (⟨#[]⟩ : ByteArray)]) ?_ 2 _ rfl; (with_reducible repeat (first | refine blk_drewN ?_ _ | refine blk_drew ?_ | refine blk_alloc ?_ _)); refine blk_put (cs := #[.int .i64 t110, .bool false, .int .i64 0, .int .u64 0, .string (⟨#[]⟩ : ByteArray), .string (⟨#[]⟩ : ByteArray), .string (⟨#[]⟩ : ByteArray), .string (⟨#[]⟩ : ByteArray), .string (⟨#[]⟩ : ByteArray)]) ?_ 1 _ rfl; (with_reducible repeat (first | refine blk_drewN ?_ _ | refine blk_drew ?_ | refine blk_alloc ?_ _)); refine blk_put (cs := #[.int .i64 0, .bool false, .int .i64 0, .int .u64 0, .string (⟨#[]⟩ : ByteArray), .string (⟨#[]⟩ : ByteArray), .string (⟨#[]⟩ : ByteArray), .string (⟨#[]⟩ : ByteArray), .string (⟨#[]⟩ : ByteArray)]) ?_ 0 _ rfl; (with_reducible repeat (first | refine blk_drewN ?_ _ | refine blk_drew ?_ | refine blk_alloc ?_ _)); exact BK111.out) hb); have n4_ := Aside0.mk (below_step (by repeat (first | (with_reducible first | exact HB.out | apply below_alloc | apply pw_below_drewN | apply below_drew1 | refine below_set ?_ GE104.out | refine below_set ?_ GE105.out | refine below_set ?_ GE109.out | refine below_set ?_ GE111.out) | exact HB.out)) hb); clear BK104; clear BK105; clear BK109; clear BK111; clear HB; have BK104 := n0_; have BK105 := n1_; have BK109 := n2_; have BK111 := n3_; have HB := n4_; clear n0_ n1_ n2_ n3_ n4_; (try clear hb); (try clear hb2); (try clear hk); (try clear hi)) | (go_at_call 6; (with_reducible refine (cofferlaw08_num.calls t107 t114 _ A10.out).mono ?_); rintro e w' ⟨rfl, ⟨nd, rfl⟩⟩))
    go_ret
    exact ⟨by first | rfl | (simp [errW_none, errW_some] <;> rfl) | (simp [*, errW_none, errW_some] <;> rfl), by repeat (first | (with_reducible first | exact HB.out | apply below_alloc | apply pw_below_drewN | apply below_drew1 | refine below_set ?_ GE104.out | refine below_set ?_ GE105.out | refine below_set ?_ GE109.out | refine below_set ?_ GE111.out) | exact HB.out)⟩
  · rw [if_neg c9] at H
    have c9b0 : (t106 == t112) = false := beq_eq_false_iff_ne.mpr c9
    have c9b1 : (t106 != t112) = true := bne_iff_ne.mpr c9
    obtain rfl := Option.some.inj H
    go_enter Try.func4, Try.ntmps4
    try go_wp2_with (first | ((with_reducible refine gate_dst (N := 4) rfl ?_); refine box_event ?hg (N := 4) ?hd (cs := #[.int .i64 a0_0, .bool a0_1, .int .i64 a0_2, .int .u64 a0_3, .string a0_4, .string a0_5, .string a0_6, .string a0_7, .string a0_8]) (t := 28) ?hr ?_; (case hd => rfl); (case hg => rfl); (case hr => first | (go_simp; done) | (go_simp; rfl)); intro gb104 hg w50 hbox hb; have n0_ := Aside0.mk (below_step (by repeat (first | (with_reducible first | exact HB.out | apply below_alloc | apply pw_below_drewN | apply below_drew1) | exact HB.out)) hb); have n1_ := Aside0.mk (hbox); have n2_ := Aside0.mk ((by rw [hg]; exact (below_size (by repeat (first | (with_reducible first | exact HB.out | apply below_alloc | apply pw_below_drewN | apply below_drew1) | exact HB.out))) : w.heap.size ≤ gb104)); have n3_ := Aside0.mk ((by rw [hg]; exact (below_size (by repeat (first | (with_reducible first | exact HB.out | apply below_alloc | apply pw_below_drewN | apply below_drew1) | exact HB.out))) : w.heap.size ≤ gb104)); clear HB; have HB := n0_; have BK104 := n1_; have GW104 := n2_; have GE104 := n3_; clear n0_ n1_ n2_ n3_; clear hb hbox hg) | ((with_reducible refine gate_dst (N := 5) rfl ?_); refine box_event ?hg (N := 5) ?hd (cs := #[.int .i64 a1_0, .bool a1_1, .int .i64 a1_2, .int .u64 a1_3, .string a1_4, .string a1_5, .string a1_6, .string a1_7, .string a1_8]) (t := 28) ?hr ?_; (case hd => rfl); (case hg => rfl); (case hr => first | (go_simp; done) | (go_simp; rfl)); intro gb105 hg w51 hbox hb; have n0_ := Aside0.mk (blk_below (g := gb104) (o := .cells #[.int .i64 a0_0, .bool a0_1, .int .i64 a0_2, .int .u64 a0_3, .string a0_4, .string a0_5, .string a0_6, .string a0_7, .string a0_8] 28 (0, 0)) (by (with_reducible repeat (first | refine blk_drewN ?_ _ | refine blk_drew ?_ | refine blk_alloc ?_ _)); exact BK104.out) hb); have n1_ := Aside0.mk (below_step (by repeat (first | (with_reducible first | exact HB.out | apply below_alloc | apply pw_below_drewN | apply below_drew1 | refine below_set ?_ GE104.out) | exact HB.out)) hb); have n2_ := Aside0.mk (hbox); have n3_ := Aside0.mk ((by rw [hg]; exact (below_size (by repeat (first | (with_reducible first | exact HB.out | apply below_alloc | apply pw_below_drewN | apply below_drew1 | refine below_set ?_ GE104.out) | exact HB.out))) : w.heap.size ≤ gb105)); have n4_ := Aside0.mk ((by rw [hg]; exact (below_size (by repeat (first | (with_reducible first | exact HB.out | apply below_alloc | apply pw_below_drewN | apply below_drew1 | refine below_set ?_ GE104.out) | exact HB.out))) : w.heap.size ≤ gb105)); have n5_ := Aside0.mk ((by rw [hg]; exact Nat.ne_of_lt (blk_lt (g := gb104) (o := .cells #[.int .i64 a0_0, .bool a0_1, .int .i64 a0_2, .int .u64 a0_3, .string a0_4, .string a0_5, .string a0_6, .string a0_7, .string a0_8] 28 (0, 0)) (by (with_reducible repeat (first | refine blk_drewN ?_ _ | refine blk_drew ?_ | refine blk_alloc ?_ _)); exact BK104.out)) : gb104 ≠ gb105)); have n6_ := Aside0.mk ((by rw [hg]; exact Nat.ne_of_gt (blk_lt (g := gb104) (o := .cells #[.int .i64 a0_0, .bool a0_1, .int .i64 a0_2, .int .u64 a0_3, .string a0_4, .string a0_5, .string a0_6, .string a0_7, .string a0_8] 28 (0, 0)) (by (with_reducible repeat (first | refine blk_drewN ?_ _ | refine blk_drew ?_ | refine blk_alloc ?_ _)); exact BK104.out)) : gb105 ≠ gb104)); clear BK104; clear HB; have BK104 := n0_; have HB := n1_; have BK105 := n2_; have GW105 := n3_; have GE105 := n4_; have NB104_105 := n5_; have NB105_104 := n6_; clear n0_ n1_ n2_ n3_ n4_ n5_ n6_; clear hb hbox hg; have hnb52 := NB104_105.out; have hnc52 := NB105_104.out; have hcz53_0 : w51.cell? ⟨gb104, 0, none⟩ = some (.int .i64 a0_0) := (blk_cell BK104.out 0).trans rfl; have hcz53_1 : w51.cell? ⟨gb104, 1, none⟩ = some (.bool a0_1) := (blk_cell BK104.out 1).trans rfl; have hcz53_2 : w51.cell? ⟨gb104, 2, none⟩ = some (.int .i64 a0_2) := (blk_cell BK104.out 2).trans rfl; have hcz53_3 : w51.cell? ⟨gb104, 3, none⟩ = some (.int .u64 a0_3) := (blk_cell BK104.out 3).trans rfl; have hcz53_4 : w51.cell? ⟨gb104, 4, none⟩ = some (.string a0_4) := (blk_cell BK104.out 4).trans rfl; have hcz53_5 : w51.cell? ⟨gb104, 5, none⟩ = some (.string a0_5) := (blk_cell BK104.out 5).trans rfl; have hcz53_6 : w51.cell? ⟨gb104, 6, none⟩ = some (.string a0_6) := (blk_cell BK104.out 6).trans rfl; have hcz53_7 : w51.cell? ⟨gb104, 7, none⟩ = some (.string a0_7) := (blk_cell BK104.out 7).trans rfl; have hcz53_8 : w51.cell? ⟨gb104, 8, none⟩ = some (.string a0_8) := (blk_cell BK104.out 8).trans rfl; have hfz53_0 := blk_frozen BK104.out 0; have hfz53_1 := blk_frozen BK104.out 1; have hfz53_2 := blk_frozen BK104.out 2; have hfz53_3 := blk_frozen BK104.out 3; have hfz53_4 := blk_frozen BK104.out 4; have hfz53_5 := blk_frozen BK104.out 5; have hfz53_6 := blk_frozen BK104.out 6; have hfz53_7 := blk_frozen BK104.out 7; have hfz53_8 := blk_frozen BK104.out 8; have hcz54_0 : w51.cell? ⟨gb105, 0, none⟩ = some (.int .i64 a1_0) := (blk_cell BK105.out 0).trans rfl; have hcz54_1 : w51.cell? ⟨gb105, 1, none⟩ = some (.bool a1_1) := (blk_cell BK105.out 1).trans rfl; have hcz54_2 : w51.cell? ⟨gb105, 2, none⟩ = some (.int .i64 a1_2) := (blk_cell BK105.out 2).trans rfl; have hcz54_3 : w51.cell? ⟨gb105, 3, none⟩ = some (.int .u64 a1_3) := (blk_cell BK105.out 3).trans rfl; have hcz54_4 : w51.cell? ⟨gb105, 4, none⟩ = some (.string a1_4) := (blk_cell BK105.out 4).trans rfl; have hcz54_5 : w51.cell? ⟨gb105, 5, none⟩ = some (.string a1_5) := (blk_cell BK105.out 5).trans rfl; have hcz54_6 : w51.cell? ⟨gb105, 6, none⟩ = some (.string a1_6) := (blk_cell BK105.out 6).trans rfl; have hcz54_7 : w51.cell? ⟨gb105, 7, none⟩ = some (.string a1_7) := (blk_cell BK105.out 7).trans rfl; have hcz54_8 : w51.cell? ⟨gb105, 8, none⟩ = some (.string a1_8) := (blk_cell BK105.out 8).trans rfl; have hfz54_0 := blk_frozen BK105.out 0; have hfz54_1 := blk_frozen BK105.out 1; have hfz54_2 := blk_frozen BK105.out 2; have hfz54_3 := blk_frozen BK105.out 3; have hfz54_4 := blk_frozen BK105.out 4; have hfz54_5 := blk_frozen BK105.out 5; have hfz54_6 := blk_frozen BK105.out 6; have hfz54_7 := blk_frozen BK105.out 7; have hfz54_8 := blk_frozen BK105.out 8) | ((with_reducible refine gate_callee (f := 5) rfl ?_); refine goesL_ (some 21) rfl rfl Try.func5 (by kernel_rfl) rfl #[.agg #[.int .i64 a0_0, .bool a0_1, .int .i64 a0_2, .int .u64 a0_3, .string a0_4, .string a0_5, .string a0_6, .string a0_7, .string a0_8, .int .i64 a1_0, .bool a1_1, .int .i64 a1_2, .int .u64 a1_3, .string a1_4, .string a1_5, .string a1_6, .string a1_7, .string a1_8], .bool a2, .bool a3] rfl (by (try simp only [List.map_toArray, List.map_cons, List.map_nil]); first | done | rfl | (simp only [List.length_drop, List.length_take]; rfl)) ?_; (with_reducible refine (header_Choose.calls k a0_0 a0_1 a0_2 a0_3 a0_4 a0_5 a0_6 a0_7 a0_8 a1_0 a1_1 a1_2 a1_3 a1_4 a1_5 a1_6 a1_7 a1_8 a2 a3 t106 t107 _ A5.out).mono ?_); rintro e w55 ⟨rfl, hb⟩; refine ⟨_, rfl, ?_⟩; have n0_ := Aside0.mk (blk_below (g := gb104) (o := .cells #[.int .i64 a0_0, .bool a0_1, .int .i64 a0_2, .int .u64 a0_3, .string a0_4, .string a0_5, .string a0_6, .string a0_7, .string a0_8] 28 (0, 0)) (by (with_reducible repeat (first | refine blk_drewN ?_ _ | refine blk_drew ?_ | refine blk_alloc ?_ _)); exact BK104.out) hb); have n1_ := Aside0.mk (blk_below (g := gb105) (o := .cells #[.int .i64 a1_0, .bool a1_1, .int .i64 a1_2, .int .u64 a1_3, .string a1_4, .string a1_5, .string a1_6, .string a1_7, .string a1_8] 28 (0, 0)) (by (with_reducible repeat (first | refine blk_drewN ?_ _ | refine blk_drew ?_ | refine blk_alloc ?_ _)); exact BK105.out) hb); have n2_ := Aside0.mk (below_step (by repeat (first | (with_reducible first | exact HB.out | apply below_alloc | apply pw_below_drewN | apply below_drew1 | refine below_set ?_ GE104.out | refine below_set ?_ GE105.out) | exact HB.out)) hb); clear BK104; clear BK105; clear HB; have BK104 := n0_; have BK105 := n1_; have HB := n2_; clear n0_ n1_ n2_; (try clear hb); (try clear hb2); (try clear hk); (try clear hi)))
    have n0_ := Aside0.mk (blk_drew BK104.out)
    have n1_ := Aside0.mk (blk_drew BK105.out)
    have n2_ := Aside0.mk (below_drew1 HB.out)
    clear BK104
    clear BK105
    clear HB
    have BK104 := n0_
    have BK105 := n1_
    have HB := n2_
    clear n0_ n1_ n2_
    refine start_ (n := 8) (S := fun w' => w'.cell? ⟨gb104, 0, none⟩ = some (.int .i64 a0_0) ∧ w'.cell? ⟨gb104, 1, none⟩ = some (.bool a0_1) ∧ w'.cell? ⟨gb104, 2, none⟩ = some (.int .i64 a0_2) ∧ w'.cell? ⟨gb104, 3, none⟩ = some (.int .u64 a0_3) ∧ w'.cell? ⟨gb104, 4, none⟩ = some (.string a0_4) ∧ w'.cell? ⟨gb104, 5, none⟩ = some (.string a0_5) ∧ w'.cell? ⟨gb104, 6, none⟩ = some (.string a0_6) ∧ w'.cell? ⟨gb104, 7, none⟩ = some (.string a0_7) ∧ w'.cell? ⟨gb104, 8, none⟩ = some (.string a0_8)) (ds := []) #[false, false, false, false, false, false, false, false] (by kernel_rfl) rfl rfl ⟨(blk_cell BK104.out 0).trans rfl, (blk_cell BK104.out 1).trans rfl, (blk_cell BK104.out 2).trans rfl, (blk_cell BK104.out 3).trans rfl, (blk_cell BK104.out 4).trans rfl, (blk_cell BK104.out 5).trans rfl, (blk_cell BK104.out 6).trans rfl, (blk_cell BK104.out 7).trans rfl, (blk_cell BK104.out 8).trans rfl⟩ (fun hHeld => ?_); refine with_tabW cofferlaw08_HeaderChooses.tab2 cofferlaw08_HeaderChooses.bits2 (fun HT_ HW_ => ?_)
    generalize w55.drew = w56 at BK104 BK105 HB hHeld ⊢
    refine pure_ (i := 0) (N := some 24) (v := ?_) (a' := ?_) #[true, false, false, false, false, false, false, false] rfl rfl (any_of HT_.out (by kernel_rfl)) (fun _ _ _ h => h) (Or.inl ⟨by rfl, ?_⟩) ?_ ?_
    rotate_left
    · intro w'
      go_simp
      with_reducible rfl
    rotate_left
    · simp only [Act.put, List.setIfInBounds_toArray, List.set_cons_zero, List.set_cons_succ, i64_w, i32_w]
      rfl
    refine pure_ (i := 3) (N := some 27) (v := ?_) (a' := ?_) #[true, false, false, true, false, false, false, false] rfl rfl (any_of HT_.out (by kernel_rfl)) (fun _ _ _ h => h) (Or.inl ⟨by rfl, ?_⟩) ?_ ?_
    rotate_left
    · intro w'
      go_simp
      with_reducible rfl
    rotate_left
    · simp only [Act.put, List.setIfInBounds_toArray, List.set_cons_zero, List.set_cons_succ, i64_w, i32_w]
      rfl
    refine take_ (i := 1) (N := some 25) (v := ?_) (a' := ?_) #[true, true, false, true, false, false, false, false] rfl rfl (take_ofW HT_.out HW_.out (by kernel_rfl)) (fun _ _ _ h => h) (Or.inl ⟨by rfl, ?_⟩) hHeld ?_ ?_
    rotate_left
    · rintro w' ⟨s0, s1, s2, s3, s4, s5, s6, s7, s8⟩
      go_simp
      with_reducible rfl
    rotate_left
    · simp only [Act.put, List.setIfInBounds_toArray, List.set_cons_zero, List.set_cons_succ, i64_w, i32_w]
      rfl
    refine take_ (i := 4) (N := some 28) (v := ?_) (a' := ?_) #[true, true, false, true, true, false, false, false] rfl rfl (take_ofW HT_.out HW_.out (by kernel_rfl)) (fun _ _ _ h => h) (Or.inl ⟨by rfl, ?_⟩) hHeld ?_ ?_
    rotate_left
    · rintro w' ⟨s0, s1, s2, s3, s4, s5, s6, s7, s8⟩
      go_simp
      with_reducible rfl
    rotate_left
    · simp only [Act.put, List.setIfInBounds_toArray, List.set_cons_zero, List.set_cons_succ, i64_w, i32_w]
      rfl
    refine join_ (σ := Nat) 1 #[true, true, true, true, true, true, true, false] (fun s_ => [(26, .int .i64 t108), (11, .pointer (some ⟨s_, 0, none⟩)), (29, .agg #[.int .i64 t108, .bool a0_1, .int .i64 a0_2, .int .u64 a0_3, .string a0_4, .string a0_5, .string a0_6, .string a0_7, .string a0_8])]) (fun s_ w' => (w'.cell? ⟨gb104, 0, none⟩ = some (.int .i64 a0_0) ∧ w'.cell? ⟨gb104, 1, none⟩ = some (.bool a0_1) ∧ w'.cell? ⟨gb104, 2, none⟩ = some (.int .i64 a0_2) ∧ w'.cell? ⟨gb104, 3, none⟩ = some (.int .u64 a0_3) ∧ w'.cell? ⟨gb104, 4, none⟩ = some (.string a0_4) ∧ w'.cell? ⟨gb104, 5, none⟩ = some (.string a0_5) ∧ w'.cell? ⟨gb104, 6, none⟩ = some (.string a0_6) ∧ w'.cell? ⟨gb104, 7, none⟩ = some (.string a0_7) ∧ w'.cell? ⟨gb104, 8, none⟩ = some (.string a0_8)) ∧ (w'.heap[gb104]? = some (.cells #[.int .i64 a0_0, .bool a0_1, .int .i64 a0_2, .int .u64 a0_3, .string a0_4, .string a0_5, .string a0_6, .string a0_7, .string a0_8] 28 (0, 0))) ∧ (w'.heap[gb105]? = some (.cells #[.int .i64 a1_0, .bool a1_1, .int .i64 a1_2, .int .u64 a1_3, .string a1_4, .string a1_5, .string a1_6, .string a1_7, .string a1_8] 28 (0, 0))) ∧ (w'.heap[s_]? = some (.cells #[.int .i64 0, .bool false, .int .i64 0, .int .u64 0, .string (⟨#[]⟩ : ByteArray), .string (⟨#[]⟩ : ByteArray), .string (⟨#[]⟩ : ByteArray), .string (⟨#[]⟩ : ByteArray), .string (⟨#[]⟩ : ByteArray)] 35 (0, 0))) ∧ (w.heap.size ≤ s_) ∧ (w.heap.size ≤ s_) ∧ (gb104 ≠ s_) ∧ (s_ ≠ gb104) ∧ (gb105 ≠ s_) ∧ (s_ ≠ gb105) ∧ (Below w.heap.size w w')) ?_ ?_
    rotate_left
    · intro hCont
      refine two_ (i := 2) (j := 6) (Ni := some 26) (Nj := some 11) #[true, true, true, true, true, false, false, false] #[true, true, false, true, true, false, true, false] rfl rfl rfl rfl (two_of HT_.out (by kernel_rfl)) (by decide) (by decide) (fun K hK => ?_) (fun K hK => ?_)
      · skip
        refine goes_ Try.func6 (by kernel_rfl) rfl #[.int .i64 a0_0] (by rfl) rfl rfl (by (try simp only [List.map_toArray, List.map_cons, List.map_nil]); first | done | rfl | (simp only [List.length_drop, List.length_take]; rfl)) ?_
        with_reducible refine (cofferlaw08_num.calls a0_0 t108 _ A6.out).mono ?_
        rintro e w' ⟨rfl, ⟨nd, rfl⟩⟩
        refine ⟨_, rfl, ?_⟩
        refine hK.out _ _ ⟨(blk_cell BK104.out 0).trans rfl, (blk_cell BK104.out 1).trans rfl, (blk_cell BK104.out 2).trans rfl, (blk_cell BK104.out 3).trans rfl, (blk_cell BK104.out 4).trans rfl, (blk_cell BK104.out 5).trans rfl, (blk_cell BK104.out 6).trans rfl, (blk_cell BK104.out 7).trans rfl, (blk_cell BK104.out 8).trans rfl⟩ (fun hHeld => ?_)
        clear hK K
        refine norm_ (a' := ?_) ?_ ?_
        rotate_left
        · show Act.put _ (some 26) _ = _
          simp only [Act.put, List.setIfInBounds_toArray, List.set_cons_zero, List.set_cons_succ, i64_w, i32_w]
          rfl
        refine pure_ (i := 5) (N := some 29) (v := ?_) (a' := ?_) #[true, true, true, true, true, true, false, false] rfl rfl (any_of HT_.out (by kernel_rfl)) (fun _ _ _ h => h) (Or.inl ⟨by rfl, ?_⟩) ?_ ?_
        rotate_left
        · intro w'
          go_simp
          with_reducible rfl
        rotate_left
        · simp only [Act.put, List.setIfInBounds_toArray, List.set_cons_zero, List.set_cons_succ, i64_w, i32_w]
          rfl
        refine one_ (i := 6) (N := some 11) #[true, true, true, true, true, true, true, false] rfl rfl (one_of HT_.out (by kernel_rfl)) (by decide) (fun K hK => ?_)
        refine box_step ?hg (N := 11) ?hd (cs := #[.int .i64 0, .bool false, .int .i64 0, .int .u64 0, .string (⟨#[]⟩ : ByteArray), .string (⟨#[]⟩ : ByteArray), .string (⟨#[]⟩ : ByteArray), .string (⟨#[]⟩ : ByteArray), .string (⟨#[]⟩ : ByteArray)]) (t := 35) ?hr ?_; (case hd => rfl); (case hg => rfl); (case hr => first | (go_simp; done) | (go_simp; rfl))
        intro gb109 hg w57 hbox hb
        have n0_ := Aside0.mk (blk_below (g := gb104) (o := .cells #[.int .i64 a0_0, .bool a0_1, .int .i64 a0_2, .int .u64 a0_3, .string a0_4, .string a0_5, .string a0_6, .string a0_7, .string a0_8] 28 (0, 0)) (by (with_reducible repeat (first | refine blk_drewN ?_ _ | refine blk_drew ?_ | refine blk_alloc ?_ _)); exact BK104.out) hb)
        have n1_ := Aside0.mk (blk_below (g := gb105) (o := .cells #[.int .i64 a1_0, .bool a1_1, .int .i64 a1_2, .int .u64 a1_3, .string a1_4, .string a1_5, .string a1_6, .string a1_7, .string a1_8] 28 (0, 0)) (by (with_reducible repeat (first | refine blk_drewN ?_ _ | refine blk_drew ?_ | refine blk_alloc ?_ _)); exact BK105.out) hb)
        have n2_ := Aside0.mk (below_step (by repeat (first | (with_reducible first | exact HB.out | apply below_alloc | apply pw_below_drewN | apply below_drew1 | refine below_set ?_ GE104.out | refine below_set ?_ GE105.out) | exact HB.out)) hb)
        have n3_ := Aside0.mk (hbox)
        have n4_ := Aside0.mk ((by rw [hg]; exact (below_size (by repeat (first | (with_reducible first | exact HB.out | apply below_alloc | apply pw_below_drewN | apply below_drew1 | refine below_set ?_ GE104.out | refine below_set ?_ GE105.out) | exact HB.out))) : w.heap.size ≤ gb109))
        have n5_ := Aside0.mk ((by rw [hg]; exact (below_size (by repeat (first | (with_reducible first | exact HB.out | apply below_alloc | apply pw_below_drewN | apply below_drew1 | refine below_set ?_ GE104.out | refine below_set ?_ GE105.out) | exact HB.out))) : w.heap.size ≤ gb109))
        have n6_ := Aside0.mk ((by rw [hg]; exact Nat.ne_of_lt (blk_lt (g := gb104) (o := .cells #[.int .i64 a0_0, .bool a0_1, .int .i64 a0_2, .int .u64 a0_3, .string a0_4, .string a0_5, .string a0_6, .string a0_7, .string a0_8] 28 (0, 0)) (by (with_reducible repeat (first | refine blk_drewN ?_ _ | refine blk_drew ?_ | refine blk_alloc ?_ _)); exact BK104.out)) : gb104 ≠ gb109))
        have n7_ := Aside0.mk ((by rw [hg]; exact Nat.ne_of_gt (blk_lt (g := gb104) (o := .cells #[.int .i64 a0_0, .bool a0_1, .int .i64 a0_2, .int .u64 a0_3, .string a0_4, .string a0_5, .string a0_6, .string a0_7, .string a0_8] 28 (0, 0)) (by (with_reducible repeat (first | refine blk_drewN ?_ _ | refine blk_drew ?_ | refine blk_alloc ?_ _)); exact BK104.out)) : gb109 ≠ gb104))
        have n8_ := Aside0.mk ((by rw [hg]; exact Nat.ne_of_lt (blk_lt (g := gb105) (o := .cells #[.int .i64 a1_0, .bool a1_1, .int .i64 a1_2, .int .u64 a1_3, .string a1_4, .string a1_5, .string a1_6, .string a1_7, .string a1_8] 28 (0, 0)) (by (with_reducible repeat (first | refine blk_drewN ?_ _ | refine blk_drew ?_ | refine blk_alloc ?_ _)); exact BK105.out)) : gb105 ≠ gb109))
        have n9_ := Aside0.mk ((by rw [hg]; exact Nat.ne_of_gt (blk_lt (g := gb105) (o := .cells #[.int .i64 a1_0, .bool a1_1, .int .i64 a1_2, .int .u64 a1_3, .string a1_4, .string a1_5, .string a1_6, .string a1_7, .string a1_8] 28 (0, 0)) (by (with_reducible repeat (first | refine blk_drewN ?_ _ | refine blk_drew ?_ | refine blk_alloc ?_ _)); exact BK105.out)) : gb109 ≠ gb105))
        clear BK104
        clear BK105
        clear HB
        have BK104 := n0_
        have BK105 := n1_
        have HB := n2_
        have BK109 := n3_
        have GW109 := n4_
        have GE109 := n5_
        have NB104_109 := n6_
        have NB109_104 := n7_
        have NB105_109 := n8_
        have NB109_105 := n9_
        clear n0_ n1_ n2_ n3_ n4_ n5_ n6_ n7_ n8_ n9_
        clear hb hbox hg
        refine hK.out _ _ ⟨(blk_cell BK104.out 0).trans rfl, (blk_cell BK104.out 1).trans rfl, (blk_cell BK104.out 2).trans rfl, (blk_cell BK104.out 3).trans rfl, (blk_cell BK104.out 4).trans rfl, (blk_cell BK104.out 5).trans rfl, (blk_cell BK104.out 6).trans rfl, (blk_cell BK104.out 7).trans rfl, (blk_cell BK104.out 8).trans rfl⟩ (fun hHeld => ?_)
        clear hK K
        refine norm_ (a' := ?_) ?_ ?_
        rotate_left
        · show Act.put _ (some 11) _ = _
          simp only [Act.put, List.setIfInBounds_toArray, List.set_cons_zero, List.set_cons_succ, i64_w, i32_w]
          rfl
        exact norm_ (by simp only [putAll, Act.put, List.setIfInBounds_toArray, List.set_cons_zero, List.set_cons_succ]) (hCont (gb109) _ ⟨hHeld, (by (with_reducible repeat (first | refine blk_drewN ?_ _ | refine blk_drew ?_ | refine blk_alloc ?_ _)); exact BK104.out), (by (with_reducible repeat (first | refine blk_drewN ?_ _ | refine blk_drew ?_ | refine blk_alloc ?_ _)); exact BK105.out), (by (with_reducible repeat (first | refine blk_drewN ?_ _ | refine blk_drew ?_ | refine blk_alloc ?_ _)); exact BK109.out), GW109.out, GE109.out, NB104_109.out, NB109_104.out, NB105_109.out, NB109_105.out, (by repeat (first | (with_reducible first | exact HB.out | apply below_alloc | apply pw_below_drewN | apply below_drew1 | refine below_set ?_ GE104.out | refine below_set ?_ GE105.out | refine below_set ?_ GE109.out) | exact HB.out))⟩)
      · skip
        refine box_step ?hg (N := 11) ?hd (cs := #[.int .i64 0, .bool false, .int .i64 0, .int .u64 0, .string (⟨#[]⟩ : ByteArray), .string (⟨#[]⟩ : ByteArray), .string (⟨#[]⟩ : ByteArray), .string (⟨#[]⟩ : ByteArray), .string (⟨#[]⟩ : ByteArray)]) (t := 35) ?hr ?_; (case hd => rfl); (case hg => rfl); (case hr => first | (go_simp; done) | (go_simp; rfl))
        intro gb109 hg w57 hbox hb
        have n0_ := Aside0.mk (blk_below (g := gb104) (o := .cells #[.int .i64 a0_0, .bool a0_1, .int .i64 a0_2, .int .u64 a0_3, .string a0_4, .string a0_5, .string a0_6, .string a0_7, .string a0_8] 28 (0, 0)) (by (with_reducible repeat (first | refine blk_drewN ?_ _ | refine blk_drew ?_ | refine blk_alloc ?_ _)); exact BK104.out) hb)
        have n1_ := Aside0.mk (blk_below (g := gb105) (o := .cells #[.int .i64 a1_0, .bool a1_1, .int .i64 a1_2, .int .u64 a1_3, .string a1_4, .string a1_5, .string a1_6, .string a1_7, .string a1_8] 28 (0, 0)) (by (with_reducible repeat (first | refine blk_drewN ?_ _ | refine blk_drew ?_ | refine blk_alloc ?_ _)); exact BK105.out) hb)
        have n2_ := Aside0.mk (below_step (by repeat (first | (with_reducible first | exact HB.out | apply below_alloc | apply pw_below_drewN | apply below_drew1 | refine below_set ?_ GE104.out | refine below_set ?_ GE105.out) | exact HB.out)) hb)
        have n3_ := Aside0.mk (hbox)
        have n4_ := Aside0.mk ((by rw [hg]; exact (below_size (by repeat (first | (with_reducible first | exact HB.out | apply below_alloc | apply pw_below_drewN | apply below_drew1 | refine below_set ?_ GE104.out | refine below_set ?_ GE105.out) | exact HB.out))) : w.heap.size ≤ gb109))
        have n5_ := Aside0.mk ((by rw [hg]; exact (below_size (by repeat (first | (with_reducible first | exact HB.out | apply below_alloc | apply pw_below_drewN | apply below_drew1 | refine below_set ?_ GE104.out | refine below_set ?_ GE105.out) | exact HB.out))) : w.heap.size ≤ gb109))
        have n6_ := Aside0.mk ((by rw [hg]; exact Nat.ne_of_lt (blk_lt (g := gb104) (o := .cells #[.int .i64 a0_0, .bool a0_1, .int .i64 a0_2, .int .u64 a0_3, .string a0_4, .string a0_5, .string a0_6, .string a0_7, .string a0_8] 28 (0, 0)) (by (with_reducible repeat (first | refine blk_drewN ?_ _ | refine blk_drew ?_ | refine blk_alloc ?_ _)); exact BK104.out)) : gb104 ≠ gb109))
        have n7_ := Aside0.mk ((by rw [hg]; exact Nat.ne_of_gt (blk_lt (g := gb104) (o := .cells #[.int .i64 a0_0, .bool a0_1, .int .i64 a0_2, .int .u64 a0_3, .string a0_4, .string a0_5, .string a0_6, .string a0_7, .string a0_8] 28 (0, 0)) (by (with_reducible repeat (first | refine blk_drewN ?_ _ | refine blk_drew ?_ | refine blk_alloc ?_ _)); exact BK104.out)) : gb109 ≠ gb104))
        have n8_ := Aside0.mk ((by rw [hg]; exact Nat.ne_of_lt (blk_lt (g := gb105) (o := .cells #[.int .i64 a1_0, .bool a1_1, .int .i64 a1_2, .int .u64 a1_3, .string a1_4, .string a1_5, .string a1_6, .string a1_7, .string a1_8] 28 (0, 0)) (by (with_reducible repeat (first | refine blk_drewN ?_ _ | refine blk_drew ?_ | refine blk_alloc ?_ _)); exact BK105.out)) : gb105 ≠ gb109))
        have n9_ := Aside0.mk ((by rw [hg]; exact Nat.ne_of_gt (blk_lt (g := gb105) (o := .cells #[.int .i64 a1_0, .bool a1_1, .int .i64 a1_2, .int .u64 a1_3, .string a1_4, .string a1_5, .string a1_6, .string a1_7, .string a1_8] 28 (0, 0)) (by (with_reducible repeat (first | refine blk_drewN ?_ _ | refine blk_drew ?_ | refine blk_alloc ?_ _)); exact BK105.out)) : gb109 ≠ gb105))
        clear BK104
        clear BK105
        clear HB
        have BK104 := n0_
        have BK105 := n1_
        have HB := n2_
        have BK109 := n3_
        have GW109 := n4_
        have GE109 := n5_
        have NB104_109 := n6_
        have NB109_104 := n7_
        have NB105_109 := n8_
        have NB109_105 := n9_
        clear n0_ n1_ n2_ n3_ n4_ n5_ n6_ n7_ n8_ n9_
        clear hb hbox hg
        refine hK.out _ _ ⟨(blk_cell BK104.out 0).trans rfl, (blk_cell BK104.out 1).trans rfl, (blk_cell BK104.out 2).trans rfl, (blk_cell BK104.out 3).trans rfl, (blk_cell BK104.out 4).trans rfl, (blk_cell BK104.out 5).trans rfl, (blk_cell BK104.out 6).trans rfl, (blk_cell BK104.out 7).trans rfl, (blk_cell BK104.out 8).trans rfl⟩ (fun hHeld => ?_)
        clear hK K
        refine norm_ (a' := ?_) ?_ ?_
        rotate_left
        · show Act.put _ (some 11) _ = _
          simp only [Act.put, List.setIfInBounds_toArray, List.set_cons_zero, List.set_cons_succ, i64_w, i32_w]
          rfl
        refine one_ (i := 2) (N := some 26) #[true, true, true, true, true, false, true, false] rfl rfl (one_of HT_.out (by kernel_rfl)) (by decide) (fun K hK => ?_)
        refine goes_ Try.func6 (by kernel_rfl) rfl #[.int .i64 a0_0] (by rfl) rfl rfl (by (try simp only [List.map_toArray, List.map_cons, List.map_nil]); first | done | rfl | (simp only [List.length_drop, List.length_take]; rfl)) ?_
        with_reducible refine (cofferlaw08_num.calls a0_0 t108 _ A6.out).mono ?_
        rintro e w' ⟨rfl, ⟨nd, rfl⟩⟩
        refine ⟨_, rfl, ?_⟩
        refine hK.out _ _ ⟨(blk_cell BK104.out 0).trans rfl, (blk_cell BK104.out 1).trans rfl, (blk_cell BK104.out 2).trans rfl, (blk_cell BK104.out 3).trans rfl, (blk_cell BK104.out 4).trans rfl, (blk_cell BK104.out 5).trans rfl, (blk_cell BK104.out 6).trans rfl, (blk_cell BK104.out 7).trans rfl, (blk_cell BK104.out 8).trans rfl⟩ (fun hHeld => ?_)
        clear hK K
        refine norm_ (a' := ?_) ?_ ?_
        rotate_left
        · show Act.put _ (some 26) _ = _
          simp only [Act.put, List.setIfInBounds_toArray, List.set_cons_zero, List.set_cons_succ, i64_w, i32_w]
          rfl
        refine pure_ (i := 5) (N := some 29) (v := ?_) (a' := ?_) #[true, true, true, true, true, true, true, false] rfl rfl (any_of HT_.out (by kernel_rfl)) (fun _ _ _ h => h) (Or.inl ⟨by rfl, ?_⟩) ?_ ?_
        rotate_left
        · intro w'
          go_simp
          with_reducible rfl
        rotate_left
        · simp only [Act.put, List.setIfInBounds_toArray, List.set_cons_zero, List.set_cons_succ, i64_w, i32_w]
          rfl
        exact norm_ (by simp only [putAll, Act.put, List.setIfInBounds_toArray, List.set_cons_zero, List.set_cons_succ]) (hCont (gb109) _ ⟨hHeld, (by (with_reducible repeat (first | refine blk_drewN ?_ _ | refine blk_drew ?_ | refine blk_alloc ?_ _)); exact BK104.out), (by (with_reducible repeat (first | refine blk_drewN ?_ _ | refine blk_drew ?_ | refine blk_alloc ?_ _)); exact BK105.out), (by (with_reducible repeat (first | refine blk_drewN ?_ _ | refine blk_drew ?_ | refine blk_alloc ?_ _)); exact BK109.out), GW109.out, GE109.out, NB104_109.out, NB109_104.out, NB105_109.out, NB109_105.out, (by repeat (first | (with_reducible first | exact HB.out | apply below_alloc | apply pw_below_drewN | apply below_drew1 | refine below_set ?_ GE104.out | refine below_set ?_ GE105.out | refine below_set ?_ GE109.out) | exact HB.out))⟩)
    rintro gb109 w58 ⟨hS_, h0_, h1_, h2_, h3_, h4_, h5_, h6_, h7_, h8_, h9_⟩
    have n0_ : Aside0 (w58.heap[gb104]? = some (.cells #[.int .i64 a0_0, .bool a0_1, .int .i64 a0_2, .int .u64 a0_3, .string a0_4, .string a0_5, .string a0_6, .string a0_7, .string a0_8] 28 (0, 0))) := ⟨h0_⟩
    have n1_ : Aside0 (w58.heap[gb105]? = some (.cells #[.int .i64 a1_0, .bool a1_1, .int .i64 a1_2, .int .u64 a1_3, .string a1_4, .string a1_5, .string a1_6, .string a1_7, .string a1_8] 28 (0, 0))) := ⟨h1_⟩
    have n2_ : Aside0 (w58.heap[gb109]? = some (.cells #[.int .i64 0, .bool false, .int .i64 0, .int .u64 0, .string (⟨#[]⟩ : ByteArray), .string (⟨#[]⟩ : ByteArray), .string (⟨#[]⟩ : ByteArray), .string (⟨#[]⟩ : ByteArray), .string (⟨#[]⟩ : ByteArray)] 35 (0, 0))) := ⟨h2_⟩
    have n3_ : Aside0 (w.heap.size ≤ gb109) := ⟨h3_⟩
    have n4_ : Aside0 (w.heap.size ≤ gb109) := ⟨h4_⟩
    have n5_ : Aside0 (gb104 ≠ gb109) := ⟨h5_⟩
    have n6_ : Aside0 (gb109 ≠ gb104) := ⟨h6_⟩
    have n7_ : Aside0 (gb105 ≠ gb109) := ⟨h7_⟩
    have n8_ : Aside0 (gb109 ≠ gb105) := ⟨h8_⟩
    have n9_ : Aside0 (Below w.heap.size w w58) := ⟨h9_⟩
    clear BK104
    clear BK105
    clear HB
    clear h0_ h1_ h2_ h3_ h4_ h5_ h6_ h7_ h8_ h9_
    have BK104 := n0_
    have BK105 := n1_
    have BK109 := n2_
    have GW109 := n3_
    have GE109 := n4_
    have NB104_109 := n5_
    have NB109_104 := n6_
    have NB105_109 := n7_
    have NB109_105 := n8_
    have HB := n9_
    clear n0_ n1_ n2_ n3_ n4_ n5_ n6_ n7_ n8_ n9_
    have hHeld : w58.cell? ⟨gb104, 0, none⟩ = some (.int .i64 a0_0) ∧ w58.cell? ⟨gb104, 1, none⟩ = some (.bool a0_1) ∧ w58.cell? ⟨gb104, 2, none⟩ = some (.int .i64 a0_2) ∧ w58.cell? ⟨gb104, 3, none⟩ = some (.int .u64 a0_3) ∧ w58.cell? ⟨gb104, 4, none⟩ = some (.string a0_4) ∧ w58.cell? ⟨gb104, 5, none⟩ = some (.string a0_5) ∧ w58.cell? ⟨gb104, 6, none⟩ = some (.string a0_6) ∧ w58.cell? ⟨gb104, 7, none⟩ = some (.string a0_7) ∧ w58.cell? ⟨gb104, 8, none⟩ = some (.string a0_8) := hS_
    refine norm_ (a' := ?_) ?_ ?_
    rotate_left
    · simp only [putAll, Act.put, List.setIfInBounds_toArray, List.set_cons_zero, List.set_cons_succ]
      rfl
    refine one_ (i := 7) (N := none) #[true, true, true, true, true, true, true, true] rfl rfl (one_of HT_.out (by kernel_rfl)) (by decide) (fun K hK => ?_)
    have hs59 : w58.cell? ⟨gb109, 0, none⟩ = some (.int .i64 0) := (blk_cell BK109.out 0).trans rfl
    have hfs59 := blk_frozen BK109.out 0
    have hns59_0 := NB104_109.out
    have hns59_1 := NB105_109.out
    have hms59_0 := NB109_104.out
    have hms59_1 := NB109_105.out
    have hs60 : w58.cell? ⟨gb109, 1, none⟩ = some (.bool false) := (blk_cell BK109.out 1).trans rfl
    have hfs60 := blk_frozen BK109.out 1
    have hns60_0 := NB104_109.out
    have hns60_1 := NB105_109.out
    have hms60_0 := NB109_104.out
    have hms60_1 := NB109_105.out
    have hs61 : w58.cell? ⟨gb109, 2, none⟩ = some (.int .i64 0) := (blk_cell BK109.out 2).trans rfl
    have hfs61 := blk_frozen BK109.out 2
    have hns61_0 := NB104_109.out
    have hns61_1 := NB105_109.out
    have hms61_0 := NB109_104.out
    have hms61_1 := NB109_105.out
    have hs62 : w58.cell? ⟨gb109, 3, none⟩ = some (.int .u64 0) := (blk_cell BK109.out 3).trans rfl
    have hfs62 := blk_frozen BK109.out 3
    have hns62_0 := NB104_109.out
    have hns62_1 := NB105_109.out
    have hms62_0 := NB109_104.out
    have hms62_1 := NB109_105.out
    have hs63 : w58.cell? ⟨gb109, 4, none⟩ = some (.string (⟨#[]⟩ : ByteArray)) := (blk_cell BK109.out 4).trans rfl
    have hfs63 := blk_frozen BK109.out 4
    have hns63_0 := NB104_109.out
    have hns63_1 := NB105_109.out
    have hms63_0 := NB109_104.out
    have hms63_1 := NB109_105.out
    have hs64 : w58.cell? ⟨gb109, 5, none⟩ = some (.string (⟨#[]⟩ : ByteArray)) := (blk_cell BK109.out 5).trans rfl
    have hfs64 := blk_frozen BK109.out 5
    have hns64_0 := NB104_109.out
    have hns64_1 := NB105_109.out
    have hms64_0 := NB109_104.out
    have hms64_1 := NB109_105.out
    have hs65 : w58.cell? ⟨gb109, 6, none⟩ = some (.string (⟨#[]⟩ : ByteArray)) := (blk_cell BK109.out 6).trans rfl
    have hfs65 := blk_frozen BK109.out 6
    have hns65_0 := NB104_109.out
    have hns65_1 := NB105_109.out
    have hms65_0 := NB109_104.out
    have hms65_1 := NB109_105.out
    have hs66 : w58.cell? ⟨gb109, 7, none⟩ = some (.string (⟨#[]⟩ : ByteArray)) := (blk_cell BK109.out 7).trans rfl
    have hfs66 := blk_frozen BK109.out 7
    have hns66_0 := NB104_109.out
    have hns66_1 := NB105_109.out
    have hms66_0 := NB109_104.out
    have hms66_1 := NB109_105.out
    have hs67 : w58.cell? ⟨gb109, 8, none⟩ = some (.string (⟨#[]⟩ : ByteArray)) := (blk_cell BK109.out 8).trans rfl
    have hfs67 := blk_frozen BK109.out 8
    have hns67_0 := NB104_109.out
    have hns67_1 := NB105_109.out
    have hms67_0 := NB109_104.out
    have hms67_1 := NB109_105.out
    refine skip_ (w1 := ?_) (by rfl) rfl ?_ ?_
    rotate_left
    · go_simp
      rfl
    refine hK.out _ _ ⟨((cell_far (p := ⟨gb109, _, none⟩) NB104_109.out _).trans (((cell_far (p := ⟨gb109, _, none⟩) NB104_109.out _).trans (((cell_far (p := ⟨gb109, _, none⟩) NB104_109.out _).trans (((cell_far (p := ⟨gb109, _, none⟩) NB104_109.out _).trans (((cell_far (p := ⟨gb109, _, none⟩) NB104_109.out _).trans (((cell_far (p := ⟨gb109, _, none⟩) NB104_109.out _).trans (((cell_far (p := ⟨gb109, _, none⟩) NB104_109.out _).trans (((cell_far (p := ⟨gb109, _, none⟩) NB104_109.out _).trans (((cell_far (p := ⟨gb109, _, none⟩) NB104_109.out _).trans (hHeld.1)))))))))))))))))), ((cell_far (p := ⟨gb109, _, none⟩) NB104_109.out _).trans (((cell_far (p := ⟨gb109, _, none⟩) NB104_109.out _).trans (((cell_far (p := ⟨gb109, _, none⟩) NB104_109.out _).trans (((cell_far (p := ⟨gb109, _, none⟩) NB104_109.out _).trans (((cell_far (p := ⟨gb109, _, none⟩) NB104_109.out _).trans (((cell_far (p := ⟨gb109, _, none⟩) NB104_109.out _).trans (((cell_far (p := ⟨gb109, _, none⟩) NB104_109.out _).trans (((cell_far (p := ⟨gb109, _, none⟩) NB104_109.out _).trans (((cell_far (p := ⟨gb109, _, none⟩) NB104_109.out _).trans (hHeld.2.1)))))))))))))))))), ((cell_far (p := ⟨gb109, _, none⟩) NB104_109.out _).trans (((cell_far (p := ⟨gb109, _, none⟩) NB104_109.out _).trans (((cell_far (p := ⟨gb109, _, none⟩) NB104_109.out _).trans (((cell_far (p := ⟨gb109, _, none⟩) NB104_109.out _).trans (((cell_far (p := ⟨gb109, _, none⟩) NB104_109.out _).trans (((cell_far (p := ⟨gb109, _, none⟩) NB104_109.out _).trans (((cell_far (p := ⟨gb109, _, none⟩) NB104_109.out _).trans (((cell_far (p := ⟨gb109, _, none⟩) NB104_109.out _).trans (((cell_far (p := ⟨gb109, _, none⟩) NB104_109.out _).trans (hHeld.2.2.1)))))))))))))))))), ((cell_far (p := ⟨gb109, _, none⟩) NB104_109.out _).trans (((cell_far (p := ⟨gb109, _, none⟩) NB104_109.out _).trans (((cell_far (p := ⟨gb109, _, none⟩) NB104_109.out _).trans (((cell_far (p := ⟨gb109, _, none⟩) NB104_109.out _).trans (((cell_far (p := ⟨gb109, _, none⟩) NB104_109.out _).trans (((cell_far (p := ⟨gb109, _, none⟩) NB104_109.out _).trans (((cell_far (p := ⟨gb109, _, none⟩) NB104_109.out _).trans (((cell_far (p := ⟨gb109, _, none⟩) NB104_109.out _).trans (((cell_far (p := ⟨gb109, _, none⟩) NB104_109.out _).trans (hHeld.2.2.2.1)))))))))))))))))), ((cell_far (p := ⟨gb109, _, none⟩) NB104_109.out _).trans (((cell_far (p := ⟨gb109, _, none⟩) NB104_109.out _).trans (((cell_far (p := ⟨gb109, _, none⟩) NB104_109.out _).trans (((cell_far (p := ⟨gb109, _, none⟩) NB104_109.out _).trans (((cell_far (p := ⟨gb109, _, none⟩) NB104_109.out _).trans (((cell_far (p := ⟨gb109, _, none⟩) NB104_109.out _).trans (((cell_far (p := ⟨gb109, _, none⟩) NB104_109.out _).trans (((cell_far (p := ⟨gb109, _, none⟩) NB104_109.out _).trans (((cell_far (p := ⟨gb109, _, none⟩) NB104_109.out _).trans (hHeld.2.2.2.2.1)))))))))))))))))), ((cell_far (p := ⟨gb109, _, none⟩) NB104_109.out _).trans (((cell_far (p := ⟨gb109, _, none⟩) NB104_109.out _).trans (((cell_far (p := ⟨gb109, _, none⟩) NB104_109.out _).trans (((cell_far (p := ⟨gb109, _, none⟩) NB104_109.out _).trans (((cell_far (p := ⟨gb109, _, none⟩) NB104_109.out _).trans (((cell_far (p := ⟨gb109, _, none⟩) NB104_109.out _).trans (((cell_far (p := ⟨gb109, _, none⟩) NB104_109.out _).trans (((cell_far (p := ⟨gb109, _, none⟩) NB104_109.out _).trans (((cell_far (p := ⟨gb109, _, none⟩) NB104_109.out _).trans (hHeld.2.2.2.2.2.1)))))))))))))))))), ((cell_far (p := ⟨gb109, _, none⟩) NB104_109.out _).trans (((cell_far (p := ⟨gb109, _, none⟩) NB104_109.out _).trans (((cell_far (p := ⟨gb109, _, none⟩) NB104_109.out _).trans (((cell_far (p := ⟨gb109, _, none⟩) NB104_109.out _).trans (((cell_far (p := ⟨gb109, _, none⟩) NB104_109.out _).trans (((cell_far (p := ⟨gb109, _, none⟩) NB104_109.out _).trans (((cell_far (p := ⟨gb109, _, none⟩) NB104_109.out _).trans (((cell_far (p := ⟨gb109, _, none⟩) NB104_109.out _).trans (((cell_far (p := ⟨gb109, _, none⟩) NB104_109.out _).trans (hHeld.2.2.2.2.2.2.1)))))))))))))))))), ((cell_far (p := ⟨gb109, _, none⟩) NB104_109.out _).trans (((cell_far (p := ⟨gb109, _, none⟩) NB104_109.out _).trans (((cell_far (p := ⟨gb109, _, none⟩) NB104_109.out _).trans (((cell_far (p := ⟨gb109, _, none⟩) NB104_109.out _).trans (((cell_far (p := ⟨gb109, _, none⟩) NB104_109.out _).trans (((cell_far (p := ⟨gb109, _, none⟩) NB104_109.out _).trans (((cell_far (p := ⟨gb109, _, none⟩) NB104_109.out _).trans (((cell_far (p := ⟨gb109, _, none⟩) NB104_109.out _).trans (((cell_far (p := ⟨gb109, _, none⟩) NB104_109.out _).trans (hHeld.2.2.2.2.2.2.2.1)))))))))))))))))), ((cell_far (p := ⟨gb109, _, none⟩) NB104_109.out _).trans (((cell_far (p := ⟨gb109, _, none⟩) NB104_109.out _).trans (((cell_far (p := ⟨gb109, _, none⟩) NB104_109.out _).trans (((cell_far (p := ⟨gb109, _, none⟩) NB104_109.out _).trans (((cell_far (p := ⟨gb109, _, none⟩) NB104_109.out _).trans (((cell_far (p := ⟨gb109, _, none⟩) NB104_109.out _).trans (((cell_far (p := ⟨gb109, _, none⟩) NB104_109.out _).trans (((cell_far (p := ⟨gb109, _, none⟩) NB104_109.out _).trans (((cell_far (p := ⟨gb109, _, none⟩) NB104_109.out _).trans (hHeld.2.2.2.2.2.2.2.2))))))))))))))))))⟩ (fun hHeld => ?_)
    clear hK K
    refine done_ (done_of HT_.out (by kernel_rfl)) ?_
    try go_wp2
    have n0_ : Aside0 ((((((((((w58.setCell ⟨gb109, 0, none⟩ (.int .i64 t108)).setCell ⟨gb109, 1, none⟩ (.bool a0_1)).setCell ⟨gb109, 2, none⟩ (.int .i64 a0_2)).setCell ⟨gb109, 3, none⟩ (.int .u64 a0_3)).setCell ⟨gb109, 4, none⟩ (.string a0_4)).setCell ⟨gb109, 5, none⟩ (.string a0_5)).setCell ⟨gb109, 6, none⟩ (.string a0_6)).setCell ⟨gb109, 7, none⟩ (.string a0_7)).setCell ⟨gb109, 8, none⟩ (.string a0_8)).heap[gb104]? = some (.cells #[.int .i64 a0_0, .bool a0_1, .int .i64 a0_2, .int .u64 a0_3, .string a0_4, .string a0_5, .string a0_6, .string a0_7, .string a0_8] 28 (0, 0))) := ⟨by (with_reducible repeat (first | refine blk_drewN ?_ _ | refine blk_drew ?_ | refine blk_alloc ?_ _)); refine blk_far ?_ NB104_109.out _; (with_reducible repeat (first | refine blk_drewN ?_ _ | refine blk_drew ?_ | refine blk_alloc ?_ _)); refine blk_far ?_ NB104_109.out _; (with_reducible repeat (first | refine blk_drewN ?_ _ | refine blk_drew ?_ | refine blk_alloc ?_ _)); refine blk_far ?_ NB104_109.out _; (with_reducible repeat (first | refine blk_drewN ?_ _ | refine blk_drew ?_ | refine blk_alloc ?_ _)); refine blk_far ?_ NB104_109.out _; (with_reducible repeat (first | refine blk_drewN ?_ _ | refine blk_drew ?_ | refine blk_alloc ?_ _)); refine blk_far ?_ NB104_109.out _; (with_reducible repeat (first | refine blk_drewN ?_ _ | refine blk_drew ?_ | refine blk_alloc ?_ _)); refine blk_far ?_ NB104_109.out _; (with_reducible repeat (first | refine blk_drewN ?_ _ | refine blk_drew ?_ | refine blk_alloc ?_ _)); refine blk_far ?_ NB104_109.out _; (with_reducible repeat (first | refine blk_drewN ?_ _ | refine blk_drew ?_ | refine blk_alloc ?_ _)); refine blk_far ?_ NB104_109.out _; (with_reducible repeat (first | refine blk_drewN ?_ _ | refine blk_drew ?_ | refine blk_alloc ?_ _)); refine blk_far ?_ NB104_109.out _; (with_reducible repeat (first | refine blk_drewN ?_ _ | refine blk_drew ?_ | refine blk_alloc ?_ _)); exact BK104.out⟩
    have n1_ : Aside0 ((((((((((w58.setCell ⟨gb109, 0, none⟩ (.int .i64 t108)).setCell ⟨gb109, 1, none⟩ (.bool a0_1)).setCell ⟨gb109, 2, none⟩ (.int .i64 a0_2)).setCell ⟨gb109, 3, none⟩ (.int .u64 a0_3)).setCell ⟨gb109, 4, none⟩ (.string a0_4)).setCell ⟨gb109, 5, none⟩ (.string a0_5)).setCell ⟨gb109, 6, none⟩ (.string a0_6)).setCell ⟨gb109, 7, none⟩ (.string a0_7)).setCell ⟨gb109, 8, none⟩ (.string a0_8)).heap[gb105]? = some (.cells #[.int .i64 a1_0, .bool a1_1, .int .i64 a1_2, .int .u64 a1_3, .string a1_4, .string a1_5, .string a1_6, .string a1_7, .string a1_8] 28 (0, 0))) := ⟨by (with_reducible repeat (first | refine blk_drewN ?_ _ | refine blk_drew ?_ | refine blk_alloc ?_ _)); refine blk_far ?_ NB105_109.out _; (with_reducible repeat (first | refine blk_drewN ?_ _ | refine blk_drew ?_ | refine blk_alloc ?_ _)); refine blk_far ?_ NB105_109.out _; (with_reducible repeat (first | refine blk_drewN ?_ _ | refine blk_drew ?_ | refine blk_alloc ?_ _)); refine blk_far ?_ NB105_109.out _; (with_reducible repeat (first | refine blk_drewN ?_ _ | refine blk_drew ?_ | refine blk_alloc ?_ _)); refine blk_far ?_ NB105_109.out _; (with_reducible repeat (first | refine blk_drewN ?_ _ | refine blk_drew ?_ | refine blk_alloc ?_ _)); refine blk_far ?_ NB105_109.out _; (with_reducible repeat (first | refine blk_drewN ?_ _ | refine blk_drew ?_ | refine blk_alloc ?_ _)); refine blk_far ?_ NB105_109.out _; (with_reducible repeat (first | refine blk_drewN ?_ _ | refine blk_drew ?_ | refine blk_alloc ?_ _)); refine blk_far ?_ NB105_109.out _; (with_reducible repeat (first | refine blk_drewN ?_ _ | refine blk_drew ?_ | refine blk_alloc ?_ _)); refine blk_far ?_ NB105_109.out _; (with_reducible repeat (first | refine blk_drewN ?_ _ | refine blk_drew ?_ | refine blk_alloc ?_ _)); refine blk_far ?_ NB105_109.out _; (with_reducible repeat (first | refine blk_drewN ?_ _ | refine blk_drew ?_ | refine blk_alloc ?_ _)); exact BK105.out⟩
    have n2_ : Aside0 ((((((((((w58.setCell ⟨gb109, 0, none⟩ (.int .i64 t108)).setCell ⟨gb109, 1, none⟩ (.bool a0_1)).setCell ⟨gb109, 2, none⟩ (.int .i64 a0_2)).setCell ⟨gb109, 3, none⟩ (.int .u64 a0_3)).setCell ⟨gb109, 4, none⟩ (.string a0_4)).setCell ⟨gb109, 5, none⟩ (.string a0_5)).setCell ⟨gb109, 6, none⟩ (.string a0_6)).setCell ⟨gb109, 7, none⟩ (.string a0_7)).setCell ⟨gb109, 8, none⟩ (.string a0_8)).heap[gb109]? = some (.cells #[.int .i64 t108, .bool a0_1, .int .i64 a0_2, .int .u64 a0_3, .string a0_4, .string a0_5, .string a0_6, .string a0_7, .string a0_8] 35 (0, 0))) := ⟨by (with_reducible repeat (first | refine blk_drewN ?_ _ | refine blk_drew ?_ | refine blk_alloc ?_ _)); refine blk_put (cs := #[.int .i64 t108, .bool a0_1, .int .i64 a0_2, .int .u64 a0_3, .string a0_4, .string a0_5, .string a0_6, .string a0_7, .string (⟨#[]⟩ : ByteArray)]) ?_ 8 _ rfl; (with_reducible repeat (first | refine blk_drewN ?_ _ | refine blk_drew ?_ | refine blk_alloc ?_ _)); refine blk_put (cs := #[.int .i64 t108, .bool a0_1, .int .i64 a0_2, .int .u64 a0_3, .string a0_4, .string a0_5, .string a0_6, .string (⟨#[]⟩ : ByteArray), .string (⟨#[]⟩ : ByteArray)]) ?_ 7 _ rfl; (with_reducible repeat (first | refine blk_drewN ?_ _ | refine blk_drew ?_ | refine blk_alloc ?_ _)); refine blk_put (cs := #[.int .i64 t108, .bool a0_1, .int .i64 a0_2, .int .u64 a0_3, .string a0_4, .string a0_5, .string (⟨#[]⟩ : ByteArray), .string (⟨#[]⟩ : ByteArray), .string (⟨#[]⟩ : ByteArray)]) ?_ 6 _ rfl; (with_reducible repeat (first | refine blk_drewN ?_ _ | refine blk_drew ?_ | refine blk_alloc ?_ _)); refine blk_put (cs := #[.int .i64 t108, .bool a0_1, .int .i64 a0_2, .int .u64 a0_3, .string a0_4, .string (⟨#[]⟩ : ByteArray), .string (⟨#[]⟩ : ByteArray), .string (⟨#[]⟩ : ByteArray), .string (⟨#[]⟩ : ByteArray)]) ?_ 5 _ rfl; (with_reducible repeat (first | refine blk_drewN ?_ _ | refine blk_drew ?_ | refine blk_alloc ?_ _)); refine blk_put (cs := #[.int .i64 t108, .bool a0_1, .int .i64 a0_2, .int .u64 a0_3, .string (⟨#[]⟩ : ByteArray), .string (⟨#[]⟩ : ByteArray), .string (⟨#[]⟩ : ByteArray), .string (⟨#[]⟩ : ByteArray), .string (⟨#[]⟩ : ByteArray)]) ?_ 4 _ rfl; (with_reducible repeat (first | refine blk_drewN ?_ _ | refine blk_drew ?_ | refine blk_alloc ?_ _)); refine blk_put (cs := #[.int .i64 t108, .bool a0_1, .int .i64 a0_2, .int .u64 0, .string (⟨#[]⟩ : ByteArray), .string (⟨#[]⟩ : ByteArray), .string (⟨#[]⟩ : ByteArray), .string (⟨#[]⟩ : ByteArray), .string (⟨#[]⟩ : ByteArray)]) ?_ 3 _ rfl; (with_reducible repeat (first | refine blk_drewN ?_ _ | refine blk_drew ?_ | refine blk_alloc ?_ _)); refine blk_put (cs := #[.int .i64 t108, .bool a0_1, .int .i64 0, .int .u64 0, .string (⟨#[]⟩ : ByteArray), .string (⟨#[]⟩ : ByteArray), .string (⟨#[]⟩ : ByteArray), .string (⟨#[]⟩ : ByteArray), .string (⟨#[]⟩ : ByteArray)]) ?_ 2 _ rfl; (with_reducible repeat (first | refine blk_drewN ?_ _ | refine blk_drew ?_ | refine blk_alloc ?_ _)); refine blk_put (cs := #[.int .i64 t108, .bool false, .int .i64 0, .int .u64 0, .string (⟨#[]⟩ : ByteArray), .string (⟨#[]⟩ : ByteArray), .string (⟨#[]⟩ : ByteArray), .string (⟨#[]⟩ : ByteArray), .string (⟨#[]⟩ : ByteArray)]) ?_ 1 _ rfl; (with_reducible repeat (first | refine blk_drewN ?_ _ | refine blk_drew ?_ | refine blk_alloc ?_ _)); refine blk_put (cs := #[.int .i64 0, .bool false, .int .i64 0, .int .u64 0, .string (⟨#[]⟩ : ByteArray), .string (⟨#[]⟩ : ByteArray), .string (⟨#[]⟩ : ByteArray), .string (⟨#[]⟩ : ByteArray), .string (⟨#[]⟩ : ByteArray)]) ?_ 0 _ rfl; (with_reducible repeat (first | refine blk_drewN ?_ _ | refine blk_drew ?_ | refine blk_alloc ?_ _)); exact BK109.out⟩
    have n3_ : Aside0 (Below w.heap.size w (((((((((w58.setCell ⟨gb109, 0, none⟩ (.int .i64 t108)).setCell ⟨gb109, 1, none⟩ (.bool a0_1)).setCell ⟨gb109, 2, none⟩ (.int .i64 a0_2)).setCell ⟨gb109, 3, none⟩ (.int .u64 a0_3)).setCell ⟨gb109, 4, none⟩ (.string a0_4)).setCell ⟨gb109, 5, none⟩ (.string a0_5)).setCell ⟨gb109, 6, none⟩ (.string a0_6)).setCell ⟨gb109, 7, none⟩ (.string a0_7)).setCell ⟨gb109, 8, none⟩ (.string a0_8))) := ⟨by repeat (first | (with_reducible first | exact HB.out | apply below_alloc | apply pw_below_drewN | apply below_drew1 | refine below_set ?_ GE104.out | refine below_set ?_ GE105.out | refine below_set ?_ GE109.out) | exact HB.out)⟩
    (try clear BK104)
    (try clear BK105)
    (try clear BK109)
    (try clear HB)
    generalize (((((((((w58.setCell ⟨gb109, 0, none⟩ (.int .i64 t108)).setCell ⟨gb109, 1, none⟩ (.bool a0_1)).setCell ⟨gb109, 2, none⟩ (.int .i64 a0_2)).setCell ⟨gb109, 3, none⟩ (.int .u64 a0_3)).setCell ⟨gb109, 4, none⟩ (.string a0_4)).setCell ⟨gb109, 5, none⟩ (.string a0_5)).setCell ⟨gb109, 6, none⟩ (.string a0_6)).setCell ⟨gb109, 7, none⟩ (.string a0_7)).setCell ⟨gb109, 8, none⟩ (.string a0_8)) = w68 at n0_ n1_ n2_ n3_ ⊢
    have BK104 := n0_
    have BK105 := n1_
    have BK109 := n2_
    have HB := n3_
    clear n0_ n1_ n2_ n3_
    have n0_ := Aside0.mk (blk_drew BK104.out)
    have n1_ := Aside0.mk (blk_drew BK105.out)
    have n2_ := Aside0.mk (blk_drew BK109.out)
    have n3_ := Aside0.mk (below_drew1 HB.out)
    clear BK104
    clear BK105
    clear BK109
    clear HB
    have BK104 := n0_
    have BK105 := n1_
    have BK109 := n2_
    have HB := n3_
    clear n0_ n1_ n2_ n3_
    refine start_ (n := 8) (S := fun w' => w'.cell? ⟨gb105, 0, none⟩ = some (.int .i64 a1_0) ∧ w'.cell? ⟨gb105, 1, none⟩ = some (.bool a1_1) ∧ w'.cell? ⟨gb105, 2, none⟩ = some (.int .i64 a1_2) ∧ w'.cell? ⟨gb105, 3, none⟩ = some (.int .u64 a1_3) ∧ w'.cell? ⟨gb105, 4, none⟩ = some (.string a1_4) ∧ w'.cell? ⟨gb105, 5, none⟩ = some (.string a1_5) ∧ w'.cell? ⟨gb105, 6, none⟩ = some (.string a1_6) ∧ w'.cell? ⟨gb105, 7, none⟩ = some (.string a1_7) ∧ w'.cell? ⟨gb105, 8, none⟩ = some (.string a1_8)) (ds := []) #[false, false, false, false, false, false, false, false] (by kernel_rfl) rfl rfl ⟨(blk_cell BK105.out 0).trans rfl, (blk_cell BK105.out 1).trans rfl, (blk_cell BK105.out 2).trans rfl, (blk_cell BK105.out 3).trans rfl, (blk_cell BK105.out 4).trans rfl, (blk_cell BK105.out 5).trans rfl, (blk_cell BK105.out 6).trans rfl, (blk_cell BK105.out 7).trans rfl, (blk_cell BK105.out 8).trans rfl⟩ (fun hHeld => ?_); refine with_tabW cofferlaw08_HeaderChooses.tab3 cofferlaw08_HeaderChooses.bits3 (fun HT_ HW_ => ?_)
    generalize w68.drew = w69 at BK104 BK105 BK109 HB hHeld ⊢
    refine pure_ (i := 0) (N := some 30) (v := ?_) (a' := ?_) #[true, false, false, false, false, false, false, false] rfl rfl (any_of HT_.out (by kernel_rfl)) (fun _ _ _ h => h) (Or.inl ⟨by rfl, ?_⟩) ?_ ?_
    rotate_left
    · intro w'
      go_simp
      with_reducible rfl
    rotate_left
    · simp only [Act.put, List.setIfInBounds_toArray, List.set_cons_zero, List.set_cons_succ, i64_w, i32_w]
      rfl
    refine pure_ (i := 3) (N := some 33) (v := ?_) (a' := ?_) #[true, false, false, true, false, false, false, false] rfl rfl (any_of HT_.out (by kernel_rfl)) (fun _ _ _ h => h) (Or.inl ⟨by rfl, ?_⟩) ?_ ?_
    rotate_left
    · intro w'
      go_simp
      with_reducible rfl
    rotate_left
    · simp only [Act.put, List.setIfInBounds_toArray, List.set_cons_zero, List.set_cons_succ, i64_w, i32_w]
      rfl
    refine take_ (i := 1) (N := some 31) (v := ?_) (a' := ?_) #[true, true, false, true, false, false, false, false] rfl rfl (take_ofW HT_.out HW_.out (by kernel_rfl)) (fun _ _ _ h => h) (Or.inl ⟨by rfl, ?_⟩) hHeld ?_ ?_
    rotate_left
    · rintro w' ⟨s0, s1, s2, s3, s4, s5, s6, s7, s8⟩
      go_simp
      with_reducible rfl
    rotate_left
    · simp only [Act.put, List.setIfInBounds_toArray, List.set_cons_zero, List.set_cons_succ, i64_w, i32_w]
      rfl
    refine take_ (i := 4) (N := some 34) (v := ?_) (a' := ?_) #[true, true, false, true, true, false, false, false] rfl rfl (take_ofW HT_.out HW_.out (by kernel_rfl)) (fun _ _ _ h => h) (Or.inl ⟨by rfl, ?_⟩) hHeld ?_ ?_
    rotate_left
    · rintro w' ⟨s0, s1, s2, s3, s4, s5, s6, s7, s8⟩
      go_simp
      with_reducible rfl
    rotate_left
    · simp only [Act.put, List.setIfInBounds_toArray, List.set_cons_zero, List.set_cons_succ, i64_w, i32_w]
      rfl
    refine join_ (σ := Nat) 1 #[true, true, true, true, true, true, true, false] (fun s_ => [(32, .int .i64 t110), (12, .pointer (some ⟨s_, 0, none⟩)), (35, .agg #[.int .i64 t110, .bool a1_1, .int .i64 a1_2, .int .u64 a1_3, .string a1_4, .string a1_5, .string a1_6, .string a1_7, .string a1_8])]) (fun s_ w' => (w'.cell? ⟨gb105, 0, none⟩ = some (.int .i64 a1_0) ∧ w'.cell? ⟨gb105, 1, none⟩ = some (.bool a1_1) ∧ w'.cell? ⟨gb105, 2, none⟩ = some (.int .i64 a1_2) ∧ w'.cell? ⟨gb105, 3, none⟩ = some (.int .u64 a1_3) ∧ w'.cell? ⟨gb105, 4, none⟩ = some (.string a1_4) ∧ w'.cell? ⟨gb105, 5, none⟩ = some (.string a1_5) ∧ w'.cell? ⟨gb105, 6, none⟩ = some (.string a1_6) ∧ w'.cell? ⟨gb105, 7, none⟩ = some (.string a1_7) ∧ w'.cell? ⟨gb105, 8, none⟩ = some (.string a1_8)) ∧ (w'.heap[gb104]? = some (.cells #[.int .i64 a0_0, .bool a0_1, .int .i64 a0_2, .int .u64 a0_3, .string a0_4, .string a0_5, .string a0_6, .string a0_7, .string a0_8] 28 (0, 0))) ∧ (w'.heap[gb105]? = some (.cells #[.int .i64 a1_0, .bool a1_1, .int .i64 a1_2, .int .u64 a1_3, .string a1_4, .string a1_5, .string a1_6, .string a1_7, .string a1_8] 28 (0, 0))) ∧ (w'.heap[gb109]? = some (.cells #[.int .i64 t108, .bool a0_1, .int .i64 a0_2, .int .u64 a0_3, .string a0_4, .string a0_5, .string a0_6, .string a0_7, .string a0_8] 35 (0, 0))) ∧ (w'.heap[s_]? = some (.cells #[.int .i64 0, .bool false, .int .i64 0, .int .u64 0, .string (⟨#[]⟩ : ByteArray), .string (⟨#[]⟩ : ByteArray), .string (⟨#[]⟩ : ByteArray), .string (⟨#[]⟩ : ByteArray), .string (⟨#[]⟩ : ByteArray)] 35 (0, 0))) ∧ (w.heap.size ≤ s_) ∧ (w.heap.size ≤ s_) ∧ (gb104 ≠ s_) ∧ (s_ ≠ gb104) ∧ (gb105 ≠ s_) ∧ (s_ ≠ gb105) ∧ (gb109 ≠ s_) ∧ (s_ ≠ gb109) ∧ (Below w.heap.size w w')) ?_ ?_
    rotate_left
    · intro hCont
      refine two_ (i := 2) (j := 6) (Ni := some 32) (Nj := some 12) #[true, true, true, true, true, false, false, false] #[true, true, false, true, true, false, true, false] rfl rfl rfl rfl (two_of HT_.out (by kernel_rfl)) (by decide) (by decide) (fun K hK => ?_) (fun K hK => ?_)
      · skip
        refine goes_ Try.func6 (by kernel_rfl) rfl #[.int .i64 a1_0] (by rfl) rfl rfl (by (try simp only [List.map_toArray, List.map_cons, List.map_nil]); first | done | rfl | (simp only [List.length_drop, List.length_take]; rfl)) ?_
        with_reducible refine (cofferlaw08_num.calls a1_0 t110 _ A7.out).mono ?_
        rintro e w' ⟨rfl, ⟨nd, rfl⟩⟩
        refine ⟨_, rfl, ?_⟩
        refine hK.out _ _ ⟨(blk_cell BK105.out 0).trans rfl, (blk_cell BK105.out 1).trans rfl, (blk_cell BK105.out 2).trans rfl, (blk_cell BK105.out 3).trans rfl, (blk_cell BK105.out 4).trans rfl, (blk_cell BK105.out 5).trans rfl, (blk_cell BK105.out 6).trans rfl, (blk_cell BK105.out 7).trans rfl, (blk_cell BK105.out 8).trans rfl⟩ (fun hHeld => ?_)
        clear hK K
        refine norm_ (a' := ?_) ?_ ?_
        rotate_left
        · show Act.put _ (some 32) _ = _
          simp only [Act.put, List.setIfInBounds_toArray, List.set_cons_zero, List.set_cons_succ, i64_w, i32_w]
          rfl
        refine pure_ (i := 5) (N := some 35) (v := ?_) (a' := ?_) #[true, true, true, true, true, true, false, false] rfl rfl (any_of HT_.out (by kernel_rfl)) (fun _ _ _ h => h) (Or.inl ⟨by rfl, ?_⟩) ?_ ?_
        rotate_left
        · intro w'
          go_simp
          with_reducible rfl
        rotate_left
        · simp only [Act.put, List.setIfInBounds_toArray, List.set_cons_zero, List.set_cons_succ, i64_w, i32_w]
          rfl
        refine one_ (i := 6) (N := some 12) #[true, true, true, true, true, true, true, false] rfl rfl (one_of HT_.out (by kernel_rfl)) (by decide) (fun K hK => ?_)
        refine box_step ?hg (N := 12) ?hd (cs := #[.int .i64 0, .bool false, .int .i64 0, .int .u64 0, .string (⟨#[]⟩ : ByteArray), .string (⟨#[]⟩ : ByteArray), .string (⟨#[]⟩ : ByteArray), .string (⟨#[]⟩ : ByteArray), .string (⟨#[]⟩ : ByteArray)]) (t := 35) ?hr ?_; (case hd => rfl); (case hg => rfl); (case hr => first | (go_simp; done) | (go_simp; rfl))
        intro gb111 hg w70 hbox hb
        have n0_ := Aside0.mk (blk_below (g := gb104) (o := .cells #[.int .i64 a0_0, .bool a0_1, .int .i64 a0_2, .int .u64 a0_3, .string a0_4, .string a0_5, .string a0_6, .string a0_7, .string a0_8] 28 (0, 0)) (by (with_reducible repeat (first | refine blk_drewN ?_ _ | refine blk_drew ?_ | refine blk_alloc ?_ _)); exact BK104.out) hb)
        have n1_ := Aside0.mk (blk_below (g := gb105) (o := .cells #[.int .i64 a1_0, .bool a1_1, .int .i64 a1_2, .int .u64 a1_3, .string a1_4, .string a1_5, .string a1_6, .string a1_7, .string a1_8] 28 (0, 0)) (by (with_reducible repeat (first | refine blk_drewN ?_ _ | refine blk_drew ?_ | refine blk_alloc ?_ _)); exact BK105.out) hb)
        have n2_ := Aside0.mk (blk_below (g := gb109) (o := .cells #[.int .i64 t108, .bool a0_1, .int .i64 a0_2, .int .u64 a0_3, .string a0_4, .string a0_5, .string a0_6, .string a0_7, .string a0_8] 35 (0, 0)) (by (with_reducible repeat (first | refine blk_drewN ?_ _ | refine blk_drew ?_ | refine blk_alloc ?_ _)); exact BK109.out) hb)
        have n3_ := Aside0.mk (below_step (by repeat (first | (with_reducible first | exact HB.out | apply below_alloc | apply pw_below_drewN | apply below_drew1 | refine below_set ?_ GE104.out | refine below_set ?_ GE105.out | refine below_set ?_ GE109.out) | exact HB.out)) hb)
        have n4_ := Aside0.mk (hbox)
        have n5_ := Aside0.mk ((by rw [hg]; exact (below_size (by repeat (first | (with_reducible first | exact HB.out | apply below_alloc | apply pw_below_drewN | apply below_drew1 | refine below_set ?_ GE104.out | refine below_set ?_ GE105.out | refine below_set ?_ GE109.out) | exact HB.out))) : w.heap.size ≤ gb111))
        have n6_ := Aside0.mk ((by rw [hg]; exact (below_size (by repeat (first | (with_reducible first | exact HB.out | apply below_alloc | apply pw_below_drewN | apply below_drew1 | refine below_set ?_ GE104.out | refine below_set ?_ GE105.out | refine below_set ?_ GE109.out) | exact HB.out))) : w.heap.size ≤ gb111))
        have n7_ := Aside0.mk ((by rw [hg]; exact Nat.ne_of_lt (blk_lt (g := gb104) (o := .cells #[.int .i64 a0_0, .bool a0_1, .int .i64 a0_2, .int .u64 a0_3, .string a0_4, .string a0_5, .string a0_6, .string a0_7, .string a0_8] 28 (0, 0)) (by (with_reducible repeat (first | refine blk_drewN ?_ _ | refine blk_drew ?_ | refine blk_alloc ?_ _)); exact BK104.out)) : gb104 ≠ gb111))
        have n8_ := Aside0.mk ((by rw [hg]; exact Nat.ne_of_gt (blk_lt (g := gb104) (o := .cells #[.int .i64 a0_0, .bool a0_1, .int .i64 a0_2, .int .u64 a0_3, .string a0_4, .string a0_5, .string a0_6, .string a0_7, .string a0_8] 28 (0, 0)) (by (with_reducible repeat (first | refine blk_drewN ?_ _ | refine blk_drew ?_ | refine blk_alloc ?_ _)); exact BK104.out)) : gb111 ≠ gb104))
        have n9_ := Aside0.mk ((by rw [hg]; exact Nat.ne_of_lt (blk_lt (g := gb105) (o := .cells #[.int .i64 a1_0, .bool a1_1, .int .i64 a1_2, .int .u64 a1_3, .string a1_4, .string a1_5, .string a1_6, .string a1_7, .string a1_8] 28 (0, 0)) (by (with_reducible repeat (first | refine blk_drewN ?_ _ | refine blk_drew ?_ | refine blk_alloc ?_ _)); exact BK105.out)) : gb105 ≠ gb111))
        have n10_ := Aside0.mk ((by rw [hg]; exact Nat.ne_of_gt (blk_lt (g := gb105) (o := .cells #[.int .i64 a1_0, .bool a1_1, .int .i64 a1_2, .int .u64 a1_3, .string a1_4, .string a1_5, .string a1_6, .string a1_7, .string a1_8] 28 (0, 0)) (by (with_reducible repeat (first | refine blk_drewN ?_ _ | refine blk_drew ?_ | refine blk_alloc ?_ _)); exact BK105.out)) : gb111 ≠ gb105))
        have n11_ := Aside0.mk ((by rw [hg]; exact Nat.ne_of_lt (blk_lt (g := gb109) (o := .cells #[.int .i64 t108, .bool a0_1, .int .i64 a0_2, .int .u64 a0_3, .string a0_4, .string a0_5, .string a0_6, .string a0_7, .string a0_8] 35 (0, 0)) (by (with_reducible repeat (first | refine blk_drewN ?_ _ | refine blk_drew ?_ | refine blk_alloc ?_ _)); exact BK109.out)) : gb109 ≠ gb111))
        have n12_ := Aside0.mk ((by rw [hg]; exact Nat.ne_of_gt (blk_lt (g := gb109) (o := .cells #[.int .i64 t108, .bool a0_1, .int .i64 a0_2, .int .u64 a0_3, .string a0_4, .string a0_5, .string a0_6, .string a0_7, .string a0_8] 35 (0, 0)) (by (with_reducible repeat (first | refine blk_drewN ?_ _ | refine blk_drew ?_ | refine blk_alloc ?_ _)); exact BK109.out)) : gb111 ≠ gb109))
        clear BK104
        clear BK105
        clear BK109
        clear HB
        have BK104 := n0_
        have BK105 := n1_
        have BK109 := n2_
        have HB := n3_
        have BK111 := n4_
        have GW111 := n5_
        have GE111 := n6_
        have NB104_111 := n7_
        have NB111_104 := n8_
        have NB105_111 := n9_
        have NB111_105 := n10_
        have NB109_111 := n11_
        have NB111_109 := n12_
        clear n0_ n1_ n2_ n3_ n4_ n5_ n6_ n7_ n8_ n9_ n10_ n11_ n12_
        clear hb hbox hg
        refine hK.out _ _ ⟨(blk_cell BK105.out 0).trans rfl, (blk_cell BK105.out 1).trans rfl, (blk_cell BK105.out 2).trans rfl, (blk_cell BK105.out 3).trans rfl, (blk_cell BK105.out 4).trans rfl, (blk_cell BK105.out 5).trans rfl, (blk_cell BK105.out 6).trans rfl, (blk_cell BK105.out 7).trans rfl, (blk_cell BK105.out 8).trans rfl⟩ (fun hHeld => ?_)
        clear hK K
        refine norm_ (a' := ?_) ?_ ?_
        rotate_left
        · show Act.put _ (some 12) _ = _
          simp only [Act.put, List.setIfInBounds_toArray, List.set_cons_zero, List.set_cons_succ, i64_w, i32_w]
          rfl
        exact norm_ (by simp only [putAll, Act.put, List.setIfInBounds_toArray, List.set_cons_zero, List.set_cons_succ]) (hCont (gb111) _ ⟨hHeld, (by (with_reducible repeat (first | refine blk_drewN ?_ _ | refine blk_drew ?_ | refine blk_alloc ?_ _)); exact BK104.out), (by (with_reducible repeat (first | refine blk_drewN ?_ _ | refine blk_drew ?_ | refine blk_alloc ?_ _)); exact BK105.out), (by (with_reducible repeat (first | refine blk_drewN ?_ _ | refine blk_drew ?_ | refine blk_alloc ?_ _)); exact BK109.out), (by (with_reducible repeat (first | refine blk_drewN ?_ _ | refine blk_drew ?_ | refine blk_alloc ?_ _)); exact BK111.out), GW111.out, GE111.out, NB104_111.out, NB111_104.out, NB105_111.out, NB111_105.out, NB109_111.out, NB111_109.out, (by repeat (first | (with_reducible first | exact HB.out | apply below_alloc | apply pw_below_drewN | apply below_drew1 | refine below_set ?_ GE104.out | refine below_set ?_ GE105.out | refine below_set ?_ GE109.out | refine below_set ?_ GE111.out) | exact HB.out))⟩)
      · skip
        refine box_step ?hg (N := 12) ?hd (cs := #[.int .i64 0, .bool false, .int .i64 0, .int .u64 0, .string (⟨#[]⟩ : ByteArray), .string (⟨#[]⟩ : ByteArray), .string (⟨#[]⟩ : ByteArray), .string (⟨#[]⟩ : ByteArray), .string (⟨#[]⟩ : ByteArray)]) (t := 35) ?hr ?_; (case hd => rfl); (case hg => rfl); (case hr => first | (go_simp; done) | (go_simp; rfl))
        intro gb111 hg w70 hbox hb
        have n0_ := Aside0.mk (blk_below (g := gb104) (o := .cells #[.int .i64 a0_0, .bool a0_1, .int .i64 a0_2, .int .u64 a0_3, .string a0_4, .string a0_5, .string a0_6, .string a0_7, .string a0_8] 28 (0, 0)) (by (with_reducible repeat (first | refine blk_drewN ?_ _ | refine blk_drew ?_ | refine blk_alloc ?_ _)); exact BK104.out) hb)
        have n1_ := Aside0.mk (blk_below (g := gb105) (o := .cells #[.int .i64 a1_0, .bool a1_1, .int .i64 a1_2, .int .u64 a1_3, .string a1_4, .string a1_5, .string a1_6, .string a1_7, .string a1_8] 28 (0, 0)) (by (with_reducible repeat (first | refine blk_drewN ?_ _ | refine blk_drew ?_ | refine blk_alloc ?_ _)); exact BK105.out) hb)
        have n2_ := Aside0.mk (blk_below (g := gb109) (o := .cells #[.int .i64 t108, .bool a0_1, .int .i64 a0_2, .int .u64 a0_3, .string a0_4, .string a0_5, .string a0_6, .string a0_7, .string a0_8] 35 (0, 0)) (by (with_reducible repeat (first | refine blk_drewN ?_ _ | refine blk_drew ?_ | refine blk_alloc ?_ _)); exact BK109.out) hb)
        have n3_ := Aside0.mk (below_step (by repeat (first | (with_reducible first | exact HB.out | apply below_alloc | apply pw_below_drewN | apply below_drew1 | refine below_set ?_ GE104.out | refine below_set ?_ GE105.out | refine below_set ?_ GE109.out) | exact HB.out)) hb)
        have n4_ := Aside0.mk (hbox)
        have n5_ := Aside0.mk ((by rw [hg]; exact (below_size (by repeat (first | (with_reducible first | exact HB.out | apply below_alloc | apply pw_below_drewN | apply below_drew1 | refine below_set ?_ GE104.out | refine below_set ?_ GE105.out | refine below_set ?_ GE109.out) | exact HB.out))) : w.heap.size ≤ gb111))
        have n6_ := Aside0.mk ((by rw [hg]; exact (below_size (by repeat (first | (with_reducible first | exact HB.out | apply below_alloc | apply pw_below_drewN | apply below_drew1 | refine below_set ?_ GE104.out | refine below_set ?_ GE105.out | refine below_set ?_ GE109.out) | exact HB.out))) : w.heap.size ≤ gb111))
        have n7_ := Aside0.mk ((by rw [hg]; exact Nat.ne_of_lt (blk_lt (g := gb104) (o := .cells #[.int .i64 a0_0, .bool a0_1, .int .i64 a0_2, .int .u64 a0_3, .string a0_4, .string a0_5, .string a0_6, .string a0_7, .string a0_8] 28 (0, 0)) (by (with_reducible repeat (first | refine blk_drewN ?_ _ | refine blk_drew ?_ | refine blk_alloc ?_ _)); exact BK104.out)) : gb104 ≠ gb111))
        have n8_ := Aside0.mk ((by rw [hg]; exact Nat.ne_of_gt (blk_lt (g := gb104) (o := .cells #[.int .i64 a0_0, .bool a0_1, .int .i64 a0_2, .int .u64 a0_3, .string a0_4, .string a0_5, .string a0_6, .string a0_7, .string a0_8] 28 (0, 0)) (by (with_reducible repeat (first | refine blk_drewN ?_ _ | refine blk_drew ?_ | refine blk_alloc ?_ _)); exact BK104.out)) : gb111 ≠ gb104))
        have n9_ := Aside0.mk ((by rw [hg]; exact Nat.ne_of_lt (blk_lt (g := gb105) (o := .cells #[.int .i64 a1_0, .bool a1_1, .int .i64 a1_2, .int .u64 a1_3, .string a1_4, .string a1_5, .string a1_6, .string a1_7, .string a1_8] 28 (0, 0)) (by (with_reducible repeat (first | refine blk_drewN ?_ _ | refine blk_drew ?_ | refine blk_alloc ?_ _)); exact BK105.out)) : gb105 ≠ gb111))
        have n10_ := Aside0.mk ((by rw [hg]; exact Nat.ne_of_gt (blk_lt (g := gb105) (o := .cells #[.int .i64 a1_0, .bool a1_1, .int .i64 a1_2, .int .u64 a1_3, .string a1_4, .string a1_5, .string a1_6, .string a1_7, .string a1_8] 28 (0, 0)) (by (with_reducible repeat (first | refine blk_drewN ?_ _ | refine blk_drew ?_ | refine blk_alloc ?_ _)); exact BK105.out)) : gb111 ≠ gb105))
        have n11_ := Aside0.mk ((by rw [hg]; exact Nat.ne_of_lt (blk_lt (g := gb109) (o := .cells #[.int .i64 t108, .bool a0_1, .int .i64 a0_2, .int .u64 a0_3, .string a0_4, .string a0_5, .string a0_6, .string a0_7, .string a0_8] 35 (0, 0)) (by (with_reducible repeat (first | refine blk_drewN ?_ _ | refine blk_drew ?_ | refine blk_alloc ?_ _)); exact BK109.out)) : gb109 ≠ gb111))
        have n12_ := Aside0.mk ((by rw [hg]; exact Nat.ne_of_gt (blk_lt (g := gb109) (o := .cells #[.int .i64 t108, .bool a0_1, .int .i64 a0_2, .int .u64 a0_3, .string a0_4, .string a0_5, .string a0_6, .string a0_7, .string a0_8] 35 (0, 0)) (by (with_reducible repeat (first | refine blk_drewN ?_ _ | refine blk_drew ?_ | refine blk_alloc ?_ _)); exact BK109.out)) : gb111 ≠ gb109))
        clear BK104
        clear BK105
        clear BK109
        clear HB
        have BK104 := n0_
        have BK105 := n1_
        have BK109 := n2_
        have HB := n3_
        have BK111 := n4_
        have GW111 := n5_
        have GE111 := n6_
        have NB104_111 := n7_
        have NB111_104 := n8_
        have NB105_111 := n9_
        have NB111_105 := n10_
        have NB109_111 := n11_
        have NB111_109 := n12_
        clear n0_ n1_ n2_ n3_ n4_ n5_ n6_ n7_ n8_ n9_ n10_ n11_ n12_
        clear hb hbox hg
        refine hK.out _ _ ⟨(blk_cell BK105.out 0).trans rfl, (blk_cell BK105.out 1).trans rfl, (blk_cell BK105.out 2).trans rfl, (blk_cell BK105.out 3).trans rfl, (blk_cell BK105.out 4).trans rfl, (blk_cell BK105.out 5).trans rfl, (blk_cell BK105.out 6).trans rfl, (blk_cell BK105.out 7).trans rfl, (blk_cell BK105.out 8).trans rfl⟩ (fun hHeld => ?_)
        clear hK K
        refine norm_ (a' := ?_) ?_ ?_
        rotate_left
        · show Act.put _ (some 12) _ = _
          simp only [Act.put, List.setIfInBounds_toArray, List.set_cons_zero, List.set_cons_succ, i64_w, i32_w]
          rfl
        refine one_ (i := 2) (N := some 32) #[true, true, true, true, true, false, true, false] rfl rfl (one_of HT_.out (by kernel_rfl)) (by decide) (fun K hK => ?_)
        refine goes_ Try.func6 (by kernel_rfl) rfl #[.int .i64 a1_0] (by rfl) rfl rfl (by (try simp only [List.map_toArray, List.map_cons, List.map_nil]); first | done | rfl | (simp only [List.length_drop, List.length_take]; rfl)) ?_
        with_reducible refine (cofferlaw08_num.calls a1_0 t110 _ A7.out).mono ?_
        rintro e w' ⟨rfl, ⟨nd, rfl⟩⟩
        refine ⟨_, rfl, ?_⟩
        refine hK.out _ _ ⟨(blk_cell BK105.out 0).trans rfl, (blk_cell BK105.out 1).trans rfl, (blk_cell BK105.out 2).trans rfl, (blk_cell BK105.out 3).trans rfl, (blk_cell BK105.out 4).trans rfl, (blk_cell BK105.out 5).trans rfl, (blk_cell BK105.out 6).trans rfl, (blk_cell BK105.out 7).trans rfl, (blk_cell BK105.out 8).trans rfl⟩ (fun hHeld => ?_)
        clear hK K
        refine norm_ (a' := ?_) ?_ ?_
        rotate_left
        · show Act.put _ (some 32) _ = _
          simp only [Act.put, List.setIfInBounds_toArray, List.set_cons_zero, List.set_cons_succ, i64_w, i32_w]
          rfl
        refine pure_ (i := 5) (N := some 35) (v := ?_) (a' := ?_) #[true, true, true, true, true, true, true, false] rfl rfl (any_of HT_.out (by kernel_rfl)) (fun _ _ _ h => h) (Or.inl ⟨by rfl, ?_⟩) ?_ ?_
        rotate_left
        · intro w'
          go_simp
          with_reducible rfl
        rotate_left
        · simp only [Act.put, List.setIfInBounds_toArray, List.set_cons_zero, List.set_cons_succ, i64_w, i32_w]
          rfl
        exact norm_ (by simp only [putAll, Act.put, List.setIfInBounds_toArray, List.set_cons_zero, List.set_cons_succ]) (hCont (gb111) _ ⟨hHeld, (by (with_reducible repeat (first | refine blk_drewN ?_ _ | refine blk_drew ?_ | refine blk_alloc ?_ _)); exact BK104.out), (by (with_reducible repeat (first | refine blk_drewN ?_ _ | refine blk_drew ?_ | refine blk_alloc ?_ _)); exact BK105.out), (by (with_reducible repeat (first | refine blk_drewN ?_ _ | refine blk_drew ?_ | refine blk_alloc ?_ _)); exact BK109.out), (by (with_reducible repeat (first | refine blk_drewN ?_ _ | refine blk_drew ?_ | refine blk_alloc ?_ _)); exact BK111.out), GW111.out, GE111.out, NB104_111.out, NB111_104.out, NB105_111.out, NB111_105.out, NB109_111.out, NB111_109.out, (by repeat (first | (with_reducible first | exact HB.out | apply below_alloc | apply pw_below_drewN | apply below_drew1 | refine below_set ?_ GE104.out | refine below_set ?_ GE105.out | refine below_set ?_ GE109.out | refine below_set ?_ GE111.out) | exact HB.out))⟩)
    rintro gb111 w71 ⟨hS_, h0_, h1_, h2_, h3_, h4_, h5_, h6_, h7_, h8_, h9_, h10_, h11_, h12_⟩
    have n0_ : Aside0 (w71.heap[gb104]? = some (.cells #[.int .i64 a0_0, .bool a0_1, .int .i64 a0_2, .int .u64 a0_3, .string a0_4, .string a0_5, .string a0_6, .string a0_7, .string a0_8] 28 (0, 0))) := ⟨h0_⟩
    have n1_ : Aside0 (w71.heap[gb105]? = some (.cells #[.int .i64 a1_0, .bool a1_1, .int .i64 a1_2, .int .u64 a1_3, .string a1_4, .string a1_5, .string a1_6, .string a1_7, .string a1_8] 28 (0, 0))) := ⟨h1_⟩
    have n2_ : Aside0 (w71.heap[gb109]? = some (.cells #[.int .i64 t108, .bool a0_1, .int .i64 a0_2, .int .u64 a0_3, .string a0_4, .string a0_5, .string a0_6, .string a0_7, .string a0_8] 35 (0, 0))) := ⟨h2_⟩
    have n3_ : Aside0 (w71.heap[gb111]? = some (.cells #[.int .i64 0, .bool false, .int .i64 0, .int .u64 0, .string (⟨#[]⟩ : ByteArray), .string (⟨#[]⟩ : ByteArray), .string (⟨#[]⟩ : ByteArray), .string (⟨#[]⟩ : ByteArray), .string (⟨#[]⟩ : ByteArray)] 35 (0, 0))) := ⟨h3_⟩
    have n4_ : Aside0 (w.heap.size ≤ gb111) := ⟨h4_⟩
    have n5_ : Aside0 (w.heap.size ≤ gb111) := ⟨h5_⟩
    have n6_ : Aside0 (gb104 ≠ gb111) := ⟨h6_⟩
    have n7_ : Aside0 (gb111 ≠ gb104) := ⟨h7_⟩
    have n8_ : Aside0 (gb105 ≠ gb111) := ⟨h8_⟩
    have n9_ : Aside0 (gb111 ≠ gb105) := ⟨h9_⟩
    have n10_ : Aside0 (gb109 ≠ gb111) := ⟨h10_⟩
    have n11_ : Aside0 (gb111 ≠ gb109) := ⟨h11_⟩
    have n12_ : Aside0 (Below w.heap.size w w71) := ⟨h12_⟩
    clear BK104
    clear BK105
    clear BK109
    clear HB
    clear h0_ h1_ h2_ h3_ h4_ h5_ h6_ h7_ h8_ h9_ h10_ h11_ h12_
    have BK104 := n0_
    have BK105 := n1_
    have BK109 := n2_
    have BK111 := n3_
    have GW111 := n4_
    have GE111 := n5_
    have NB104_111 := n6_
    have NB111_104 := n7_
    have NB105_111 := n8_
    have NB111_105 := n9_
    have NB109_111 := n10_
    have NB111_109 := n11_
    have HB := n12_
    clear n0_ n1_ n2_ n3_ n4_ n5_ n6_ n7_ n8_ n9_ n10_ n11_ n12_
    have hHeld : w71.cell? ⟨gb105, 0, none⟩ = some (.int .i64 a1_0) ∧ w71.cell? ⟨gb105, 1, none⟩ = some (.bool a1_1) ∧ w71.cell? ⟨gb105, 2, none⟩ = some (.int .i64 a1_2) ∧ w71.cell? ⟨gb105, 3, none⟩ = some (.int .u64 a1_3) ∧ w71.cell? ⟨gb105, 4, none⟩ = some (.string a1_4) ∧ w71.cell? ⟨gb105, 5, none⟩ = some (.string a1_5) ∧ w71.cell? ⟨gb105, 6, none⟩ = some (.string a1_6) ∧ w71.cell? ⟨gb105, 7, none⟩ = some (.string a1_7) ∧ w71.cell? ⟨gb105, 8, none⟩ = some (.string a1_8) := hS_
    refine norm_ (a' := ?_) ?_ ?_
    rotate_left
    · simp only [putAll, Act.put, List.setIfInBounds_toArray, List.set_cons_zero, List.set_cons_succ]
      rfl
    refine one_ (i := 7) (N := none) #[true, true, true, true, true, true, true, true] rfl rfl (one_of HT_.out (by kernel_rfl)) (by decide) (fun K hK => ?_)
    have hs72 : w71.cell? ⟨gb111, 0, none⟩ = some (.int .i64 0) := (blk_cell BK111.out 0).trans rfl
    have hfs72 := blk_frozen BK111.out 0
    have hns72_0 := NB104_111.out
    have hns72_1 := NB105_111.out
    have hns72_2 := NB109_111.out
    have hms72_0 := NB111_104.out
    have hms72_1 := NB111_105.out
    have hms72_2 := NB111_109.out
    have hs73 : w71.cell? ⟨gb111, 1, none⟩ = some (.bool false) := (blk_cell BK111.out 1).trans rfl
    have hfs73 := blk_frozen BK111.out 1
    have hns73_0 := NB104_111.out
    have hns73_1 := NB105_111.out
    have hns73_2 := NB109_111.out
    have hms73_0 := NB111_104.out
    have hms73_1 := NB111_105.out
    have hms73_2 := NB111_109.out
    have hs74 : w71.cell? ⟨gb111, 2, none⟩ = some (.int .i64 0) := (blk_cell BK111.out 2).trans rfl
    have hfs74 := blk_frozen BK111.out 2
    have hns74_0 := NB104_111.out
    have hns74_1 := NB105_111.out
    have hns74_2 := NB109_111.out
    have hms74_0 := NB111_104.out
    have hms74_1 := NB111_105.out
    have hms74_2 := NB111_109.out
    have hs75 : w71.cell? ⟨gb111, 3, none⟩ = some (.int .u64 0) := (blk_cell BK111.out 3).trans rfl
    have hfs75 := blk_frozen BK111.out 3
    have hns75_0 := NB104_111.out
    have hns75_1 := NB105_111.out
    have hns75_2 := NB109_111.out
    have hms75_0 := NB111_104.out
    have hms75_1 := NB111_105.out
    have hms75_2 := NB111_109.out
    have hs76 : w71.cell? ⟨gb111, 4, none⟩ = some (.string (⟨#[]⟩ : ByteArray)) := (blk_cell BK111.out 4).trans rfl
    have hfs76 := blk_frozen BK111.out 4
    have hns76_0 := NB104_111.out
    have hns76_1 := NB105_111.out
    have hns76_2 := NB109_111.out
    have hms76_0 := NB111_104.out
    have hms76_1 := NB111_105.out
    have hms76_2 := NB111_109.out
    have hs77 : w71.cell? ⟨gb111, 5, none⟩ = some (.string (⟨#[]⟩ : ByteArray)) := (blk_cell BK111.out 5).trans rfl
    have hfs77 := blk_frozen BK111.out 5
    have hns77_0 := NB104_111.out
    have hns77_1 := NB105_111.out
    have hns77_2 := NB109_111.out
    have hms77_0 := NB111_104.out
    have hms77_1 := NB111_105.out
    have hms77_2 := NB111_109.out
    have hs78 : w71.cell? ⟨gb111, 6, none⟩ = some (.string (⟨#[]⟩ : ByteArray)) := (blk_cell BK111.out 6).trans rfl
    have hfs78 := blk_frozen BK111.out 6
    have hns78_0 := NB104_111.out
    have hns78_1 := NB105_111.out
    have hns78_2 := NB109_111.out
    have hms78_0 := NB111_104.out
    have hms78_1 := NB111_105.out
    have hms78_2 := NB111_109.out
    have hs79 : w71.cell? ⟨gb111, 7, none⟩ = some (.string (⟨#[]⟩ : ByteArray)) := (blk_cell BK111.out 7).trans rfl
    have hfs79 := blk_frozen BK111.out 7
    have hns79_0 := NB104_111.out
    have hns79_1 := NB105_111.out
    have hns79_2 := NB109_111.out
    have hms79_0 := NB111_104.out
    have hms79_1 := NB111_105.out
    have hms79_2 := NB111_109.out
    have hs80 : w71.cell? ⟨gb111, 8, none⟩ = some (.string (⟨#[]⟩ : ByteArray)) := (blk_cell BK111.out 8).trans rfl
    have hfs80 := blk_frozen BK111.out 8
    have hns80_0 := NB104_111.out
    have hns80_1 := NB105_111.out
    have hns80_2 := NB109_111.out
    have hms80_0 := NB111_104.out
    have hms80_1 := NB111_105.out
    have hms80_2 := NB111_109.out
    refine skip_ (w1 := ?_) (by rfl) rfl ?_ ?_
    rotate_left
    · go_simp
      rfl
    refine hK.out _ _ ⟨((cell_far (p := ⟨gb111, _, none⟩) NB105_111.out _).trans (((cell_far (p := ⟨gb111, _, none⟩) NB105_111.out _).trans (((cell_far (p := ⟨gb111, _, none⟩) NB105_111.out _).trans (((cell_far (p := ⟨gb111, _, none⟩) NB105_111.out _).trans (((cell_far (p := ⟨gb111, _, none⟩) NB105_111.out _).trans (((cell_far (p := ⟨gb111, _, none⟩) NB105_111.out _).trans (((cell_far (p := ⟨gb111, _, none⟩) NB105_111.out _).trans (((cell_far (p := ⟨gb111, _, none⟩) NB105_111.out _).trans (((cell_far (p := ⟨gb111, _, none⟩) NB105_111.out _).trans (hHeld.1)))))))))))))))))), ((cell_far (p := ⟨gb111, _, none⟩) NB105_111.out _).trans (((cell_far (p := ⟨gb111, _, none⟩) NB105_111.out _).trans (((cell_far (p := ⟨gb111, _, none⟩) NB105_111.out _).trans (((cell_far (p := ⟨gb111, _, none⟩) NB105_111.out _).trans (((cell_far (p := ⟨gb111, _, none⟩) NB105_111.out _).trans (((cell_far (p := ⟨gb111, _, none⟩) NB105_111.out _).trans (((cell_far (p := ⟨gb111, _, none⟩) NB105_111.out _).trans (((cell_far (p := ⟨gb111, _, none⟩) NB105_111.out _).trans (((cell_far (p := ⟨gb111, _, none⟩) NB105_111.out _).trans (hHeld.2.1)))))))))))))))))), ((cell_far (p := ⟨gb111, _, none⟩) NB105_111.out _).trans (((cell_far (p := ⟨gb111, _, none⟩) NB105_111.out _).trans (((cell_far (p := ⟨gb111, _, none⟩) NB105_111.out _).trans (((cell_far (p := ⟨gb111, _, none⟩) NB105_111.out _).trans (((cell_far (p := ⟨gb111, _, none⟩) NB105_111.out _).trans (((cell_far (p := ⟨gb111, _, none⟩) NB105_111.out _).trans (((cell_far (p := ⟨gb111, _, none⟩) NB105_111.out _).trans (((cell_far (p := ⟨gb111, _, none⟩) NB105_111.out _).trans (((cell_far (p := ⟨gb111, _, none⟩) NB105_111.out _).trans (hHeld.2.2.1)))))))))))))))))), ((cell_far (p := ⟨gb111, _, none⟩) NB105_111.out _).trans (((cell_far (p := ⟨gb111, _, none⟩) NB105_111.out _).trans (((cell_far (p := ⟨gb111, _, none⟩) NB105_111.out _).trans (((cell_far (p := ⟨gb111, _, none⟩) NB105_111.out _).trans (((cell_far (p := ⟨gb111, _, none⟩) NB105_111.out _).trans (((cell_far (p := ⟨gb111, _, none⟩) NB105_111.out _).trans (((cell_far (p := ⟨gb111, _, none⟩) NB105_111.out _).trans (((cell_far (p := ⟨gb111, _, none⟩) NB105_111.out _).trans (((cell_far (p := ⟨gb111, _, none⟩) NB105_111.out _).trans (hHeld.2.2.2.1)))))))))))))))))), ((cell_far (p := ⟨gb111, _, none⟩) NB105_111.out _).trans (((cell_far (p := ⟨gb111, _, none⟩) NB105_111.out _).trans (((cell_far (p := ⟨gb111, _, none⟩) NB105_111.out _).trans (((cell_far (p := ⟨gb111, _, none⟩) NB105_111.out _).trans (((cell_far (p := ⟨gb111, _, none⟩) NB105_111.out _).trans (((cell_far (p := ⟨gb111, _, none⟩) NB105_111.out _).trans (((cell_far (p := ⟨gb111, _, none⟩) NB105_111.out _).trans (((cell_far (p := ⟨gb111, _, none⟩) NB105_111.out _).trans (((cell_far (p := ⟨gb111, _, none⟩) NB105_111.out _).trans (hHeld.2.2.2.2.1)))))))))))))))))), ((cell_far (p := ⟨gb111, _, none⟩) NB105_111.out _).trans (((cell_far (p := ⟨gb111, _, none⟩) NB105_111.out _).trans (((cell_far (p := ⟨gb111, _, none⟩) NB105_111.out _).trans (((cell_far (p := ⟨gb111, _, none⟩) NB105_111.out _).trans (((cell_far (p := ⟨gb111, _, none⟩) NB105_111.out _).trans (((cell_far (p := ⟨gb111, _, none⟩) NB105_111.out _).trans (((cell_far (p := ⟨gb111, _, none⟩) NB105_111.out _).trans (((cell_far (p := ⟨gb111, _, none⟩) NB105_111.out _).trans (((cell_far (p := ⟨gb111, _, none⟩) NB105_111.out _).trans (hHeld.2.2.2.2.2.1)))))))))))))))))), ((cell_far (p := ⟨gb111, _, none⟩) NB105_111.out _).trans (((cell_far (p := ⟨gb111, _, none⟩) NB105_111.out _).trans (((cell_far (p := ⟨gb111, _, none⟩) NB105_111.out _).trans (((cell_far (p := ⟨gb111, _, none⟩) NB105_111.out _).trans (((cell_far (p := ⟨gb111, _, none⟩) NB105_111.out _).trans (((cell_far (p := ⟨gb111, _, none⟩) NB105_111.out _).trans (((cell_far (p := ⟨gb111, _, none⟩) NB105_111.out _).trans (((cell_far (p := ⟨gb111, _, none⟩) NB105_111.out _).trans (((cell_far (p := ⟨gb111, _, none⟩) NB105_111.out _).trans (hHeld.2.2.2.2.2.2.1)))))))))))))))))), ((cell_far (p := ⟨gb111, _, none⟩) NB105_111.out _).trans (((cell_far (p := ⟨gb111, _, none⟩) NB105_111.out _).trans (((cell_far (p := ⟨gb111, _, none⟩) NB105_111.out _).trans (((cell_far (p := ⟨gb111, _, none⟩) NB105_111.out _).trans (((cell_far (p := ⟨gb111, _, none⟩) NB105_111.out _).trans (((cell_far (p := ⟨gb111, _, none⟩) NB105_111.out _).trans (((cell_far (p := ⟨gb111, _, none⟩) NB105_111.out _).trans (((cell_far (p := ⟨gb111, _, none⟩) NB105_111.out _).trans (((cell_far (p := ⟨gb111, _, none⟩) NB105_111.out _).trans (hHeld.2.2.2.2.2.2.2.1)))))))))))))))))), ((cell_far (p := ⟨gb111, _, none⟩) NB105_111.out _).trans (((cell_far (p := ⟨gb111, _, none⟩) NB105_111.out _).trans (((cell_far (p := ⟨gb111, _, none⟩) NB105_111.out _).trans (((cell_far (p := ⟨gb111, _, none⟩) NB105_111.out _).trans (((cell_far (p := ⟨gb111, _, none⟩) NB105_111.out _).trans (((cell_far (p := ⟨gb111, _, none⟩) NB105_111.out _).trans (((cell_far (p := ⟨gb111, _, none⟩) NB105_111.out _).trans (((cell_far (p := ⟨gb111, _, none⟩) NB105_111.out _).trans (((cell_far (p := ⟨gb111, _, none⟩) NB105_111.out _).trans (hHeld.2.2.2.2.2.2.2.2))))))))))))))))))⟩ (fun hHeld => ?_)
    clear hK K
    refine done_ (done_of HT_.out (by kernel_rfl)) ?_
    have hnb81 := NB109_104.out
    have hnc81 := NB104_109.out
    have hnb82 := NB109_105.out
    have hnc82 := NB105_109.out
    have hnb83 := NB109_111.out
    have hnc83 := NB111_109.out
    have hcz84_0 : w71.cell? ⟨gb109, 0, none⟩ = some (.int .i64 t108) := (blk_cell BK109.out 0).trans rfl
    have hcz84_1 : w71.cell? ⟨gb109, 1, none⟩ = some (.bool a0_1) := (blk_cell BK109.out 1).trans rfl
    have hcz84_2 : w71.cell? ⟨gb109, 2, none⟩ = some (.int .i64 a0_2) := (blk_cell BK109.out 2).trans rfl
    have hcz84_3 : w71.cell? ⟨gb109, 3, none⟩ = some (.int .u64 a0_3) := (blk_cell BK109.out 3).trans rfl
    have hcz84_4 : w71.cell? ⟨gb109, 4, none⟩ = some (.string a0_4) := (blk_cell BK109.out 4).trans rfl
    have hcz84_5 : w71.cell? ⟨gb109, 5, none⟩ = some (.string a0_5) := (blk_cell BK109.out 5).trans rfl
    have hcz84_6 : w71.cell? ⟨gb109, 6, none⟩ = some (.string a0_6) := (blk_cell BK109.out 6).trans rfl
    have hcz84_7 : w71.cell? ⟨gb109, 7, none⟩ = some (.string a0_7) := (blk_cell BK109.out 7).trans rfl
    have hcz84_8 : w71.cell? ⟨gb109, 8, none⟩ = some (.string a0_8) := (blk_cell BK109.out 8).trans rfl
    have hfz84_0 := blk_frozen BK109.out 0
    have hfz84_1 := blk_frozen BK109.out 1
    have hfz84_2 := blk_frozen BK109.out 2
    have hfz84_3 := blk_frozen BK109.out 3
    have hfz84_4 := blk_frozen BK109.out 4
    have hfz84_5 := blk_frozen BK109.out 5
    have hfz84_6 := blk_frozen BK109.out 6
    have hfz84_7 := blk_frozen BK109.out 7
    have hfz84_8 := blk_frozen BK109.out 8
    have hnb85 := NB111_104.out
    have hnc85 := NB104_111.out
    have hnb86 := NB111_105.out
    have hnc86 := NB105_111.out
    have hcz87_0 : w71.cell? ⟨gb111, 0, none⟩ = some (.int .i64 0) := (blk_cell BK111.out 0).trans rfl
    have hcz87_1 : w71.cell? ⟨gb111, 1, none⟩ = some (.bool false) := (blk_cell BK111.out 1).trans rfl
    have hcz87_2 : w71.cell? ⟨gb111, 2, none⟩ = some (.int .i64 0) := (blk_cell BK111.out 2).trans rfl
    have hcz87_3 : w71.cell? ⟨gb111, 3, none⟩ = some (.int .u64 0) := (blk_cell BK111.out 3).trans rfl
    have hcz87_4 : w71.cell? ⟨gb111, 4, none⟩ = some (.string (⟨#[]⟩ : ByteArray)) := (blk_cell BK111.out 4).trans rfl
    have hcz87_5 : w71.cell? ⟨gb111, 5, none⟩ = some (.string (⟨#[]⟩ : ByteArray)) := (blk_cell BK111.out 5).trans rfl
    have hcz87_6 : w71.cell? ⟨gb111, 6, none⟩ = some (.string (⟨#[]⟩ : ByteArray)) := (blk_cell BK111.out 6).trans rfl
    have hcz87_7 : w71.cell? ⟨gb111, 7, none⟩ = some (.string (⟨#[]⟩ : ByteArray)) := (blk_cell BK111.out 7).trans rfl
    have hcz87_8 : w71.cell? ⟨gb111, 8, none⟩ = some (.string (⟨#[]⟩ : ByteArray)) := (blk_cell BK111.out 8).trans rfl
    have hfz87_0 := blk_frozen BK111.out 0
    have hfz87_1 := blk_frozen BK111.out 1
    have hfz87_2 := blk_frozen BK111.out 2
    have hfz87_3 := blk_frozen BK111.out 3
    have hfz87_4 := blk_frozen BK111.out 4
    have hfz87_5 := blk_frozen BK111.out 5
    have hfz87_6 := blk_frozen BK111.out 6
    have hfz87_7 := blk_frozen BK111.out 7
    have hfz87_8 := blk_frozen BK111.out 8
    try go_wp2_with (first | ((with_reducible refine gate_callee (f := 7) rfl ?_); refine goesL_ (some 41) rfl rfl Try.func7 (by kernel_rfl) rfl #[.agg #[.int .i64 t108, .bool a0_1, .int .i64 a0_2, .int .u64 a0_3, .string a0_4, .string a0_5, .string a0_6, .string a0_7, .string a0_8], .agg #[.int .i64 t110, .bool a1_1, .int .i64 a1_2, .int .u64 a1_3, .string a1_4, .string a1_5, .string a1_6, .string a1_7, .string a1_8], .bool a2, .bool a3] rfl (by (try simp only [List.map_toArray, List.map_cons, List.map_nil]); first | done | rfl | (simp only [List.length_drop, List.length_take]; rfl)) ?_; (with_reducible refine (cofferref08_Choose.calls k t108 a0_1 a0_2 a0_3 a0_4 a0_5 a0_6 a0_7 a0_8 t110 a1_1 a1_2 a1_3 a1_4 a1_5 a1_6 a1_7 a1_8 a2 a3 t112 t113 _ A8.out).mono ?_); rintro e w88 ⟨rfl, hb⟩; refine ⟨_, rfl, ?_⟩; have n0_ := Aside0.mk (blk_below (g := gb104) (o := .cells #[.int .i64 a0_0, .bool a0_1, .int .i64 a0_2, .int .u64 a0_3, .string a0_4, .string a0_5, .string a0_6, .string a0_7, .string a0_8] 28 (0, 0)) (by (with_reducible repeat (first | refine blk_drewN ?_ _ | refine blk_drew ?_ | refine blk_alloc ?_ _)); refine blk_far ?_ NB104_111.out _; (with_reducible repeat (first | refine blk_drewN ?_ _ | refine blk_drew ?_ | refine blk_alloc ?_ _)); refine blk_far ?_ NB104_111.out _; (with_reducible repeat (first | refine blk_drewN ?_ _ | refine blk_drew ?_ | refine blk_alloc ?_ _)); refine blk_far ?_ NB104_111.out _; (with_reducible repeat (first | refine blk_drewN ?_ _ | refine blk_drew ?_ | refine blk_alloc ?_ _)); refine blk_far ?_ NB104_111.out _; (with_reducible repeat (first | refine blk_drewN ?_ _ | refine blk_drew ?_ | refine blk_alloc ?_ _)); refine blk_far ?_ NB104_111.out _; (with_reducible repeat (first | refine blk_drewN ?_ _ | refine blk_drew ?_ | refine blk_alloc ?_ _)); refine blk_far ?_ NB104_111.out _; (with_reducible repeat (first | refine blk_drewN ?_ _ | refine blk_drew ?_ | refine blk_alloc ?_ _)); refine blk_far ?_ NB104_111.out _; (with_reducible repeat (first | refine blk_drewN ?_ _ | refine blk_drew ?_ | refine blk_alloc ?_ _)); refine blk_far ?_ NB104_111.out _; (with_reducible repeat (first | refine blk_drewN ?_ _ | refine blk_drew ?_ | refine blk_alloc ?_ _)); refine blk_far ?_ NB104_111.out _; (with_reducible repeat (first | refine blk_drewN ?_ _ | refine blk_drew ?_ | refine blk_alloc ?_ _)); exact BK104.out) hb); have n1_ := Aside0.mk (blk_below (g := gb105) (o := .cells #[.int .i64 a1_0, .bool a1_1, .int .i64 a1_2, .int .u64 a1_3, .string a1_4, .string a1_5, .string a1_6, .string a1_7, .string a1_8] 28 (0, 0)) (by (with_reducible repeat (first | refine blk_drewN ?_ _ | refine blk_drew ?_ | refine blk_alloc ?_ _)); refine blk_far ?_ NB105_111.out _; (with_reducible repeat (first | refine blk_drewN ?_ _ | refine blk_drew ?_ | refine blk_alloc ?_ _)); refine blk_far ?_ NB105_111.out _; (with_reducible repeat (first | refine blk_drewN ?_ _ | refine blk_drew ?_ | refine blk_alloc ?_ _)); refine blk_far ?_ NB105_111.out _; (with_reducible repeat (first | refine blk_drewN ?_ _ | refine blk_drew ?_ | refine blk_alloc ?_ _)); refine blk_far ?_ NB105_111.out _; (with_reducible repeat (first | refine blk_drewN ?_ _ | refine blk_drew ?_ | refine blk_alloc ?_ _)); refine blk_far ?_ NB105_111.out _; (with_reducible repeat (first | refine blk_drewN ?_ _ | refine blk_drew ?_ | refine blk_alloc ?_ _)); refine blk_far ?_ NB105_111.out _; (with_reducible repeat (first | refine blk_drewN ?_ _ | refine blk_drew ?_ | refine blk_alloc ?_ _)); refine blk_far ?_ NB105_111.out _; (with_reducible repeat (first | refine blk_drewN ?_ _ | refine blk_drew ?_ | refine blk_alloc ?_ _)); refine blk_far ?_ NB105_111.out _; (with_reducible repeat (first | refine blk_drewN ?_ _ | refine blk_drew ?_ | refine blk_alloc ?_ _)); refine blk_far ?_ NB105_111.out _; (with_reducible repeat (first | refine blk_drewN ?_ _ | refine blk_drew ?_ | refine blk_alloc ?_ _)); exact BK105.out) hb); have n2_ := Aside0.mk (blk_below (g := gb109) (o := .cells #[.int .i64 t108, .bool a0_1, .int .i64 a0_2, .int .u64 a0_3, .string a0_4, .string a0_5, .string a0_6, .string a0_7, .string a0_8] 35 (0, 0)) (by (with_reducible repeat (first | refine blk_drewN ?_ _ | refine blk_drew ?_ | refine blk_alloc ?_ _)); refine blk_far ?_ NB109_111.out _; (with_reducible repeat (first | refine blk_drewN ?_ _ | refine blk_drew ?_ | refine blk_alloc ?_ _)); refine blk_far ?_ NB109_111.out _; (with_reducible repeat (first | refine blk_drewN ?_ _ | refine blk_drew ?_ | refine blk_alloc ?_ _)); refine blk_far ?_ NB109_111.out _; (with_reducible repeat (first | refine blk_drewN ?_ _ | refine blk_drew ?_ | refine blk_alloc ?_ _)); refine blk_far ?_ NB109_111.out _; (with_reducible repeat (first | refine blk_drewN ?_ _ | refine blk_drew ?_ | refine blk_alloc ?_ _)); refine blk_far ?_ NB109_111.out _; (with_reducible repeat (first | refine blk_drewN ?_ _ | refine blk_drew ?_ | refine blk_alloc ?_ _)); refine blk_far ?_ NB109_111.out _; (with_reducible repeat (first | refine blk_drewN ?_ _ | refine blk_drew ?_ | refine blk_alloc ?_ _)); refine blk_far ?_ NB109_111.out _; (with_reducible repeat (first | refine blk_drewN ?_ _ | refine blk_drew ?_ | refine blk_alloc ?_ _)); refine blk_far ?_ NB109_111.out _; (with_reducible repeat (first | refine blk_drewN ?_ _ | refine blk_drew ?_ | refine blk_alloc ?_ _)); refine blk_far ?_ NB109_111.out _; (with_reducible repeat (first | refine blk_drewN ?_ _ | refine blk_drew ?_ | refine blk_alloc ?_ _)); exact BK109.out) hb); have n3_ := Aside0.mk (blk_below (g := gb111) (o := .cells #[.int .i64 t110, .bool a1_1, .int .i64 a1_2, .int .u64 a1_3, .string a1_4, .string a1_5, .string a1_6, .string a1_7, .string a1_8] 35 (0, 0)) (by (with_reducible repeat (first | refine blk_drewN ?_ _ | refine blk_drew ?_ | refine blk_alloc ?_ _)); refine blk_put (cs := #[.int .i64 t110, .bool a1_1, .int .i64 a1_2, .int .u64 a1_3, .string a1_4, .string a1_5, .string a1_6, .string a1_7, .string (⟨#[]⟩ : ByteArray)]) ?_ 8 _ rfl; (with_reducible repeat (first | refine blk_drewN ?_ _ | refine blk_drew ?_ | refine blk_alloc ?_ _)); refine blk_put (cs := #[.int .i64 t110, .bool a1_1, .int .i64 a1_2, .int .u64 a1_3, .string a1_4, .string a1_5, .string a1_6, .string (⟨#[]⟩ : ByteArray), .string (⟨#[]⟩ : ByteArray)]) ?_ 7 _ rfl; (with_reducible repeat (first | refine blk_drewN ?_ _ | refine blk_drew ?_ | refine blk_alloc ?_ _)); refine blk_put (cs := #[.int .i64 t110, .bool a1_1, .int .i64 a1_2, .int .u64 a1_3, .string a1_4, .string a1_5, .string (⟨#[]⟩ : ByteArray), .string (⟨#[]⟩ : ByteArray), .string (⟨#[]⟩ : ByteArray)]) ?_ 6 _ rfl; (with_reducible repeat (first | refine blk_drewN ?_ _ | refine blk_drew ?_ | refine blk_alloc ?_ _)); refine blk_put (cs := #[.int .i64 t110, .bool a1_1, .int .i64 a1_2, .int .u64 a1_3, .string a1_4, .string (⟨#[]⟩ : ByteArray), .string (⟨#[]⟩ : ByteArray), .string (⟨#[]⟩ : ByteArray), .string (⟨#[]⟩ : ByteArray)]) ?_ 5 _ rfl; (with_reducible repeat (first | refine blk_drewN ?_ _ | refine blk_drew ?_ | refine blk_alloc ?_ _)); refine blk_put (cs := #[.int .i64 t110, .bool a1_1, .int .i64 a1_2, .int .u64 a1_3, .string (⟨#[]⟩ : ByteArray), .string (⟨#[]⟩ : ByteArray), .string (⟨#[]⟩ : ByteArray), .string (⟨#[]⟩ : ByteArray), .string (⟨#[]⟩ : ByteArray)]) ?_ 4 _ rfl; (with_reducible repeat (first | refine blk_drewN ?_ _ | refine blk_drew ?_ | refine blk_alloc ?_ _)); refine blk_put (cs := #[.int .i64 t110, .bool a1_1, .int .i64 a1_2, .int .u64 0, .string (⟨#[]⟩ : ByteArray), .string (⟨#[]⟩ : ByteArray), .string (⟨#[]⟩ : ByteArray), .string (⟨#[]⟩ : ByteArray), .string (⟨#[]⟩ : ByteArray)]) ?_ 3 _ rfl; (with_reducible repeat (first | refine blk_drewN ?_ _ | refine blk_drew ?_ | refine blk_alloc ?_ _)); refine blk_put (cs := #[.int .i64 t110, .bool a1_1, .int .i64 0, .int .u64 0, .string (⟨#[]⟩ : ByteArray), .string (⟨#[]⟩ : ByteArray), .string (⟨#[]⟩ : ByteArray), .string (⟨#[]⟩ : ByteArray), .string (⟨#[]⟩ : ByteArray)]) ?_ 2 _ rfl; (with_reducible repeat (first | refine blk_drewN ?_ _ | refine blk_drew ?_ | refine blk_alloc ?_ _)); refine blk_put (cs := #[.int .i64 t110, .bool false, .int .i64 0, .int .u64 0, .string (⟨#[]⟩ : ByteArray), .string (⟨#[]⟩ : ByteArray), .string (⟨#[]⟩ : ByteArray), .string (⟨#[]⟩ : ByteArray), .string (⟨#[]⟩ : ByteArray)]) ?_ 1 _ rfl; (with_reducible repeat (first | refine blk_drewN ?_ _ | refine blk_drew ?_ | refine blk_alloc ?_ _)); refine blk_put (cs := #[.int .i64 0, .bool false, .int .i64 0, .int .u64 0, .string (⟨#[]⟩ : ByteArray), .string (⟨#[]⟩ : ByteArray), .string (⟨#[]⟩ : ByteArray), .string (⟨#[]⟩ : ByteArray), .string (⟨#[]⟩ : ByteArray)]) ?_ 0 _ rfl; (with_reducible repeat (first | refine blk_drewN ?_ _ | refine blk_drew ?_ | refine blk_alloc ?_ _)); exact BK111.out) hb); have n4_ := Aside0.mk (below_step (by repeat (first | (with_reducible first | exact HB.out | apply below_alloc | apply pw_below_drewN | apply below_drew1 | refine below_set ?_ GE104.out | refine below_set ?_ GE105.out | refine below_set ?_ GE109.out | refine below_set ?_ GE111.out) | exact HB.out)) hb); clear BK104; clear BK105; clear BK109; clear BK111; clear HB; have BK104 := n0_; have BK105 := n1_; have BK109 := n2_; have BK111 := n3_; have HB := n4_; clear n0_ n1_ n2_ n3_ n4_; (try clear hb); (try clear hb2); (try clear hk); (try clear hi)))
    go_ret
    exact ⟨by first | rfl | (simp [errW_none, errW_some] <;> rfl) | (simp [*, errW_none, errW_some] <;> rfl), by repeat (first | (with_reducible first | exact HB.out | apply below_alloc | apply pw_below_drewN | apply below_drew1 | refine below_set ?_ GE104.out | refine below_set ?_ GE105.out | refine below_set ?_ GE109.out | refine below_set ?_ GE111.out) | exact HB.out)⟩

end Go.Proofs.Ytglcapkmeecknaa.PHeaderChooses
