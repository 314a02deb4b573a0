/- The library's bytes.indexFunc, laid at this program: the table of numbers, the facts, the contract. The walk of header.ended: a text up to its first zero, zeros behind. Functions as the kit's print has them, taken out of a part that holds one that does not build. (Written by takeout.py.) Which sizes a copy can have: by bits, and by doubling. A row of bytes of the call's own, known whole. header.put at any place of a row; header.magic. (Written by gen24.py.) The walks of both fronts: magic, version, size. header.fields: where a copy's texts lie. (Written by gen25.py.) digest.kindOf at 256. (Written by gen70.py.) digest.first at 256: the words that SHA-256 begins with. (Written by gen71.py.) digest.begin at 256. (Written by gen58.py.) A digest's state as a row of cells: what lies where. digest.state.take where what was fed and what is fed are whole blocks. (Written by gen60.py.) Blocks taken one behind the other: a list in parts. digest.Stream.Write: parts of whole blocks. (Written by gen52.py.) (Merged by merge.py.) -/
import Derived.Test.YtglcapkmeecknaaDoorShelfU
import Derived.Shelf.Spec.BytesIndexFunc
import Derived.Test.YtglcapkmeecknaaDoorQB
import Derived.Deep.RegionWith
import Derived.Test.YtglcapkmeecknaaDoorPHeaderPacksx0
import Derived.Test.YtglcapkmeecknaaDoorPHeaderPacksx1
import Derived.Test.YtglcapkmeecknaaDoorShelf
import Derived.Lib.IndexAny
import Derived.Test.YtglcapkmeecknaaDoorQA
import Derived.Laws.CopyOwn
import Derived.Lib.BufferWrite
import Derived.IntWalk
import Derived.Deep.RegionHeld3
import Derived.Deep.MidRow
import Derived.Deep.WholeRow
import Derived.StillTailTactics
import Derived.Test.YtglcapkmeecknaaDoorPHeaderPacksx3
/-! ## LayU -/
namespace Go.Proofs.YtglcapkmeecknaaDoor.layu
open Go.Shelf Go.RowKit
def ren : Go.Shelf.Ren := ⟨fun | 32 => 75 | 49 => 80 | 55 => 66 | n => n, fun | 0 => 0 | 3 => 3 | 4 => 4 | 5 => 5 | 21 => 21 | 25 => 77 | 30 => 25 | 33 => 119 | 48 => 81 | 66 => 115 | 68 => 125 | 69 => 126 | n => n, fun | 2 => 6 | 3 => 7 | n => n⟩
theorem lays : Go.Proofs.Lays7.n55 Tryd.prog ren := {
  mixed := by kernel_rfl
  f32 := Tryd.func75.trans (congrArg some (by kernel_rfl))
  f49 := Tryd.func80.trans (congrArg some (by kernel_rfl))
  f55 := Tryd.func66.trans (congrArg some (by kernel_rfl))
  t0 := Tryd.underlying0
  a0 := Tryd.isAgg0
  z0 := Tryd.sizeOf0
  v0 := Tryd.zeroValue0
  i0 := by kernel_rfl
  t3 := Tryd.underlying3
  a3 := Tryd.isAgg3
  z3 := Tryd.sizeOf3
  v3 := Tryd.zeroValue3
  i3 := by kernel_rfl
  t4 := Tryd.underlying4
  a4 := Tryd.isAgg4
  z4 := Tryd.sizeOf4
  v4 := Tryd.zeroValue4
  i4 := by kernel_rfl
  t5 := Tryd.underlying5
  a5 := Tryd.isAgg5
  z5 := Tryd.sizeOf5
  v5 := Tryd.zeroValue5
  i5 := by kernel_rfl
  t21 := Tryd.underlying21
  a21 := Tryd.isAgg21
  z21 := Tryd.sizeOf21
  v21 := Tryd.zeroValue21
  i21 := by kernel_rfl
  t25 := Tryd.underlying77
  a25 := Tryd.isAgg77
  z25 := Tryd.sizeOf77
  v25 := Tryd.zeroValue77
  i25 := by kernel_rfl
  t30 := Tryd.underlying25
  a30 := Tryd.isAgg25
  z30 := Tryd.sizeOf25
  v30 := Tryd.zeroValue25
  i30 := by kernel_rfl
  t33 := Tryd.underlying119
  a33 := Tryd.isAgg119
  z33 := Tryd.sizeOf119
  v33 := Tryd.zeroValue119
  i33 := by kernel_rfl
  t48 := Tryd.underlying81
  a48 := Tryd.isAgg81
  z48 := Tryd.sizeOf81
  v48 := Tryd.zeroValue81
  i48 := by kernel_rfl
  t66 := Tryd.underlying115
  a66 := Tryd.isAgg115
  z66 := Tryd.sizeOf115
  t68 := Tryd.underlying125
  a68 := Tryd.isAgg125
  z68 := Tryd.sizeOf125
  v68 := Tryd.zeroValue125
  i68 := by kernel_rfl
  t69 := Tryd.underlying126
  a69 := Tryd.isAgg126
  z69 := Tryd.sizeOf126
  v69 := Tryd.zeroValue126
  i69 := by kernel_rfl
  g2 := by kernel_rfl
  g3 := by kernel_rfl }
end Go.Proofs.YtglcapkmeecknaaDoor.layu
/-! ## E32 -/
namespace Go.Proofs.YtglcapkmeecknaaDoor.e32
open Go Go.RowKit Go.Proofs.YtglcapkmeecknaaDoor.tk Go.Proofs.YtglcapkmeecknaaDoor.g31 Go.Proofs.YtglcapkmeecknaaDoor.g36 Go.Proofs.YtglcapkmeecknaaDoor.PHeaderPacks Go.Proofs.YtglcapkmeecknaaDoorW.PrintWords Go.Proofs.YtglcapkmeecknaaDoorW.PrintLast Go.Proofs.YtglcapkmeecknaaDoorW.PrintMore
set_option linter.unusedVariables false
set_option linter.unusedSimpArgs false
theorem nz_call (w : World) (x : Nat) : Calls Tryd.prog 49 #[.int .i32 x] w fun e w' => e = .returned (.bool (nz x)) ∧ w' = w := by
  have h : ((x : Int) != 0) = nz x := by
    unfold nz
    by_cases hx : x = 0
    · subst hx; rfl
    · rw [show ((x : Int) != 0) = true from bne_iff_ne.mpr (by omega)]
      simp [hx]
  go_enter Tryd.func49, Tryd.ntmps49
  go_wp2
  go_ret
  exact ⟨rfl, rfl⟩
theorem bytesAt {w : World} {g o : Nat} {b : List Int} (hb : Byt b) (hC : Kd.C (Kd.int .u8) w (some ⟨g, o, none⟩) b.length b) : BytesAt (strOfNums b) g o w := by
  intro j hj
  rw [strOfNums_size] at hj
  obtain ⟨ad', ea, hc⟩ := Kd.at_int hC (j : Int) (by omega) (by omega)
  cases ea
  rw [Int.toNat_natCast] at hc
  rw [str_get b hb j hj, ← add_at]
  exact hc
theorem index_call (w : World) (g o c : Nat) (b : List Int) (hlc : b.length ≤ c) (hb : Byt b) (hl : b.length ≤ 140737488355328) (hC : Kd.C (Kd.int .u8) w (some ⟨g, o, none⟩) b.length b) (hT : Lib.Utf8Tabs 6 7 w) :
    Calls Tryd.prog 66 #[.slice (some ⟨g, o, none⟩) b.length c, .func (.func 49) #[] #[], .bool true] w fun e w' => e = .returned (.int .i64 (Lib.idxFunc nz true (strOfNums b))) ∧ Below w.heap.size w w' := by
  have h := Any7.bytes_indexFunc layu.lays 49 #[] (enters_of Tryd.func49 (by kernel_rfl) rfl) nz true (strOfNums b) g o c w (by rw [strOfNums_size]; exact hlc) (by rw [strOfNums_size]; omega) (bytesAt hb hC) hT
    (fun W x hx hB => (nz_call W x).mono fun e w' ⟨h1, h2⟩ => ⟨h1, h2 ▸ Below.refl _ _⟩)
  rw [strOfNums_size] at h
  exact h
theorem contains_call (w : World) (g o c : Nat) (b : List Int) (hlc : b.length ≤ c) (hb : Byt b) (hl : b.length ≤ 140737488355328) (hC : Kd.C (Kd.int .u8) w (some ⟨g, o, none⟩) b.length b) (hT : Lib.Utf8Tabs 6 7 w) :
    Calls Tryd.prog 48 #[.slice (some ⟨g, o, none⟩) b.length c, .func (.func 49) #[] #[]] w fun e w' => e = .returned (.bool (!zs b)) ∧ Below w.heap.size w w' := by
  have hidx := index_call w g o c b hlc hb hl hC hT
  have hany : decide (0 ≤ Lib.idxFunc nz true (strOfNums b)) = !zs b := by
    unfold Lib.idxFunc
    rw [func_any b hb _ 0 (by rw [strOfNums_size]; omega), List.drop_zero]
    unfold zs
    rw [← any_all, Bool.not_not]
  have hidx2 : Calls Tryd.prog 56 #[.slice (some ⟨g, o, none⟩) b.length c, .func (.func 49) #[] #[]] w fun e w' => e = .returned (.int .i64 (Lib.idxFunc nz true (strOfNums b))) ∧ Below w.heap.size w w' := by
    generalize Lib.idxFunc nz true (strOfNums b) = x at *
    clear hany
    go_enter Tryd.func56, Tryd.ntmps56
    go_wp2_with (go_at_call 66; refine hidx.mono ?_; rintro e W ⟨rfl, hb1⟩)
    go_ret
    exact ⟨rfl, hb1⟩
  clear hidx
  generalize Lib.idxFunc nz true (strOfNums b) = x at *
  generalize (!zs b) = z at *
  have hge : decide (x ≥ 0) = z := hany
  clear hany
  go_enter Tryd.func48, Tryd.ntmps48
  go_wp2_with (go_at_call 56; refine hidx2.mono ?_; rintro e W ⟨rfl, hb1⟩)
  go_ret
  exact ⟨by subst hge; rfl, hb1⟩
theorem index1 (W : World) (g o c n d : Nat) (b : List Int) (hb : Byt b) (hC : Kd.C (Kd.int .u8) W (some ⟨g, o, none⟩) b.length b) (hz : W.cell? ⟨n, 0, none⟩ = some (.int .u8 0)) :
    Calls Tryd.prog 55 #[.slice (some ⟨g, o, none⟩) b.length c, .slice (some ⟨n, 0, none⟩) 1 d] W fun e w' => e = .returned (.int .i64 (if fz b < b.length then (fz b : Int) else -1)) ∧ ∃ q, w' = W.drewN q := by
  have h := Tryd.bytes_Index_one_at ⟨g, o, none⟩ b.length c n 0 d b 0 W rfl (fun i hi => by
    obtain ⟨ad', ea, hc⟩ := Kd.at_int hC (i : Int) (by omega) (by omega)
    cases ea
    rw [Int.toNat_natCast, rd_nat] at hc
    rw [List.getD_eq_getElem?_getD]
    exact hc) hz
  refine h.mono fun e w' ⟨h1, h2⟩ => ⟨?_, 0, h2⟩
  rw [h1, show (0 : Int).toNat.toUInt8 = (0 : UInt8) from rfl, idx_fz b hb]
theorem cut_found (W : World) (g o c n d : Nat) (b : List Int) (hlc : b.length ≤ c) (hl : b.length ≤ 140737488355328) (hb : Byt b) (hC : Kd.C (Kd.int .u8) W (some ⟨g, o, none⟩) b.length b) (hz : W.cell? ⟨n, 0, none⟩ = some (.int .u8 0)) (hf : fz b < b.length) :
    Calls Tryd.prog 47 #[.slice (some ⟨g, o, none⟩) b.length c, .slice (some ⟨n, 0, none⟩) 1 d] W fun e w' => (e = .returned (.tuple #[.slice (some ⟨g, o, none⟩) (fz b) c, .slice (some ⟨g, if c = fz b + 1 then o else o + (fz b + 1), none⟩) (b.length - (fz b + 1)) (c - (fz b + 1)), .bool true])) ∧ Below W.heap.size W w' := by
  have hi := index1 W g o c n d b hb hC hz
  rw [if_pos hf] at hi
  refine (Tryd.bytes_Cut_of (some ⟨g, o, none⟩) (some ⟨n, 0, none⟩) b.length c 1 d (fz b : Int) W hlc (by omega) (fun _ => by omega) (by omega) hi).mono ?_
  rintro e w' ⟨rfl, q, rfl⟩
  refine ⟨?_, below_drewNg W q⟩
  unfold Lib.cutV Lib.fromV
  rw [if_pos (by omega), Int.toNat_natCast]
  have e : (if c = fz b + 1 then some (⟨g, o, none⟩ : Addr) else Option.map (fun x : Addr => x.add (fz b + 1)) (some (⟨g, o, none⟩ : Addr))) = some ⟨g, if c = fz b + 1 then o else o + (fz b + 1), none⟩ := by split <;> simp [Addr.add]
  rw [e]
theorem cut_none (W : World) (g o c n d : Nat) (b : List Int) (hlc : b.length ≤ c) (hl : b.length ≤ 140737488355328) (hb : Byt b) (hC : Kd.C (Kd.int .u8) W (some ⟨g, o, none⟩) b.length b) (hz : W.cell? ⟨n, 0, none⟩ = some (.int .u8 0)) (hf : ¬ fz b < b.length) :
    Calls Tryd.prog 47 #[.slice (some ⟨g, o, none⟩) b.length c, .slice (some ⟨n, 0, none⟩) 1 d] W fun e w' => (e = .returned (.tuple #[.slice (some ⟨g, o, none⟩) b.length c, .slice none 0 0, .bool false])) ∧ Below W.heap.size W w' := by
  have hi := index1 W g o c n d b hb hC hz
  rw [if_neg hf] at hi
  refine (Tryd.bytes_Cut_of (some ⟨g, o, none⟩) (some ⟨n, 0, none⟩) b.length c 1 d (-1) W hlc (by omega) (fun h => by omega) (by omega) hi).mono ?_
  rintro e w' ⟨rfl, q, rfl⟩
  exact ⟨rfl, below_drewNg W q⟩
set_option maxHeartbeats 1000000 in
set_option maxRecDepth 100000 in
theorem ended_call (w : World) (g o c : Nat) (b : List Int) (hlc : b.length ≤ c) (hb : Byt b) (hl : b.length ≤ 140737488355328) (hC : Kd.C (Kd.int .u8) w (some ⟨g, o, none⟩) b.length b) (hT : Lib.Utf8Tabs 6 7 w) :
    Calls Tryd.prog 32 #[.slice (some ⟨g, o, none⟩) b.length c] w fun e w' => e = .returned (.tuple #[.string (tkS b), .bool (tkB b)]) ∧ Below w.heap.size w w' := by
  have hB0 : Below w.heap.size w (w.alloc (.cells #[.int .u8 0] 5)) := below_alloc (Below.refl _ w) _
  have hz0 : (w.alloc (.cells #[.int .u8 0] 5)).cell? ⟨w.heap.size, 0, none⟩ = some (.int .u8 0) := (blk_cell (blk_new w (.cells #[.int .u8 0] 5)) 0).trans rfl
  by_cases hf : fz b < b.length
  · have hcall := fun d => cut_found _ g o c w.heap.size d b hlc hl hb (Kd.C_below hC hB0) hz0 hf
    have hS : ∀ W : World, Below w.heap.size w W → (convert 25 9 (.slice (some ⟨g, o, none⟩) (fz b) c)).run Tryd.prog W = .ok (.string (tkS b)) W := fun W hW =>
      str_ ((upto_ ⟨g, o, none⟩ b c hlc (fz b : Int) (fz b) rfl (by omega)).2.2 W (Kd.C_below hC hW))
    have hld : (b.drop (fz b + 1)).length = b.length - (fz b + 1) := List.length_drop
    have hA : ∀ W : World, Below w.heap.size w W → Calls Tryd.prog 48 #[.slice (some ⟨g, if c = fz b + 1 then o else o + (fz b + 1), none⟩) (b.length - (fz b + 1)) (c - (fz b + 1)), .func (.func 49) #[] #[]] W fun e w' => e = .returned (.bool (!zs (b.drop (fz b + 1)))) ∧ Below W.heap.size W w' := by
      intro W hW
      have hd := Kd.C_drop (k := Kd.int .u8) (Kd.C_below hC hW) (m := fz b + 1) (c := c) (by omega) hlc
      have e : (if c = fz b + 1 then some (⟨g, o, none⟩ : Addr) else Option.map (fun x : Addr => x.add ((fz b + 1) * (Kd.int .u8).sz)) (some (⟨g, o, none⟩ : Addr))) = some ⟨g, if c = fz b + 1 then o else o + (fz b + 1), none⟩ := by
        rw [show (Kd.int .u8).sz = 1 from rfl, Nat.mul_one]; split <;> simp [Addr.add]
      rw [e] at hd
      have h := contains_call W g (if c = fz b + 1 then o else o + (fz b + 1)) (c - (fz b + 1)) (b.drop (fz b + 1)) (by rw [hld]; omega) (hb.drop _) (by rw [hld]; omega) hd (Utf8Tabs_below hT hW)
      rw [hld] at h
      exact h
    have hZ : tkB b = zs (b.drop (fz b + 1)) := by
      unfold tkB zs
      rw [decide_eq_true hf, Bool.true_and, tail_all b hf]
    rw [hZ]
    generalize zs (b.drop (fz b + 1)) = z at *
    generalize (if c = fz b + 1 then o else o + (fz b + 1)) = o2 at *
    generalize tkS b = S at *
    clear hZ hld hf hT
    generalize b.length - (fz b + 1) = k1 at *
    generalize c - (fz b + 1) = k2 at *
    generalize fz b = k0 at *
    go_enter Tryd.func32, Tryd.ntmps32
    go_wp2_with (go_at_call 47; refine (hcall _).mono ?_; rintro e W2 ⟨rfl, hb2⟩; have hB2 := hB0.trans (hb2.mono hB0.size); have hS2 := hS _ (below_drew hB2); have hB2d := below_drew hB2; clear hcall)
    go_region_with (go_at_call 48; refine (hA _ hB2d).mono ?_; rintro e W3 ⟨rfl, hb3⟩; have hB3 := hB2d.trans (hb3.mono hB2d.size); have hS3 := hS _ hB3)
    all_goals (go_wp2; go_ret2; exact ⟨rfl, hB3⟩)
  · have hcall := fun d => cut_none _ g o c w.heap.size d b hlc hl hb (Kd.C_below hC hB0) hz0 hf
    have hS : ∀ W : World, Below w.heap.size w W → (convert 25 9 (.slice (some ⟨g, o, none⟩) b.length c)).run Tryd.prog W = .ok (.string (tkS b)) W := by
      intro W hW
      have h := str_ (c := c) (Kd.C_below hC hW)
      have e : tkS b = strOfNums b := by unfold tkS; rw [List.take_of_length_le (by omega)]
      rw [e]
      exact h
    have hZ : tkB b = false := by
      unfold tkB
      rw [decide_eq_false hf, Bool.false_and]
    rw [hZ]
    generalize tkS b = S at *
    clear hZ hf hT
    go_enter Tryd.func32, Tryd.ntmps32
    go_wp2_with (go_at_call 47; refine (hcall _).mono ?_; rintro e W2 ⟨rfl, hb2⟩; have hB2 := hB0.trans (hb2.mono hB0.size); have hSn : ∀ n, (convert 25 9 (.slice (some ⟨g, o, none⟩) b.length c)).run Tryd.prog (W2.drewN n) = .ok (.string S) (W2.drewN n) := fun n => hS _ (hB2.trans ((below_drewNg W2 n).mono hB2.size)); clear hcall)
    go_quiet (fail)
    go_wp2
    go_ret2
    exact ⟨rfl, by first | exact hB2.trans ((below_drewNg W2 _).mono hB2.size) | exact below_drew hB2 | skip⟩
end Go.Proofs.YtglcapkmeecknaaDoor.e32
/-! ## Small -/
namespace Go.Proofs.YtglcapkmeecknaaDoor.PHeaderPacks
open Go.RowKit Go.Proofs.YtglcapkmeecknaaDoorW.PrintWords Go.Proofs.YtglcapkmeecknaaDoorW.PrintLast Go.Proofs.YtglcapkmeecknaaDoorW.PrintMore
attribute [local go_sem] max2_int min2_int max_two min_two max_three min_three max_four min_four   -- for this text's walks alone
set_option linter.unusedVariables false
set_option linter.unusedSimpArgs false
def cofferref08_Begin.f (a0_0 : Bool) (a0_1 : Int) (a0_2 : Int) (a0_3 : ByteArray) (a0_4 : ByteArray) (a0_5 : ByteArray) (a0_6 : ByteArray) (a0_7 : ByteArray) : Option (Int) := if a0_0 = true then (some a0_1) else (some 0)
set_option maxHeartbeats 8000000 in
set_option maxRecDepth 100000 in
theorem cofferref08_Begin.calls (a0_0 : Bool) (a0_1 : Int) (a0_2 : Int) (a0_3 : ByteArray) (a0_4 : ByteArray) (a0_5 : ByteArray) (a0_6 : ByteArray) (a0_7 : ByteArray) (r : Int) (w : World) (h : cofferref08_Begin.f a0_0 a0_1 a0_2 a0_3 a0_4 a0_5 a0_6 a0_7 = some r) :
    Calls Tryd.prog 21 #[.agg #[.bool a0_0, .int .i64 a0_1, .int .u64 a0_2, .string a0_3, .string a0_4, .string a0_5, .string a0_6, .string a0_7]] w fun e w' => e = .returned (.int .i64 r) ∧ Below w.heap.size w w' := by
  have hu24 := Tryd.underlying24
  have HB := Aside0.mk (Below.refl w.heap.size w)
  have H : (if a0_0 = true then (some a0_1) else (some 0)) = some r := h
  clear h
  by_cases c2 : a0_0 = true
  · subst c2
    have H1 : (some a0_1) = some r := by rw [if_pos rfl] at H; exact H
    clear H
    have H := H1
    clear H1
    obtain rfl := Option.some.inj H
    go_enter Tryd.func21, Tryd.ntmps21
    go_wp2_with (first | ((with_reducible refine gate_dst (N := 1) rfl ?_); refine box_event ?hg (N := 1) ?hd (cs := #[.bool true, .int .i64 a0_1, .int .u64 a0_2, .string a0_3, .string a0_4, .string a0_5, .string a0_6, .string a0_7]) (t := 24) ?hr ?_; (case hd => rfl); (case hg => rfl); (case hr => first | (go_simp; done) | (go_simp; rfl)); intro gb126 hg w3 hbox hb; have n0_ := Aside0.mk (below_step (by repeat (first | (with_reducible first | exact HB.out | apply below_alloc | apply pw_below_drewN | apply below_drew1) | exact HB.out)) hb); have n1_ := Aside0.mk (hbox); have n2_ := Aside0.mk ((by rw [hg]; exact (below_size (by repeat (first | (with_reducible first | exact HB.out | apply below_alloc | apply pw_below_drewN | apply below_drew1) | exact HB.out))) : w.heap.size ≤ gb126)); have n3_ := Aside0.mk ((by rw [hg]; exact (below_size (by repeat (first | (with_reducible first | exact HB.out | apply below_alloc | apply pw_below_drewN | apply below_drew1) | exact HB.out))) : w.heap.size ≤ gb126)); clear HB; have HB := n0_; have BK126 := n1_; have GW126 := n2_; have GE126 := n3_; clear n0_ n1_ n2_ n3_; clear hb hbox hg; have hcz4_0 : w3.cell? ⟨gb126, 0, none⟩ = some (.bool true) := (blk_cell BK126.out 0).trans rfl; have hcz4_1 : w3.cell? ⟨gb126, 1, none⟩ = some (.int .i64 a0_1) := (blk_cell BK126.out 1).trans rfl; have hcz4_2 : w3.cell? ⟨gb126, 2, none⟩ = some (.int .u64 a0_2) := (blk_cell BK126.out 2).trans rfl; have hcz4_3 : w3.cell? ⟨gb126, 3, none⟩ = some (.string a0_3) := (blk_cell BK126.out 3).trans rfl; have hcz4_4 : w3.cell? ⟨gb126, 4, none⟩ = some (.string a0_4) := (blk_cell BK126.out 4).trans rfl; have hcz4_5 : w3.cell? ⟨gb126, 5, none⟩ = some (.string a0_5) := (blk_cell BK126.out 5).trans rfl; have hcz4_6 : w3.cell? ⟨gb126, 6, none⟩ = some (.string a0_6) := (blk_cell BK126.out 6).trans rfl; have hcz4_7 : w3.cell? ⟨gb126, 7, none⟩ = some (.string a0_7) := (blk_cell BK126.out 7).trans rfl; have hfz4_0 := blk_frozen BK126.out 0; have hfz4_1 := blk_frozen BK126.out 1; have hfz4_2 := blk_frozen BK126.out 2; have hfz4_3 := blk_frozen BK126.out 3; have hfz4_4 := blk_frozen BK126.out 4; have hfz4_5 := blk_frozen BK126.out 5; have hfz4_6 := blk_frozen BK126.out 6; have hfz4_7 := blk_frozen BK126.out 7))
    go_ret
    exact ⟨by first | rfl | (simp [errW_none, errW_some] <;> rfl) | (simp [*, errW_none, errW_some] <;> rfl), by repeat (first | (with_reducible first | exact HB.out | apply below_alloc | apply pw_below_drewN | apply below_drew1 | refine below_set ?_ GE126.out) | exact HB.out)⟩
  · replace c2 := Bool.eq_false_iff.mpr c2
    subst c2
    have H1 : (some 0) = some r := by rw [if_neg (show ¬ (false = true) by decide)] at H; exact H
    clear H
    have H := H1
    clear H1
    obtain rfl := Option.some.inj H
    go_enter Tryd.func21, Tryd.ntmps21
    go_wp2_with (first | ((with_reducible refine gate_dst (N := 1) rfl ?_); refine box_event ?hg (N := 1) ?hd (cs := #[.bool false, .int .i64 a0_1, .int .u64 a0_2, .string a0_3, .string a0_4, .string a0_5, .string a0_6, .string a0_7]) (t := 24) ?hr ?_; (case hd => rfl); (case hg => rfl); (case hr => first | (go_simp; done) | (go_simp; rfl)); intro gb126 hg w5 hbox hb; have n0_ := Aside0.mk (below_step (by repeat (first | (with_reducible first | exact HB.out | apply below_alloc | apply pw_below_drewN | apply below_drew1) | exact HB.out)) hb); have n1_ := Aside0.mk (hbox); have n2_ := Aside0.mk ((by rw [hg]; exact (below_size (by repeat (first | (with_reducible first | exact HB.out | apply below_alloc | apply pw_below_drewN | apply below_drew1) | exact HB.out))) : w.heap.size ≤ gb126)); have n3_ := Aside0.mk ((by rw [hg]; exact (below_size (by repeat (first | (with_reducible first | exact HB.out | apply below_alloc | apply pw_below_drewN | apply below_drew1) | exact HB.out))) : w.heap.size ≤ gb126)); clear HB; have HB := n0_; have BK126 := n1_; have GW126 := n2_; have GE126 := n3_; clear n0_ n1_ n2_ n3_; clear hb hbox hg; have hcz6_0 : w5.cell? ⟨gb126, 0, none⟩ = some (.bool false) := (blk_cell BK126.out 0).trans rfl; have hcz6_1 : w5.cell? ⟨gb126, 1, none⟩ = some (.int .i64 a0_1) := (blk_cell BK126.out 1).trans rfl; have hcz6_2 : w5.cell? ⟨gb126, 2, none⟩ = some (.int .u64 a0_2) := (blk_cell BK126.out 2).trans rfl; have hcz6_3 : w5.cell? ⟨gb126, 3, none⟩ = some (.string a0_3) := (blk_cell BK126.out 3).trans rfl; have hcz6_4 : w5.cell? ⟨gb126, 4, none⟩ = some (.string a0_4) := (blk_cell BK126.out 4).trans rfl; have hcz6_5 : w5.cell? ⟨gb126, 5, none⟩ = some (.string a0_5) := (blk_cell BK126.out 5).trans rfl; have hcz6_6 : w5.cell? ⟨gb126, 6, none⟩ = some (.string a0_6) := (blk_cell BK126.out 6).trans rfl; have hcz6_7 : w5.cell? ⟨gb126, 7, none⟩ = some (.string a0_7) := (blk_cell BK126.out 7).trans rfl; have hfz6_0 := blk_frozen BK126.out 0; have hfz6_1 := blk_frozen BK126.out 1; have hfz6_2 := blk_frozen BK126.out 2; have hfz6_3 := blk_frozen BK126.out 3; have hfz6_4 := blk_frozen BK126.out 4; have hfz6_5 := blk_frozen BK126.out 5; have hfz6_6 := blk_frozen BK126.out 6; have hfz6_7 := blk_frozen BK126.out 7))
    go_ret
    exact ⟨by first | rfl | (simp [errW_none, errW_some] <;> rfl) | (simp [*, errW_none, errW_some] <;> rfl), by repeat (first | (with_reducible first | exact HB.out | apply below_alloc | apply pw_below_drewN | apply below_drew1 | refine below_set ?_ GE126.out) | exact HB.out)⟩

def header_isHead.f (a0 : Int) : Option (Bool) := if a0 ≥ 16384 then (if a0 ≤ 4194304 then (some ((Go.bits .and .u64 a0 (IntKind.u64.wrap (a0 - 1))) == 0)) else (some false)) else (some false)
set_option maxHeartbeats 8000000 in
set_option maxRecDepth 100000 in
theorem header_isHead.calls (a0 : Int) (r : Bool) (w : World) (h : header_isHead.f a0 = some r) :
    Calls Tryd.prog 38 #[.int .u64 a0] w fun e w' => e = .returned (.bool r) ∧ Drawn0 w w' := by
  have H : (if a0 ≥ 16384 then (if a0 ≤ 4194304 then (some ((Go.bits .and .u64 a0 (IntKind.u64.wrap (a0 - 1))) == 0)) else (some false)) else (some false)) = some r := h
  clear h
  by_cases c2 : a0 ≥ 16384
  · rw [if_pos c2] at H
    have c2b0 : decide (16384 ≤ a0) = true := decide_eq_true c2
    clear c2
    by_cases c3 : a0 ≤ 4194304
    · rw [if_pos c3] at H
      have c3b0 : decide (a0 ≤ 4194304) = true := decide_eq_true c3
      clear c3
      obtain rfl := Option.some.inj H
      go_enter Tryd.func38, Tryd.ntmps38
      go_wp2
      go_ret
      exact ⟨by first | rfl | (simp; done) | (simp [*]; done), by repeat (first | exact Drawn0.refl _ | apply Drawn0.step)⟩
    · rw [if_neg c3] at H
      have c3b0 : decide (a0 ≤ 4194304) = false := decide_eq_false c3
      clear c3
      obtain rfl := Option.some.inj H
      go_enter Tryd.func38, Tryd.ntmps38
      go_wp2
      go_ret
      exact ⟨by first | rfl | (simp; done) | (simp [*]; done), by repeat (first | exact Drawn0.refl _ | apply Drawn0.step)⟩
  · rw [if_neg c2] at H
    have c2b0 : decide (16384 ≤ a0) = false := decide_eq_false c2
    clear c2
    obtain rfl := Option.some.inj H
    go_enter Tryd.func38, Tryd.ntmps38
    go_wp2
    go_ret
    exact ⟨by first | rfl | (simp; done) | (simp [*]; done), by repeat (first | exact Drawn0.refl _ | apply Drawn0.step)⟩

/-! ### bytealg_Cutover: function 64 -/
def header_begin.f (a0_0 : Bool) (a0_1 : Int) (a0_2 : Int) (a0_3 : ByteArray) (a0_4 : ByteArray) (a0_5 : ByteArray) (a0_6 : ByteArray) (a0_7 : ByteArray) : Option (Int) := if a0_0 = true then (some a0_1) else (some 0)
set_option maxHeartbeats 8000000 in
set_option maxRecDepth 100000 in
theorem header_begin.calls (a0_0 : Bool) (a0_1 : Int) (a0_2 : Int) (a0_3 : ByteArray) (a0_4 : ByteArray) (a0_5 : ByteArray) (a0_6 : ByteArray) (a0_7 : ByteArray) (r : Int) (w : World) (h : header_begin.f a0_0 a0_1 a0_2 a0_3 a0_4 a0_5 a0_6 a0_7 = some r) :
    Calls Tryd.prog 26 #[.agg #[.bool a0_0, .int .i64 a0_1, .int .u64 a0_2, .string a0_3, .string a0_4, .string a0_5, .string a0_6, .string a0_7]] w fun e w' => e = .returned (.int .i64 r) ∧ Below w.heap.size w w' := by
  have hu24 := Tryd.underlying24
  have HB := Aside0.mk (Below.refl w.heap.size w)
  have H : (if a0_0 = true then (some a0_1) else (some 0)) = some r := h
  clear h
  by_cases c2 : a0_0 = true
  · subst c2
    have H1 : (some a0_1) = some r := by rw [if_pos rfl] at H; exact H
    clear H
    have H := H1
    clear H1
    obtain rfl := Option.some.inj H
    go_enter Tryd.func26, Tryd.ntmps26
    go_wp2_with (first | ((with_reducible refine gate_dst (N := 1) rfl ?_); refine box_event ?hg (N := 1) ?hd (cs := #[.bool true, .int .i64 a0_1, .int .u64 a0_2, .string a0_3, .string a0_4, .string a0_5, .string a0_6, .string a0_7]) (t := 24) ?hr ?_; (case hd => rfl); (case hg => rfl); (case hr => first | (go_simp; done) | (go_simp; rfl)); intro gb154 hg w3 hbox hb; have n0_ := Aside0.mk (below_step (by repeat (first | (with_reducible first | exact HB.out | apply below_alloc | apply pw_below_drewN | apply below_drew1) | exact HB.out)) hb); have n1_ := Aside0.mk (hbox); have n2_ := Aside0.mk ((by rw [hg]; exact (below_size (by repeat (first | (with_reducible first | exact HB.out | apply below_alloc | apply pw_below_drewN | apply below_drew1) | exact HB.out))) : w.heap.size ≤ gb154)); have n3_ := Aside0.mk ((by rw [hg]; exact (below_size (by repeat (first | (with_reducible first | exact HB.out | apply below_alloc | apply pw_below_drewN | apply below_drew1) | exact HB.out))) : w.heap.size ≤ gb154)); clear HB; have HB := n0_; have BK154 := n1_; have GW154 := n2_; have GE154 := n3_; clear n0_ n1_ n2_ n3_; clear hb hbox hg; have hcz4_0 : w3.cell? ⟨gb154, 0, none⟩ = some (.bool true) := (blk_cell BK154.out 0).trans rfl; have hcz4_1 : w3.cell? ⟨gb154, 1, none⟩ = some (.int .i64 a0_1) := (blk_cell BK154.out 1).trans rfl; have hcz4_2 : w3.cell? ⟨gb154, 2, none⟩ = some (.int .u64 a0_2) := (blk_cell BK154.out 2).trans rfl; have hcz4_3 : w3.cell? ⟨gb154, 3, none⟩ = some (.string a0_3) := (blk_cell BK154.out 3).trans rfl; have hcz4_4 : w3.cell? ⟨gb154, 4, none⟩ = some (.string a0_4) := (blk_cell BK154.out 4).trans rfl; have hcz4_5 : w3.cell? ⟨gb154, 5, none⟩ = some (.string a0_5) := (blk_cell BK154.out 5).trans rfl; have hcz4_6 : w3.cell? ⟨gb154, 6, none⟩ = some (.string a0_6) := (blk_cell BK154.out 6).trans rfl; have hcz4_7 : w3.cell? ⟨gb154, 7, none⟩ = some (.string a0_7) := (blk_cell BK154.out 7).trans rfl; have hfz4_0 := blk_frozen BK154.out 0; have hfz4_1 := blk_frozen BK154.out 1; have hfz4_2 := blk_frozen BK154.out 2; have hfz4_3 := blk_frozen BK154.out 3; have hfz4_4 := blk_frozen BK154.out 4; have hfz4_5 := blk_frozen BK154.out 5; have hfz4_6 := blk_frozen BK154.out 6; have hfz4_7 := blk_frozen BK154.out 7))
    go_ret
    exact ⟨by first | rfl | (simp [errW_none, errW_some] <;> rfl) | (simp [*, errW_none, errW_some] <;> rfl), by repeat (first | (with_reducible first | exact HB.out | apply below_alloc | apply pw_below_drewN | apply below_drew1 | refine below_set ?_ GE154.out) | exact HB.out)⟩
  · replace c2 := Bool.eq_false_iff.mpr c2
    subst c2
    have H1 : (some 0) = some r := by rw [if_neg (show ¬ (false = true) by decide)] at H; exact H
    clear H
    have H := H1
    clear H1
    obtain rfl := Option.some.inj H
    go_enter Tryd.func26, Tryd.ntmps26
    go_wp2_with (first | ((with_reducible refine gate_dst (N := 1) rfl ?_); refine box_event ?hg (N := 1) ?hd (cs := #[.bool false, .int .i64 a0_1, .int .u64 a0_2, .string a0_3, .string a0_4, .string a0_5, .string a0_6, .string a0_7]) (t := 24) ?hr ?_; (case hd => rfl); (case hg => rfl); (case hr => first | (go_simp; done) | (go_simp; rfl)); intro gb154 hg w5 hbox hb; have n0_ := Aside0.mk (below_step (by repeat (first | (with_reducible first | exact HB.out | apply below_alloc | apply pw_below_drewN | apply below_drew1) | exact HB.out)) hb); have n1_ := Aside0.mk (hbox); have n2_ := Aside0.mk ((by rw [hg]; exact (below_size (by repeat (first | (with_reducible first | exact HB.out | apply below_alloc | apply pw_below_drewN | apply below_drew1) | exact HB.out))) : w.heap.size ≤ gb154)); have n3_ := Aside0.mk ((by rw [hg]; exact (below_size (by repeat (first | (with_reducible first | exact HB.out | apply below_alloc | apply pw_below_drewN | apply below_drew1) | exact HB.out))) : w.heap.size ≤ gb154)); clear HB; have HB := n0_; have BK154 := n1_; have GW154 := n2_; have GE154 := n3_; clear n0_ n1_ n2_ n3_; clear hb hbox hg; have hcz6_0 : w5.cell? ⟨gb154, 0, none⟩ = some (.bool false) := (blk_cell BK154.out 0).trans rfl; have hcz6_1 : w5.cell? ⟨gb154, 1, none⟩ = some (.int .i64 a0_1) := (blk_cell BK154.out 1).trans rfl; have hcz6_2 : w5.cell? ⟨gb154, 2, none⟩ = some (.int .u64 a0_2) := (blk_cell BK154.out 2).trans rfl; have hcz6_3 : w5.cell? ⟨gb154, 3, none⟩ = some (.string a0_3) := (blk_cell BK154.out 3).trans rfl; have hcz6_4 : w5.cell? ⟨gb154, 4, none⟩ = some (.string a0_4) := (blk_cell BK154.out 4).trans rfl; have hcz6_5 : w5.cell? ⟨gb154, 5, none⟩ = some (.string a0_5) := (blk_cell BK154.out 5).trans rfl; have hcz6_6 : w5.cell? ⟨gb154, 6, none⟩ = some (.string a0_6) := (blk_cell BK154.out 6).trans rfl; have hcz6_7 : w5.cell? ⟨gb154, 7, none⟩ = some (.string a0_7) := (blk_cell BK154.out 7).trans rfl; have hfz6_0 := blk_frozen BK154.out 0; have hfz6_1 := blk_frozen BK154.out 1; have hfz6_2 := blk_frozen BK154.out 2; have hfz6_3 := blk_frozen BK154.out 3; have hfz6_4 := blk_frozen BK154.out 4; have hfz6_5 := blk_frozen BK154.out 5; have hfz6_6 := blk_frozen BK154.out 6; have hfz6_7 := blk_frozen BK154.out 7))
    go_ret
    exact ⟨by first | rfl | (simp [errW_none, errW_some] <;> rfl) | (simp [*, errW_none, errW_some] <;> rfl), by repeat (first | (with_reducible first | exact HB.out | apply below_alloc | apply pw_below_drewN | apply below_drew1 | refine below_set ?_ GE154.out) | exact HB.out)⟩

/-! ### bits_RotateLeft32: function 81 -/
end Go.Proofs.YtglcapkmeecknaaDoor.PHeaderPacks
/-! ## Head -/
namespace Go.Proofs.YtglcapkmeecknaaDoor.headp
open Go Go.RowKit Go.Proofs.YtglcapkmeecknaaDoor.PHeaderPacks Go.Proofs.YtglcapkmeecknaaDoorW.PrintWords
set_option linter.unusedVariables false
def isHd (h : Int) : Bool := decide (h = 16384 ∨ h = 32768 ∨ h = 65536 ∨ h = 131072 ∨ h = 262144 ∨ h = 524288 ∨ h = 1048576 ∨ h = 2097152 ∨ h = 4194304)
theorem and_nat (n m : Nat) (hn : n < 18446744073709551616) (hm : m < 18446744073709551616) : Go.bits .and .u64 (n : Int) (m : Int) = ((n &&& m : Nat) : Int) := by
  show IntKind.u64.wrap ((BitVec.ofInt 64 (n : Int) &&& BitVec.ofInt 64 (m : Int)).toNat : Int) = _
  rw [BitVec.toNat_and, BitVec.toNat_ofInt, BitVec.toNat_ofInt]
  have e1 : ((n : Int) % ((2 ^ 64 : Nat) : Int)).toNat = n := by
    rw [show ((2 ^ 64 : Nat) : Int) = 18446744073709551616 from rfl]; omega
  have e2 : ((m : Int) % ((2 ^ 64 : Nat) : Int)).toNat = m := by
    rw [show ((2 ^ 64 : Nat) : Int) = 18446744073709551616 from rfl]; omega
  rw [e1, e2]
  have h : n &&& m ≤ n := Nat.and_le_left
  rw [IntKind.wrap_u64]
  omega
theorem pow_of_and (n k : Nat) (h0 : 2 ^ k ≤ n) (h1 : n < 2 ^ (k + 1)) (h : n &&& (n - 1) = 0) : n = 2 ^ k := by
  rcases Nat.lt_or_ge (2 ^ k) n with hlt | hge
  · exfalso
    have t1 : n.testBit k = true := by
      rw [Nat.testBit_eq_decide_div_mod_eq]
      rw [show n / 2 ^ k = 1 from by
        apply Nat.div_eq_of_lt_le
        · omega
        · rw [Nat.pow_succ] at h1; omega]
      rfl
    have t2 : (n - 1).testBit k = true := by
      rw [Nat.testBit_eq_decide_div_mod_eq]
      rw [show (n - 1) / 2 ^ k = 1 from by
        apply Nat.div_eq_of_lt_le
        · omega
        · rw [Nat.pow_succ] at h1; omega]
      rfl
    have t3 : (n &&& (n - 1)).testBit k = true := by rw [Nat.testBit_and, t1, t2]; rfl
    rw [h] at t3
    simp at t3
  · omega
theorem isHead_prog (h : Int) (h0 : 0 ≤ h) (h1 : h < 18446744073709551616) : header_isHead.f h = some (isHd h) := by
  unfold header_isHead.f
  by_cases a : h ≥ 16384
  · rw [if_pos a]
    by_cases b : h ≤ 4194304
    · rw [if_pos b]
      obtain ⟨n, rfl⟩ : ∃ n : Nat, h = n := ⟨h.toNat, by omega⟩
      have ew : IntKind.u64.wrap ((n : Int) - 1) = ((n - 1 : Nat) : Int) := by rw [IntKind.wrap_u64]; omega
      rw [ew, and_nat n (n - 1) (by omega) (by omega)]
      congr 1
      by_cases hz : n &&& (n - 1) = 0
      · rw [hz]
        have hp : ∃ k, 14 ≤ k ∧ k ≤ 22 ∧ 2 ^ k ≤ n ∧ n < 2 ^ (k + 1) := by
          rcases Nat.lt_or_ge n 32768 with c | c
          · exact ⟨14, by omega, by omega, by omega, by omega⟩
          rcases Nat.lt_or_ge n 65536 with c | c
          · exact ⟨15, by omega, by omega, by omega, by omega⟩
          rcases Nat.lt_or_ge n 131072 with c | c
          · exact ⟨16, by omega, by omega, by omega, by omega⟩
          rcases Nat.lt_or_ge n 262144 with c | c
          · exact ⟨17, by omega, by omega, by omega, by omega⟩
          rcases Nat.lt_or_ge n 524288 with c | c
          · exact ⟨18, by omega, by omega, by omega, by omega⟩
          rcases Nat.lt_or_ge n 1048576 with c | c
          · exact ⟨19, by omega, by omega, by omega, by omega⟩
          rcases Nat.lt_or_ge n 2097152 with c | c
          · exact ⟨20, by omega, by omega, by omega, by omega⟩
          rcases Nat.lt_or_ge n 4194304 with c | c
          · exact ⟨21, by omega, by omega, by omega, by omega⟩
          exact ⟨22, by omega, by omega, by omega, by omega⟩
        obtain ⟨k, k0, k1, k2, k3⟩ := hp
        have e := pow_of_and n k k2 k3 hz
        have hk : k = 14 ∨ k = 15 ∨ k = 16 ∨ k = 17 ∨ k = 18 ∨ k = 19 ∨ k = 20 ∨ k = 21 ∨ k = 22 := by omega
        subst e
        rcases hk with rfl | rfl | rfl | rfl | rfl | rfl | rfl | rfl | rfl <;> decide
      · rw [show (((n &&& (n - 1) : Nat) : Int) == 0) = false from by simp; omega]
        symm
        unfold isHd
        rw [decide_eq_false_iff_not]
        intro hc
        apply hz
        have : n = 16384 ∨ n = 32768 ∨ n = 65536 ∨ n = 131072 ∨ n = 262144 ∨ n = 524288 ∨ n = 1048576 ∨ n = 2097152 ∨ n = 4194304 := by omega
        rcases this with rfl | rfl | rfl | rfl | rfl | rfl | rfl | rfl | rfl <;> decide
    · rw [if_neg b]
      congr 1
      symm
      unfold isHd
      rw [decide_eq_false_iff_not]
      omega
  · rw [if_neg a]
    congr 1
    symm
    unfold isHd
    rw [decide_eq_false_iff_not]
    omega
theorem isHead_step (k : Nat) (h x : Int) (h0 : 0 ≤ x) (h1 : x ≤ 4194304) : cofferref08_IsHead.l0 (k + 1) h x = if h = x then some true else cofferref08_IsHead.l0 k h (2 * x) := by
  simp only [cofferref08_IsHead.l0]
  rw [if_pos h1, show wrap64 (2 * x) = 2 * x by unfold wrap64; omega]
theorem isHead_ref (h : Int) : cofferref08_IsHead.f 11 h = some (isHd h) := by
  unfold cofferref08_IsHead.f
  rw [isHead_step _ _ _ (by omega) (by omega), isHead_step _ _ _ (by omega) (by omega), isHead_step _ _ _ (by omega) (by omega), isHead_step _ _ _ (by omega) (by omega), isHead_step _ _ _ (by omega) (by omega), isHead_step _ _ _ (by omega) (by omega), isHead_step _ _ _ (by omega) (by omega), isHead_step _ _ _ (by omega) (by omega), isHead_step _ _ _ (by omega) (by omega)]
  simp only [show (2 : Int) * 16384 = 32768 from rfl, show (2 : Int) * 32768 = 65536 from rfl, show (2 : Int) * 65536 = 131072 from rfl, show (2 : Int) * 131072 = 262144 from rfl, show (2 : Int) * 262144 = 524288 from rfl, show (2 : Int) * 524288 = 1048576 from rfl, show (2 : Int) * 1048576 = 2097152 from rfl, show (2 : Int) * 2097152 = 4194304 from rfl, show (2 : Int) * 4194304 = 8388608 from rfl]
  unfold isHd
  by_cases c0 : h = 16384
  · rw [if_pos c0, decide_eq_true (by omega)]
  by_cases c1 : h = 32768
  · rw [if_neg c0, if_pos c1, decide_eq_true (by omega)]
  by_cases c2 : h = 65536
  · rw [if_neg c0, if_neg c1, if_pos c2, decide_eq_true (by omega)]
  by_cases c3 : h = 131072
  · rw [if_neg c0, if_neg c1, if_neg c2, if_pos c3, decide_eq_true (by omega)]
  by_cases c4 : h = 262144
  · rw [if_neg c0, if_neg c1, if_neg c2, if_neg c3, if_pos c4, decide_eq_true (by omega)]
  by_cases c5 : h = 524288
  · rw [if_neg c0, if_neg c1, if_neg c2, if_neg c3, if_neg c4, if_pos c5, decide_eq_true (by omega)]
  by_cases c6 : h = 1048576
  · rw [if_neg c0, if_neg c1, if_neg c2, if_neg c3, if_neg c4, if_neg c5, if_pos c6, decide_eq_true (by omega)]
  by_cases c7 : h = 2097152
  · rw [if_neg c0, if_neg c1, if_neg c2, if_neg c3, if_neg c4, if_neg c5, if_neg c6, if_pos c7, decide_eq_true (by omega)]
  by_cases c8 : h = 4194304
  · rw [if_neg c0, if_neg c1, if_neg c2, if_neg c3, if_neg c4, if_neg c5, if_neg c6, if_neg c7, if_pos c8, decide_eq_true (by omega)]
  rw [if_neg c0, if_neg c1, if_neg c2, if_neg c3, if_neg c4, if_neg c5, if_neg c6, if_neg c7, if_neg c8, decide_eq_false (by omega)]
  rfl
/-- Does a text hold a zero byte? -/
def has0 (s : ByteArray) : Bool := s.data.toList.contains 0
theorem contains0 (s : ByteArray) (w : World) : Calls Tryd.prog 39 #[.string s, .string ⟨#[0]⟩] w fun e w' => e = .returned (.bool (has0 s)) ∧ w = w' :=
  (Tryd.strings_Contains_one s 0 w).mono fun e w' ⟨he, hw⟩ => ⟨by rw [he]; unfold has0; rw [Lib.contains_iff_indexByte], hw.symm⟩
theorem bt_get (s : ByteArray) (i : Nat) (h : i < s.data.toList.length) : bt s (i : Int) = ((s.data.toList[i]).toNat : Int) := by
  have h' : i < s.size := by rw [← data_length]; exact h
  unfold bt
  rw [dif_pos (by rw [Int.toNat_natCast]; exact h')]
  simp
  rfl
theorem plain_go (s : ByteArray) (n : Int) (hs : s.size ≤ 9223372036854775807) : ∀ (d k i : Nat), s.size - i = d → i ≤ s.size → d < k → cofferref08_plain.l0 k s n (i : Int) = some (!(s.data.toList.drop i).contains 0 && decide ((s.size : Int) ≤ n))
  | 0, k, i, hd, hi, hk => by
    obtain ⟨k, rfl⟩ : ∃ m, k = m + 1 := ⟨k - 1, by omega⟩
    simp only [cofferref08_plain.l0]
    rw [if_neg (by omega), List.drop_eq_nil_of_le (by rw [data_length]; omega)]
    simp
  | d + 1, k, i, hd, hi, hk => by
    obtain ⟨k, rfl⟩ : ∃ m, k = m + 1 := ⟨k - 1, by omega⟩
    have hil : i < s.data.toList.length := by rw [data_length]; omega
    have ew : wrap64 ((i : Int) + 1) = ((i + 1 : Nat) : Int) := by unfold wrap64; omega
    simp only [cofferref08_plain.l0]
    rw [if_pos (by omega), if_pos (by omega), bt_get s i hil, List.drop_eq_getElem_cons hil]
    by_cases z : s.data.toList[i] = 0
    · rw [if_pos (by rw [z]; rfl), z]
      simp
    · rw [if_neg (fun hc => z (UInt8.toNat_inj.1 (by simpa using hc))), ew, plain_go s n hs d k (i + 1) (by omega) (by omega) (by omega)]
      congr 2
      rw [List.contains_cons, show ((0 : UInt8) == s.data.toList[i]) = false from beq_false_of_ne (Ne.symm z), Bool.false_or]
theorem plain_ref (s : ByteArray) (n : Int) (hs : s.size ≤ 9223372036854775807) (k : Nat) (hk : s.size < k) : cofferref08_plain.f k s n = some (!has0 s && decide ((s.size : Int) ≤ n)) := plain_go s n hs s.size k 0 (by omega) (by omega) (by omega)
end Go.Proofs.YtglcapkmeecknaaDoor.headp
/-! ## Buf -/
namespace Go.Proofs.YtglcapkmeecknaaDoor.mem
open Go Go.RowKit Go.Proofs.YtglcapkmeecknaaDoor.sha Go.Proofs.YtglcapkmeecknaaDoorW.PrintWords
set_option linter.unusedVariables false
/-- Block g holds the bytes L, no more. -/
def Row (w : World) (g : Nat) (L : List Int) : Prop := w.heap[g]? = some (.cells (nums .u8 L).toArray 5 (0, 0))
theorem C_cells {w : World} {g o : Nat} {xs : List Int} (hl : xs.length ≤ 9223372036854775807) (h : ∀ j, j < xs.length → w.cell? ⟨g, o + j, none⟩ = some (.int .u8 (xs.getD j 0))) : Kd.C (Kd.int .u8) w (some ⟨g, o, none⟩) xs.length xs :=
  Kd.C_of_reads (enc := Value.int .u8) (h1 := fun _ => rfl) (d := (0 : Int)) ⟨rfl, hl, fun _ => ⟨_, rfl, fun j hj => by
    rw [show (⟨g, o, none⟩ : Addr).add j = ⟨g, o + j, none⟩ by unfold Addr.add; split <;> simp_all]
    exact h j hj⟩⟩
theorem row_at {w : World} {g : Nat} {L : List Int} (h : Row w g L) (i : Nat) (hi : i < L.length) : w.cell? ⟨g, i, none⟩ = some (.int .u8 (L.getD i 0)) := by
  rw [blk_cell h i]
  simp [nums, hi]
theorem row_C {w : World} {g : Nat} {L : List Int} (h : Row w g L) (hl : L.length ≤ 9223372036854775807) : Kd.C (Kd.int .u8) w (some ⟨g, 0, none⟩) L.length L :=
  C_cells hl (fun j hj => by rw [Nat.zero_add]; exact row_at h j hj)
theorem nums_set (k : IntKind) (L : List Int) (i : Nat) (x : Int) : (nums k L).toArray.setIfInBounds i (.int k x) = (nums k (L.set i x)).toArray := by
  rw [List.setIfInBounds_toArray, nums, nums, List.map_set]
theorem row_set {w : World} {g : Nat} {L : List Int} (h : Row w g L) (i : Nat) (x : Int) : Row (w.setCell ⟨g, i, none⟩ (.int .u8 x)) g (L.set i x) := by
  have := blk_set h i (.int .u8 x)
  rw [nums_set] at this
  exact this
theorem made_nums (k : IntKind) (m : Nat) : madeCells #[.int k 0] m = (nums k (List.replicate m 0)).toArray := by
  apply Array.ext'
  apply List.ext_getElem
  · simp [nums, madeCells]
  · intro i h1 h2
    simp [nums, madeCells, Nat.mod_one]
theorem nums_splice (k : IntKind) (L xs : List Int) (o : Nat) : splice (nums k L) o (nums k xs) = nums k (splice L o xs) := by
  unfold splice nums
  simp [List.map_take, List.map_drop]
theorem splice_get {α : Type} (L : List α) (o : Nat) (xs : List α) (h : o + xs.length ≤ L.length) (q : Nat) : (splice L o xs)[q]? = if q < o then L[q]? else if q < o + xs.length then xs[q - o]? else L[q]? := by
  unfold splice
  have hl : (L.take o).length = o := by rw [List.length_take]; omega
  by_cases h1 : q < o
  · rw [if_pos h1, List.getElem?_append_left (by omega), List.getElem?_take, if_pos h1]
  · rw [if_neg h1, List.getElem?_append_right (by omega), hl]
    by_cases h2 : q < o + xs.length
    · rw [if_pos h2, List.getElem?_append_left (by omega)]
    · rw [if_neg h2, List.getElem?_append_right (by omega), List.getElem?_drop]
      congr 1
      omega
theorem splice_nil {α : Type} (L : List α) (o : Nat) : splice L o [] = L := by simp [splice]
theorem setRow_keep (w : World) (g k : Nat) (cs : Array Value) (h : k ≠ g) : (w.setRow g cs).heap[k]? = w.heap[k]? := setRow_other w g k cs h
theorem Turn.setRow {g : Nat} {w w1 : World} (h : Turn g w w1) (cs : Array Value) : Turn g w (w1.setRow g cs) :=
  ⟨h.os, h.tape, h.output, by rw [setRow_size]; exact h.size, fun k hk hne => (setRow_other w1 g k cs hne).trans (h.block k hk hne)⟩
theorem row_setRow {w : World} {g : Nat} {L : List Int} (h : Row w g L) (L' : List Int) : Row (w.setRow g (nums .u8 L').toArray) g L' := setRow_heap w g _ _ 5 (0, 0) h
theorem bytes_nums (s : ByteArray) : Lib.byteCells s.data.toList = nums .u8 (bytesOf s) := by
  unfold Lib.byteCells bytesOf nums
  rw [List.map_map]
  rfl
/-- copy(b[o:], s): a string's bytes. -/
theorem wpList_copy_str {P : Program} {w : World} {ops : Array Oper} {rest : List Oper} {o : Oper} {a : Act} {Q : Exit → Act → World → Prop} (hgd : o.guard = none) (d s : Operand) (dT sT : TypeId)
    (ho : o.op = .call { callee := .builtin .copy, args := #[d, s], argTypes := #[dT, sT] }) (hu : P.underlying dT = some (.slice 5)) (hsz : (P.info? 5).map (·.size) = some 1)
    (g off dLen dCap : Nat) (t : ByteArray) (hd : a.eval d = .slice (some ⟨g, off, none⟩) dLen dCap) (hs : a.eval s = .string t) (L : List Int) (hg : Row w g L) (hle : t.size ≤ dLen) (hfit : off + t.size ≤ L.length)
    (h : ∀ w', Row w' g (splice L off (bytesOf t)) → Turn g w w' → wpList P ops Q rest (a.put o.dst (goInt t.size)) w') : wpList P ops Q (o :: rest) a w := by
  refine wpList_plain hgd fun K hK => ?_
  have hrun := Lib.run_copy_row_string (P := P) w dT sT o.type 5 g off dLen dCap t (nums .u8 L).toArray 5 hu hsz hg hle (by simpa [nums] using hfit)
  unfold Oper.wp
  simp [execOp, ho, resolve, invoke, builtin, hd, hs, hrun, Result.andThen]
  refine hK _ _ (h _ ?_ ((Turn.refl g w).setRow _))
  have e : List.take off (nums .u8 L) ++ (Lib.byteCells t.data.toList ++ List.drop (off + t.size) (nums .u8 L)) = nums .u8 (splice L off (bytesOf t)) := by
    rw [← nums_splice, bytes_nums]
    unfold splice
    rw [show (nums .u8 (bytesOf t)).length = t.size by rw [nums_length, bytesOf_length]]
  rw [e]
  exact row_setRow hg _
/-- copy(b[o:], s): bytes that lie elsewhere. -/
theorem wpList_copy_bytes {P : Program} {w : World} {ops : Array Oper} {rest : List Oper} {o : Oper} {a : Act} {Q : Exit → Act → World → Prop} (hgd : o.guard = none) (d s : Operand) (dT sT : TypeId)
    (ho : o.op = .call { callee := .builtin .copy, args := #[d, s], argTypes := #[dT, sT] }) (hu : P.underlying dT = some (.slice 5)) (hsz : (P.info? 5).map (·.size) = some 1)
    (g off dLen dCap : Nat) (ad : Addr) (c : Nat) (xs : List Int) (hd : a.eval d = .slice (some ⟨g, off, none⟩) dLen dCap) (hs : a.eval s = .slice (some ad) xs.length c) (L : List Int) (hg : Row w g L) (hle : xs.length ≤ dLen) (hfit : off + xs.length ≤ L.length)
    (hC : Kd.C (Kd.int .u8) w (some ad) xs.length xs)
    (h : ∀ w', Row w' g (splice L off xs) → Turn g w w' → wpList P ops Q rest (a.put o.dst (goInt xs.length)) w') : wpList P ops Q (o :: rest) a w := by
  refine wpList_copy_own hgd d s dT sT ho 5 hu hsz g off dLen dCap ad xs.length c hd hs (nums .u8 L).toArray 5 hg (nums .u8 xs) (by rw [nums_length]; exact (Nat.min_eq_left hle).symm) (fun j v hv => ?_) (by simpa [nums] using hfit) (fun v hv => by
    unfold nums at hv
    obtain ⟨x, _, rfl⟩ := List.mem_map.1 hv
    rfl) ?_
  · have hj : j < xs.length := by have := (List.getElem?_eq_some_iff.1 hv).1; simpa [nums] using this
    obtain ⟨ad', e, hc⟩ := Kd.at_int hC (j : Int) (by omega) (by omega)
    cases e
    rw [Int.toNat_natCast] at hc
    rw [hc, ← hv]
    simp [nums, rd, hj]
  · rw [nums_length]
    refine h _ ?_ ((Turn.refl g w).setRow _)
    have e : (nums .u8 L).toArray.toList.take off ++ (nums .u8 xs ++ (nums .u8 L).toArray.toList.drop (off + xs.length)) = nums .u8 (splice L off xs) := by
      rw [← nums_splice]
      unfold splice
      rw [nums_length]
    rw [e]
    exact row_setRow hg _
/-- The same as one step of a region that draws its order. -/
theorem step_copy_bytes {P : Program} {w : World} {ops : Array Oper} {o : Oper} {a : Act} {K : Act → World → Prop} {Q : Exit → Act → World → Prop} {E : Prop} (hgd : o.guard = none) (d s : Operand) (dT sT : TypeId)
    (ho : o.op = .call { callee := .builtin .copy, args := #[d, s], argTypes := #[dT, sT] }) (hu : P.underlying dT = some (.slice 5)) (hsz : (P.info? 5).map (·.size) = some 1)
    (g off dLen dCap : Nat) (ad : Addr) (c : Nat) (xs : List Int) (hd : a.eval d = .slice (some ⟨g, off, none⟩) dLen dCap) (hs : a.eval s = .slice (some ad) xs.length c) (L : List Int) (hg : Row w g L) (hle : xs.length ≤ dLen) (hfit : off + xs.length ≤ L.length)
    (hC : Kd.C (Kd.int .u8) w (some ad) xs.length xs)
    (h : ∀ w', Row w' g (splice L off xs) → Turn g w w' → K (a.put o.dst (goInt xs.length)) w') : if Region.wanted o (yielded ops a.tmps) = true then Oper.wp P o a w K Q else E := by
  have hw : Region.wanted o (yielded ops a.tmps) = true := by simp [Region.wanted, hgd]
  rw [if_pos hw]
  have hrun := run_copy_row (P := P) w dT sT o.type 5 g off dLen dCap ad xs.length c (nums .u8 L).toArray 5 (nums .u8 xs) hu hsz hg (by rw [nums_length]; exact (Nat.min_eq_left hle).symm) (fun j v hv => by
    have hj : j < xs.length := by have := (List.getElem?_eq_some_iff.1 hv).1; simpa [nums] using this
    obtain ⟨ad', e, hc⟩ := Kd.at_int hC (j : Int) (by omega) (by omega)
    cases e
    rw [Int.toNat_natCast] at hc
    rw [hc, ← hv]
    simp [nums, rd, hj]) (by simpa [nums] using hfit) (fun v hv => by
    unfold nums at hv
    obtain ⟨x, _, rfl⟩ := List.mem_map.1 hv
    rfl)
  rw [nums_length] at hrun
  have e : (nums .u8 L).toArray.toList.take off ++ nums .u8 xs ++ (nums .u8 L).toArray.toList.drop (off + xs.length) = nums .u8 (splice L off xs) := by
    rw [← nums_splice]
    unfold splice
    rw [nums_length, List.append_assoc]
  rw [e] at hrun
  unfold Oper.wp
  simp [execOp, ho, resolve, invoke, builtin, hd, hs, hrun, Result.andThen]
  exact h _ (row_setRow hg _) ((Turn.refl g w).setRow _)
end Go.Proofs.YtglcapkmeecknaaDoor.mem
/-! ## P24 -/
namespace Go.Proofs.YtglcapkmeecknaaDoor.p24
open Go Go.RowKit Go.Proofs.YtglcapkmeecknaaDoor.sha Go.Proofs.YtglcapkmeecknaaDoor.mem Go.Proofs.YtglcapkmeecknaaDoorW.PrintWords Go.Proofs.YtglcapkmeecknaaDoorW.PrintLast Go.Proofs.YtglcapkmeecknaaDoorW.PrintMore
set_option linter.unusedVariables false
set_option linter.unusedSimpArgs false
/-- A number's bytes, the highest first. -/
def be (sz : Nat) (n : Int) : List Int := (List.range sz).map fun i => n / (2 : Int) ^ (8 * (sz - 1 - i)) % 256
theorem be_len (sz : Nat) (n : Int) : (be sz n).length = sz := by simp [be]
theorem be_take (sz : Nat) (n : Int) (i : Nat) (hi : i < sz) : (be sz n).take (i + 1) = (be sz n).take i ++ [n / (2 : Int) ^ (8 * (sz - 1 - i)) % 256] := by
  rw [List.take_succ_eq_append_getElem (by rw [be_len]; exact hi)]
  simp [be]
theorem splice_snoc (L : List Int) (o : Nat) (xs : List Int) (x : Int) (h : o + xs.length < L.length) : splice L o (xs ++ [x]) = (splice L o xs).set (o + xs.length) x := by
  apply List.ext_getElem?
  intro q
  have hl : (splice L o xs).length = L.length := length_splice _ _ _ (by omega)
  have hx : (xs ++ [x]).length = xs.length + 1 := by simp
  rw [List.getElem?_set, splice_get _ _ _ (by omega), splice_get _ _ _ (by omega), hl, hx]
  by_cases e : o + xs.length = q
  · subst e
    rw [if_pos rfl, if_pos h, if_neg (by omega), if_pos (by omega), List.getElem?_append_right (by omega)]
    simp
  · rw [if_neg e]
    by_cases h1 : q < o
    · rw [if_pos h1, if_pos h1]
    · rw [if_neg h1, if_neg h1]
      by_cases h2 : q < o + xs.length
      · rw [if_pos h2, if_pos (by omega), List.getElem?_append_left (by omega)]
      · rw [if_neg h2, if_neg (by omega)]
set_option maxHeartbeats 1000000 in
set_option maxRecDepth 100000 in
theorem put_call (w : World) (g o len c : Nat) (L : List Int) (hg : Row w g L) (sz : Nat) (hsz : sz ≤ 8) (hlen : sz ≤ len) (hl9 : len ≤ 9223372036854775807) (hfit : o + sz ≤ L.length) (n : Int) (hn0 : 0 ≤ n) (hn1 : n < 18446744073709551616) :
    Calls Tryd.prog 24 #[.slice (some ⟨g, o, none⟩) len c, .int .i64 sz, .int .u64 n] w fun e w' => (∃ v, e = .returned v) ∧ Row w' g (splice L o (be sz n)) ∧ Turn g w w' := by
  have hn1A := Aside0.mk hn1
  clear hn1
  go_enter Tryd.func24, Tryd.ntmps24
  go_wp2
  go_loopw [8] (fun v8 wr => ∃ i : Nat, i ≤ sz ∧ v8 = .int .i64 i ∧ Row wr g (splice L o ((be sz n).take i)) ∧ Turn g w wr) (fun v8 _ => sz - (intOf v8).toNat)
  case atStart => exact ⟨0, by omega, rfl, by rw [List.take_zero, splice_nil]; exact hg, Turn.refl g w⟩
  case round =>
    obtain ⟨i, hi, rfl, HR, hT⟩ := hrel
    have hsl : (splice L o ((be sz n).take i)).length = L.length := length_splice _ _ _ (by rw [List.length_take, be_len]; omega)
    have hslA := Aside0.mk hsl
    clear hsl
    rcases Nat.lt_or_ge i sz with hil | hil
    · have hlt : decide ((i : Int) < (sz : Int)) = true := by simp; omega
      have i0 : (0 : Int) ≤ (i : Int) := by omega
      have i1 : (i : Int) < (len : Int) := by omega
      have e0 : (0 : Int) ≤ (sz : Int) - 1 - (i : Int) := by omega
      have e8 : (sz : Int) - 1 - (i : Int) < 8 := by omega
      have e1 : (0 : Int) ≤ 8 * ((sz : Int) - 1 - (i : Int)) := by omega
      have e2 : (8 * ((sz : Int) - 1 - (i : Int))).toNat = 8 * (sz - 1 - i) := by omega
      have w3 : wr.cell? ⟨g, o + i, none⟩ = some (.int .u8 ((splice L o ((be sz n).take i)).getD (o + i) 0)) := row_at HR (o + i) (by rw [hslA.out]; omega)
      have f3 : wr.frozen? ⟨g, o + i, none⟩ = false := blk_frozen HR (o + i)
      go_wp2
      refine ⟨⟨i + 1, by omega, by go_num, ?_, hT.setCell _ _⟩, by simp [intOf]; omega⟩
      have hset := row_set HR (o + i) (n / (2 : Int) ^ (8 * (sz - 1 - i)) % 256)
      have hti : ((be sz n).take i).length = i := by rw [List.length_take, be_len]; omega
      rw [be_take sz n i hil, splice_snoc _ _ _ _ (by rw [hti]; omega), hti]
      exact hset
    · obtain rfl : i = sz := by omega
      have hlt : decide ((i : Int) < (i : Int)) = false := by simp
      go_wp2
      refine bodyPost_end (results_none rfl _ _ _) rfl ⟨⟨_, rfl⟩, ?_, hT⟩
      rw [List.take_of_length_le (by rw [be_len]; omega)] at HR
      exact HR
def magicB (sec : Bool) : ByteArray := if sec then ⟨#[83, 75, 85, 76, 186, 190]⟩ else ⟨#[76, 85, 75, 83, 186, 190]⟩
theorem magicB_size (sec : Bool) : (magicB sec).size = 6 := by cases sec <;> rfl
theorem put2_call (w : World) (g o len c : Nat) (L : List Int) (hg : Row w g L) (hlen : 2 ≤ len) (hl9 : len ≤ 9223372036854775807) (hfit : o + 2 ≤ L.length) (n : Int) (hn0 : 0 ≤ n) (hn1 : n < 18446744073709551616) :
    Calls Tryd.prog 24 #[.slice (some ⟨g, o, none⟩) len c, .int .i64 2, .int .u64 n] w fun e w' => (∃ v, e = .returned v) ∧ Row w' g (splice L o (be 2 n)) ∧ Turn g w w' := put_call w g o len c L hg 2 (by omega) hlen hl9 hfit n hn0 hn1
theorem put8_call (w : World) (g o len c : Nat) (L : List Int) (hg : Row w g L) (hlen : 8 ≤ len) (hl9 : len ≤ 9223372036854775807) (hfit : o + 8 ≤ L.length) (n : Int) (hn0 : 0 ≤ n) (hn1 : n < 18446744073709551616) :
    Calls Tryd.prog 24 #[.slice (some ⟨g, o, none⟩) len c, .int .i64 8, .int .u64 n] w fun e w' => (∃ v, e = .returned v) ∧ Row w' g (splice L o (be 8 n)) ∧ Turn g w w' := put_call w g o len c L hg 8 (by omega) hlen hl9 hfit n hn0 hn1
theorem magic_call (second : Bool) (w : World) (h0 : w.cell? ⟨0, 0, none⟩ = some (.string ⟨#[76, 85, 75, 83, 186, 190]⟩)) (h1 : w.cell? ⟨0, 1, none⟩ = some (.string ⟨#[83, 75, 85, 76, 186, 190]⟩)) :
    Calls Tryd.prog 23 #[.bool second] w fun e w' => e = .returned (.string (magicB second)) ∧ w' = w := by
  cases second
  · go_enter Tryd.func23, Tryd.ntmps23
    go_wp2
    go_ret
    exact ⟨rfl, rfl⟩
  · go_enter Tryd.func23, Tryd.ntmps23
    go_wp2
    go_ret
    exact ⟨rfl, rfl⟩
end Go.Proofs.YtglcapkmeecknaaDoor.p24
/-! ## F29 -/
namespace Go.Proofs.YtglcapkmeecknaaDoor.f29
open Go Go.RowKit Go.Proofs.YtglcapkmeecknaaDoor.tk Go.Proofs.YtglcapkmeecknaaDoor.g31 Go.Proofs.YtglcapkmeecknaaDoor.g36 Go.Proofs.YtglcapkmeecknaaDoor.e32 Go.Proofs.YtglcapkmeecknaaDoor.headp Go.Proofs.YtglcapkmeecknaaDoor.p24 Go.Proofs.YtglcapkmeecknaaDoor.PHeaderPacks Go.Proofs.YtglcapkmeecknaaDoorW.PrintWords Go.Proofs.YtglcapkmeecknaaDoorW.PrintLast Go.Proofs.YtglcapkmeecknaaDoorW.PrintMore
set_option linter.unusedVariables false
set_option linter.unusedSimpArgs false
/-- The number of size bytes at a place. -/
def numAt (b : List Int) (o sz : Nat) : Int := num ((b.drop o).take sz)
theorem numAt_rng (b : List Int) (hb : Byt b) (o sz : Nat) (h8 : sz ≤ 8) (h : o + sz ≤ b.length) : 0 ≤ numAt b o sz ∧ numAt b o sz < 18446744073709551616 := num_lt64 _ (hb.drop o) sz h8 (by rw [List.length_drop]; omega)
def frE (sec : Bool) (b : List Int) : Int := if (strOfNums (b.take 6)).toList ≠ (magicB sec).toList then 81 else if numAt b 6 2 ≠ 2 then 82 else if isHd (numAt b 8 8) = false then 83 else 0
def frH (sec : Bool) (b : List Int) : Int := if frE sec b = 0 then numAt b 8 8 else 0
structure Mags (w : World) : Prop where
  m0 : w.cell? ⟨0, 0, none⟩ = some (.string ⟨#[76, 85, 75, 83, 186, 190]⟩)
  m1 : w.cell? ⟨0, 1, none⟩ = some (.string ⟨#[83, 75, 85, 76, 186, 190]⟩)
  size : 0 < w.heap.size
theorem Mags.below {w w' : World} (h : Mags w) (hb : Below w.heap.size w w') : Mags w' := ⟨(hb.cell h.size).trans h.m0, (hb.cell h.size).trans h.m1, Nat.lt_of_lt_of_le h.size hb.size⟩
theorem getA (w : World) (g o c : Nat) (b : List Int) (hlc : b.length ≤ c) (hb : Byt b) (hC : Kd.C (Kd.int .u8) w (some ⟨g, o, none⟩) b.length b) (at_ : Int) (a sz : Nat) (ea : at_ = a) (h8 : sz ≤ 8) (hs : a + sz ≤ b.length) (hac : a < c) :
    (∀ W : World, (Instr.slice 25 (.slice (some ⟨g, o, none⟩) b.length c) (some (.int .i64 at_)) none none).run Tryd.prog W = .ok (.slice (some ⟨g, o + a, none⟩) (b.length - a) (c - a)) W) ∧
    ∀ W : World, Below w.heap.size w W → Calls Tryd.prog 31 #[.slice (some ⟨g, o + a, none⟩) (b.length - a) (c - a), .int .i64 sz] W fun e w' => e = .returned (.int .u64 (numAt b a sz)) ∧ w' = W := by
  obtain ⟨ad2, hadd, hcut, hlen, hCC⟩ := from_ ⟨g, o, none⟩ b c hlc at_ a ea (by omega)
  obtain rfl := hadd hac
  rw [add_at] at hcut hCC
  refine ⟨hcut, fun W hW => ?_⟩
  have h := get_call W ⟨g, o + a, none⟩ (c - a) (b.drop a) (by rw [hlen]; omega) (by rw [hlen]; exact hCC W (Kd.C_below hC hW)) (hb.drop a) sz h8 (by rw [hlen]; omega)
  rw [hlen] at h
  exact h
set_option maxHeartbeats 2000000 in
set_option maxRecDepth 100000 in
theorem front_call (sec : Bool) (w : World) (g o c : Nat) (b : List Int) (hlc : b.length ≤ c) (hb : Byt b) (h16 : 512 ≤ b.length) (hl : b.length ≤ 140737488355328) (hC : Kd.C (Kd.int .u8) w (some ⟨g, o, none⟩) b.length b) (hm : Mags w) :
    Calls Tryd.prog 29 #[.slice (some ⟨g, o, none⟩) b.length c, .bool sec] w fun e w' => e = .returned (.tuple #[.int .i64 (frH sec b), .int .i64 (frE sec b)]) ∧ Below w.heap.size w w' := by
  obtain ⟨cut8, get8⟩ := getA w g o c b hlc hb hC 8 8 8 rfl (by omega) (by omega) (by omega)
  obtain ⟨cut6, get2⟩ := getA w g o c b hlc hb hC 6 6 2 rfl (by omega) (by omega) (by omega)
  obtain ⟨cutT, _, hCT⟩ := upto_ ⟨g, o, none⟩ b c hlc 6 6 rfl (by omega)
  have hS : ∀ W : World, Below w.heap.size w W → (convert 25 9 (.slice (some ⟨g, o, none⟩) 6 c)).run Tryd.prog W = .ok (.string (strOfNums (b.take 6))) W := fun W hW => str_ (hCT W (Kd.C_below hC hW))
  have hM : ∀ W : World, Below w.heap.size w W → Calls Tryd.prog 23 #[.bool sec] W fun e w' => e = .returned (.string (magicB sec)) ∧ w' = W := fun W hW => magic_call sec W (hm.below hW).m0 (hm.below hW).m1
  obtain ⟨n0, n1⟩ := numAt_rng b hb 8 8 (by omega) (by omega)
  have hH : ∀ W : World, Calls Tryd.prog 38 #[.int .u64 (numAt b 8 8)] W fun e w' => e = .returned (.bool (isHd (numAt b 8 8))) ∧ Drawn0 W w' := fun W => header_isHead.calls _ _ W (isHead_prog _ n0 n1)
  have hcv : IntKind.i64.wrap (numAt b 8 8) = numAt b 8 8 ∨ isHd (numAt b 8 8) = false := by
    by_cases h : isHd (numAt b 8 8) = true
    · left
      have := (of_decide_eq_true (by unfold isHd at h; exact h) : _)
      rw [IntKind.wrap_i64]
      omega
    · right; simpa using h
  obtain ⟨E, hE⟩ : ∃ E, Aside0 (E = frE sec b) := ⟨_, ⟨rfl⟩⟩
  obtain ⟨H, hHH⟩ : ∃ H, Aside0 (H = frH sec b) := ⟨_, ⟨rfl⟩⟩
  rw [← hE.out, ← hHH.out]
  have hEd := Aside0.mk (show frE sec b = _ from rfl)
  unfold frE at hEd
  have hHd := Aside0.mk (show frH sec b = _ from rfl)
  unfold frH at hHd
  clear hC hm hCT hb
  by_cases c1 : (strOfNums (b.take 6)).toList = (magicB sec).toList
  · have d1 : ((strOfNums (b.take 6)).toList != (magicB sec).toList) = false := bne_eq_false_iff_eq.mpr c1
    have d1b : ((strOfNums (b.take 6)).toList == (magicB sec).toList) = true := beq_iff_eq.mpr c1
    by_cases c2 : numAt b 6 2 = 2
    · have d2 : (numAt b 6 2 != 2) = false := bne_eq_false_iff_eq.mpr c2
      rw [c2] at get2
      cases c3 : isHd (numAt b 8 8) with
      | true =>
        have fE : frE sec b = 0 := by unfold frE; rw [if_neg (by simpa using c1), if_neg (by simpa using c2), if_neg (by rw [c3]; decide)]
        have gE : E = 0 := by rw [hE.out, fE]
        have gH : H = numAt b 8 8 := by rw [hHH.out]; unfold frH; rw [if_pos fE]
        rw [c3] at hH
        have hw := hcv.resolve_right (by rw [c3]; decide)
        clear hcv hE hHH hEd hHd fE c1 c2 c3
        subst gE gH
        generalize strOfNums (b.take 6) = S at *
        generalize magicB sec = M at *
        generalize numAt b 8 8 = X at *
        have hSn : ∀ n, (convert 25 9 (.slice (some ⟨g, o, none⟩) 6 c)).run Tryd.prog (w.drewN n) = .ok (.string S) (w.drewN n) := fun n => hS _ (below_drewNg w n)
        go_enter Tryd.func29, Tryd.ntmps29
        go_wp2_with (first | (go_at_call 31; refine (get8 _ (Below.refl _ _)).mono ?_; rintro e W ⟨rfl, hW⟩; rw [hW]; clear hW) | fail)
        go_quiet ((go_at_call 23; exact Calls.quiet_of ((hM _ (below_drewNg w _)).mono fun _ _ h => ⟨h.1, 0, h.2⟩)))
        go_wp2_with (first | (go_at_call 31; refine (get2 _ (below_drewNg w _)).mono ?_; rintro e W ⟨rfl, hW⟩; rw [hW]; clear hW) | (go_at_call 38; refine (hH _).mono ?_; rintro e W ⟨rfl, hd⟩; have hBd := (below_drewNg w _).trans (hd.below.mono (below_drewNg w _).size)) | fail)
        go_ret2
        exact ⟨rfl, by first | exact below_drewNg w _ | exact hBd⟩
      | false =>
        have fE : frE sec b = 83 := by unfold frE; rw [if_neg (by simpa using c1), if_neg (by simpa using c2), if_pos c3]
        have gE : E = 83 := by rw [hE.out, fE]
        have gH : H = 0 := by rw [hHH.out]; unfold frH; rw [if_neg (by rw [fE]; decide)]
        rw [c3] at hH
        clear hcv hE hHH hEd hHd fE c1 c2 c3
        subst gE gH
        generalize strOfNums (b.take 6) = S at *
        generalize magicB sec = M at *
        generalize numAt b 8 8 = X at *
        have hSn : ∀ n, (convert 25 9 (.slice (some ⟨g, o, none⟩) 6 c)).run Tryd.prog (w.drewN n) = .ok (.string S) (w.drewN n) := fun n => hS _ (below_drewNg w n)
        go_enter Tryd.func29, Tryd.ntmps29
        go_wp2_with (first | (go_at_call 31; refine (get8 _ (Below.refl _ _)).mono ?_; rintro e W ⟨rfl, hW⟩; rw [hW]; clear hW) | fail)
        go_quiet ((go_at_call 23; exact Calls.quiet_of ((hM _ (below_drewNg w _)).mono fun _ _ h => ⟨h.1, 0, h.2⟩)))
        go_wp2_with (first | (go_at_call 31; refine (get2 _ (below_drewNg w _)).mono ?_; rintro e W ⟨rfl, hW⟩; rw [hW]; clear hW) | (go_at_call 38; refine (hH _).mono ?_; rintro e W ⟨rfl, hd⟩; have hBd := (below_drewNg w _).trans (hd.below.mono (below_drewNg w _).size)) | fail)
        go_ret2
        exact ⟨rfl, by first | exact below_drewNg w _ | exact hBd⟩
    · have d2 : (numAt b 6 2 != 2) = true := bne_iff_ne.mpr c2
      have fE : frE sec b = 82 := by unfold frE; rw [if_neg (by simpa using c1), if_pos c2]
      have gE : E = 82 := by rw [hE.out, fE]
      have gH : H = 0 := by rw [hHH.out]; unfold frH; rw [if_neg (by rw [fE]; decide)]
      clear hcv hE hHH hEd hHd fE c1 c2
      subst gE gH
      generalize strOfNums (b.take 6) = S at *
      generalize magicB sec = M at *
      generalize numAt b 8 8 = X at *
      generalize numAt b 6 2 = Y at *
      have hSn : ∀ n, (convert 25 9 (.slice (some ⟨g, o, none⟩) 6 c)).run Tryd.prog (w.drewN n) = .ok (.string S) (w.drewN n) := fun n => hS _ (below_drewNg w n)
      go_enter Tryd.func29, Tryd.ntmps29
      go_wp2_with (first | (go_at_call 31; refine (get8 _ (Below.refl _ _)).mono ?_; rintro e W ⟨rfl, hW⟩; rw [hW]; clear hW) | fail)
      go_quiet ((go_at_call 23; exact Calls.quiet_of ((hM _ (below_drewNg w _)).mono fun _ _ h => ⟨h.1, 0, h.2⟩)))
      go_wp2_with (first | (go_at_call 31; refine (get2 _ (below_drewNg w _)).mono ?_; rintro e W ⟨rfl, hW⟩; rw [hW]; clear hW) | (go_at_call 38; refine (hH _).mono ?_; rintro e W ⟨rfl, hd⟩; have hBd := (below_drewNg w _).trans (hd.below.mono (below_drewNg w _).size)) | fail)
      go_ret2
      exact ⟨rfl, by first | exact below_drewNg w _ | exact hBd⟩
  · have d1 : ((strOfNums (b.take 6)).toList != (magicB sec).toList) = true := bne_iff_ne.mpr c1
    have d1b : ((strOfNums (b.take 6)).toList == (magicB sec).toList) = false := beq_eq_false_iff_ne.mpr c1
    have fE : frE sec b = 81 := by unfold frE; rw [if_pos c1]
    have gE : E = 81 := by rw [hE.out, fE]
    have gH : H = 0 := by rw [hHH.out]; unfold frH; rw [if_neg (by rw [fE]; decide)]
    clear hcv hE hHH hEd hHd fE c1
    subst gE gH
    generalize strOfNums (b.take 6) = S at *
    generalize magicB sec = M at *
    generalize numAt b 8 8 = X at *
    generalize numAt b 6 2 = Y at *
    have hSn : ∀ n, (convert 25 9 (.slice (some ⟨g, o, none⟩) 6 c)).run Tryd.prog (w.drewN n) = .ok (.string S) (w.drewN n) := fun n => hS _ (below_drewNg w n)
    go_enter Tryd.func29, Tryd.ntmps29
    go_wp2_with (first | (go_at_call 31; refine (get8 _ (Below.refl _ _)).mono ?_; rintro e W ⟨rfl, hW⟩; rw [hW]; clear hW) | fail)
    go_quiet ((go_at_call 23; exact Calls.quiet_of ((hM _ (below_drewNg w _)).mono fun _ _ h => ⟨h.1, 0, h.2⟩)))
    go_wp2_with (first | (go_at_call 31; refine (get2 _ (below_drewNg w _)).mono ?_; rintro e W ⟨rfl, hW⟩; rw [hW]; clear hW) | (go_at_call 38; refine (hH _).mono ?_; rintro e W ⟨rfl, hd⟩; have hBd := (below_drewNg w _).trans (hd.below.mono (below_drewNg w _).size)) | fail)
    go_ret2
    exact ⟨rfl, by first | exact below_drewNg w _ | exact hBd⟩
set_option maxHeartbeats 2000000 in
set_option maxRecDepth 100000 in
theorem rfront_call (sec : Bool) (w : World) (g o c : Nat) (b : List Int) (hlc : b.length ≤ c) (hb : Byt b) (h16 : 512 ≤ b.length) (hl : b.length ≤ 140737488355328) (hC : Kd.C (Kd.int .u8) w (some ⟨g, o, none⟩) b.length b) :
    Calls Tryd.prog 34 #[.slice (some ⟨g, o, none⟩) b.length c, .bool sec] w fun e w' => e = .returned (.tuple #[.int .i64 (frH sec b), .int .i64 (frE sec b)]) ∧ Below w.heap.size w w' := by
  have get2 : ∀ W : World, Below w.heap.size w W → Calls Tryd.prog 35 #[.slice (some ⟨g, o, none⟩) b.length c, .int .i64 6, .int .i64 2] W fun e w' => e = .returned (.int .u64 (numAt b 6 2)) ∧ w' = W := fun W hW => rget_call W ⟨g, o, none⟩ c b hlc (Kd.C_below hC hW) hb 6 2 (by omega) (by omega) hl
  have get8 : ∀ W : World, Below w.heap.size w W → Calls Tryd.prog 35 #[.slice (some ⟨g, o, none⟩) b.length c, .int .i64 8, .int .i64 8] W fun e w' => e = .returned (.int .u64 (numAt b 8 8)) ∧ w' = W := fun W hW => rget_call W ⟨g, o, none⟩ c b hlc (Kd.C_below hC hW) hb 8 8 (by omega) (by omega) hl
  obtain ⟨cutT, _, hCT⟩ := upto_ ⟨g, o, none⟩ b c hlc 6 6 rfl (by omega)
  have hS : ∀ W : World, Below w.heap.size w W → (convert 25 9 (.slice (some ⟨g, o, none⟩) 6 c)).run Tryd.prog W = .ok (.string (strOfNums (b.take 6))) W := fun W hW => str_ (hCT W (Kd.C_below hC hW))
  have hM : ∀ W : World, Calls Tryd.prog 19 #[.bool sec] W fun e w' => e = .returned (.string (magicB sec)) ∧ Drawn0 W w' := fun W => cofferref08_magic.calls sec (magicB sec) W (by unfold cofferref08_magic.f magicB; cases sec <;> rfl)
  obtain ⟨n0, n1⟩ := numAt_rng b hb 8 8 (by omega) (by omega)
  have hH : ∀ W : World, Calls Tryd.prog 16 #[.int .i64 (numAt b 8 8)] W fun e w' => e = .returned (.bool (isHd (numAt b 8 8))) ∧ Drawn0 W w' := fun W => cofferref08_IsHead.calls 11 _ _ W (isHead_ref _)
  have hbig : 4194304 < numAt b 8 8 → isHd (numAt b 8 8) = false := by
    intro h
    unfold isHd
    rw [decide_eq_false_iff_not]
    omega
  have hcv : ¬ 4194304 < numAt b 8 8 → IntKind.i64.wrap (numAt b 8 8) = numAt b 8 8 := by
    intro h
    rw [IntKind.wrap_i64]
    omega
  have hcv2 : ¬ 4194304 < numAt b 8 8 → wrap64 (numAt b 8 8) = numAt b 8 8 := by
    intro h
    unfold wrap64
    omega
  obtain ⟨E, hE⟩ : ∃ E, Aside0 (E = frE sec b) := ⟨_, ⟨rfl⟩⟩
  obtain ⟨H, hHH⟩ : ∃ H, Aside0 (H = frH sec b) := ⟨_, ⟨rfl⟩⟩
  rw [← hE.out, ← hHH.out]
  clear hC hCT hb
  by_cases c1 : (strOfNums (b.take 6)).toList = (magicB sec).toList
  · have d1 : ((strOfNums (b.take 6)).toList != (magicB sec).toList) = false := bne_eq_false_iff_eq.mpr c1
    have d1b : ((strOfNums (b.take 6)).toList == (magicB sec).toList) = true := beq_iff_eq.mpr c1
    by_cases c2 : numAt b 6 2 = 2
    · have d2 : (numAt b 6 2 != 2) = false := bne_eq_false_iff_eq.mpr c2
      rw [c2] at get2
      by_cases c4 : 4194304 < numAt b 8 8
      · have d4 : decide (4194304 < numAt b 8 8) = true := decide_eq_true c4
        have c3 := hbig c4
        have fE : frE sec b = 83 := by unfold frE; rw [if_neg (by simpa using c1), if_neg (by simpa using c2), if_pos c3]
        have gE : E = 83 := by rw [hE.out, fE]
        have gH : H = 0 := by rw [hHH.out]; unfold frH; rw [if_neg (by rw [fE]; decide)]
        clear hcv hcv2 hE hHH fE c1 c2 c3 c4 hbig hH
        subst gE gH
        generalize strOfNums (b.take 6) = S at *
        generalize magicB sec = M at *
        generalize numAt b 8 8 = X at *
        have hSn : ∀ n, (convert 25 9 (.slice (some ⟨g, o, none⟩) 6 c)).run Tryd.prog (w.drewN n) = .ok (.string S) (w.drewN n) := fun n => hS _ (below_drewNg w n)
        go_enter Tryd.func34, Tryd.ntmps34
        go_wp2
        go_quiet ((go_at_call 19; exact Calls.quiet_of ((hM _).mono fun _ _ h => ⟨h.1, h.2.out⟩)))
        go_wp2_with (first | (go_at_call 35; (first | (with_reducible refine (get2 _ (below_drewNg w _)).mono ?_) | (with_reducible refine (get8 _ (below_drewNg w _)).mono ?_)); rintro e W ⟨rfl, hW⟩; rw [hW]; clear hW) | (go_at_call 16; refine (hH _).mono ?_; rintro e W ⟨rfl, hd⟩; have hBd := (below_drewNg w _).trans (hd.below.mono (below_drewNg w _).size)) | fail)
        go_ret2
        exact ⟨rfl, by first | exact below_drewNg w _ | exact hBd⟩
      · have d4 : decide (4194304 < numAt b 8 8) = false := decide_eq_false c4
        have hw := hcv c4
        have hw2 := hcv2 c4
        cases c3 : isHd (numAt b 8 8) with
        | true =>
          have fE : frE sec b = 0 := by unfold frE; rw [if_neg (by simpa using c1), if_neg (by simpa using c2), if_neg (by rw [c3]; decide)]
          have gE : E = 0 := by rw [hE.out, fE]
          have gH : H = numAt b 8 8 := by rw [hHH.out]; unfold frH; rw [if_pos fE]
          rw [c3] at hH
          clear hcv hcv2 hE hHH fE c1 c2 c3 c4 hbig
          subst gE gH
          generalize strOfNums (b.take 6) = S at *
          generalize magicB sec = M at *
          generalize numAt b 8 8 = X at *
          have hSn : ∀ n, (convert 25 9 (.slice (some ⟨g, o, none⟩) 6 c)).run Tryd.prog (w.drewN n) = .ok (.string S) (w.drewN n) := fun n => hS _ (below_drewNg w n)
          go_enter Tryd.func34, Tryd.ntmps34
          go_wp2
          go_quiet ((go_at_call 19; exact Calls.quiet_of ((hM _).mono fun _ _ h => ⟨h.1, h.2.out⟩)))
          go_wp2_with (first | (go_at_call 35; (first | (with_reducible refine (get2 _ (below_drewNg w _)).mono ?_) | (with_reducible refine (get8 _ (below_drewNg w _)).mono ?_)); rintro e W ⟨rfl, hW⟩; rw [hW]; clear hW) | (go_at_call 16; refine (hH _).mono ?_; rintro e W ⟨rfl, hd⟩; have hBd := (below_drewNg w _).trans (hd.below.mono (below_drewNg w _).size)) | fail)
          go_ret2
          exact ⟨rfl, by first | exact below_drewNg w _ | exact hBd⟩
        | false =>
          have fE : frE sec b = 83 := by unfold frE; rw [if_neg (by simpa using c1), if_neg (by simpa using c2), if_pos c3]
          have gE : E = 83 := by rw [hE.out, fE]
          have gH : H = 0 := by rw [hHH.out]; unfold frH; rw [if_neg (by rw [fE]; decide)]
          rw [c3] at hH
          clear hcv hcv2 hE hHH fE c1 c2 c3 c4 hbig
          subst gE gH
          generalize strOfNums (b.take 6) = S at *
          generalize magicB sec = M at *
          generalize numAt b 8 8 = X at *
          have hSn : ∀ n, (convert 25 9 (.slice (some ⟨g, o, none⟩) 6 c)).run Tryd.prog (w.drewN n) = .ok (.string S) (w.drewN n) := fun n => hS _ (below_drewNg w n)
          go_enter Tryd.func34, Tryd.ntmps34
          go_wp2
          go_quiet ((go_at_call 19; exact Calls.quiet_of ((hM _).mono fun _ _ h => ⟨h.1, h.2.out⟩)))
          go_wp2_with (first | (go_at_call 35; (first | (with_reducible refine (get2 _ (below_drewNg w _)).mono ?_) | (with_reducible refine (get8 _ (below_drewNg w _)).mono ?_)); rintro e W ⟨rfl, hW⟩; rw [hW]; clear hW) | (go_at_call 16; refine (hH _).mono ?_; rintro e W ⟨rfl, hd⟩; have hBd := (below_drewNg w _).trans (hd.below.mono (below_drewNg w _).size)) | fail)
          go_ret2
          exact ⟨rfl, by first | exact below_drewNg w _ | exact hBd⟩
    · have d2 : (numAt b 6 2 != 2) = true := bne_iff_ne.mpr c2
      have fE : frE sec b = 82 := by unfold frE; rw [if_neg (by simpa using c1), if_pos c2]
      have gE : E = 82 := by rw [hE.out, fE]
      have gH : H = 0 := by rw [hHH.out]; unfold frH; rw [if_neg (by rw [fE]; decide)]
      clear hcv hcv2 hE hHH fE c1 c2 hbig
      subst gE gH
      generalize strOfNums (b.take 6) = S at *
      generalize magicB sec = M at *
      generalize numAt b 8 8 = X at *
      generalize numAt b 6 2 = Y at *
      have hSn : ∀ n, (convert 25 9 (.slice (some ⟨g, o, none⟩) 6 c)).run Tryd.prog (w.drewN n) = .ok (.string S) (w.drewN n) := fun n => hS _ (below_drewNg w n)
      go_enter Tryd.func34, Tryd.ntmps34
      go_wp2
      go_quiet ((go_at_call 19; exact Calls.quiet_of ((hM _).mono fun _ _ h => ⟨h.1, h.2.out⟩)))
      go_wp2_with (first | (go_at_call 35; (first | (with_reducible refine (get2 _ (below_drewNg w _)).mono ?_) | (with_reducible refine (get8 _ (below_drewNg w _)).mono ?_)); rintro e W ⟨rfl, hW⟩; rw [hW]; clear hW) | (go_at_call 16; refine (hH _).mono ?_; rintro e W ⟨rfl, hd⟩; have hBd := (below_drewNg w _).trans (hd.below.mono (below_drewNg w _).size)) | fail)
      go_ret2
      exact ⟨rfl, by first | exact below_drewNg w _ | exact hBd⟩
  · have d1 : ((strOfNums (b.take 6)).toList != (magicB sec).toList) = true := bne_iff_ne.mpr c1
    have d1b : ((strOfNums (b.take 6)).toList == (magicB sec).toList) = false := beq_eq_false_iff_ne.mpr c1
    have fE : frE sec b = 81 := by unfold frE; rw [if_pos c1]
    have gE : E = 81 := by rw [hE.out, fE]
    have gH : H = 0 := by rw [hHH.out]; unfold frH; rw [if_neg (by rw [fE]; decide)]
    clear hcv hcv2 hE hHH fE c1 hbig
    subst gE gH
    generalize strOfNums (b.take 6) = S at *
    generalize magicB sec = M at *
    generalize numAt b 8 8 = X at *
    generalize numAt b 6 2 = Y at *
    have hSn : ∀ n, (convert 25 9 (.slice (some ⟨g, o, none⟩) 6 c)).run Tryd.prog (w.drewN n) = .ok (.string S) (w.drewN n) := fun n => hS _ (below_drewNg w n)
    go_enter Tryd.func34, Tryd.ntmps34
    go_wp2
    go_quiet ((go_at_call 19; exact Calls.quiet_of ((hM _).mono fun _ _ h => ⟨h.1, h.2.out⟩)))
    go_wp2_with (first | (go_at_call 35; (first | (with_reducible refine (get2 _ (below_drewNg w _)).mono ?_) | (with_reducible refine (get8 _ (below_drewNg w _)).mono ?_)); rintro e W ⟨rfl, hW⟩; rw [hW]; clear hW) | (go_at_call 16; refine (hH _).mono ?_; rintro e W ⟨rfl, hd⟩; have hBd := (below_drewNg w _).trans (hd.below.mono (below_drewNg w _).size)) | fail)
    go_ret2
    exact ⟨rfl, by first | exact below_drewNg w _ | exact hBd⟩

end Go.Proofs.YtglcapkmeecknaaDoor.f29
/-! ## F25 -/
namespace Go.Proofs.YtglcapkmeecknaaDoor.f25
open Go Go.RowKit Go.Proofs.YtglcapkmeecknaaDoor.mem Go.Proofs.YtglcapkmeecknaaDoorW.PrintWords Go.Proofs.YtglcapkmeecknaaDoorW.PrintLast Go.Proofs.YtglcapkmeecknaaDoorW.PrintMore
set_option linter.unusedVariables false
set_option linter.unusedSimpArgs false
def fieldCells (g : Nat) : Array Value := #[.int .i64 24, .int .i64 48, .int .i64 47, .pointer (some ⟨g, 3, none⟩), .int .i64 168, .int .i64 40, .int .i64 39, .pointer (some ⟨g, 5, none⟩), .int .i64 208, .int .i64 48, .int .i64 47, .pointer (some ⟨g, 4, none⟩)]
set_option maxHeartbeats 1000000 in
set_option maxRecDepth 100000 in
theorem fields_call (w : World) (g : Nat) (o : Obj) (hg : w.heap[g]? = some o) :
    Calls Tryd.prog 25 #[.pointer (some ⟨g, 0, none⟩)] w fun e w' => ∃ V, e = .returned (.slice (some ⟨V, 0, none⟩) 3 3) ∧ w.heap.size ≤ V ∧ w'.heap[V]? = some (.cells (fieldCells g) 55 (0, 0)) ∧ Below w.heap.size w w' := by
  go_enter Tryd.func25, Tryd.ntmps25
  go_wp2_with fail
  go_region_with (fail)
  go_wp2
  simp only [Act.put, List.setIfInBounds_toArray, List.set_cons_zero, List.set_cons_succ]
  go_ret
  exact ⟨w.heap.size, rfl, Nat.le_refl _, blk_drew (blk_new w (.cells (fieldCells g) 55)), below_drew (below_alloc (Below.refl _ w) _)⟩
end Go.Proofs.YtglcapkmeecknaaDoor.f25
/-! ## K70 -/
namespace Go.Proofs.YtglcapkmeecknaaDoor.k70
open Go Go.RowKit Go.Proofs.YtglcapkmeecknaaDoor.sha Go.Proofs.YtglcapkmeecknaaDoor.mem Go.Proofs.YtglcapkmeecknaaDoorW.PrintWords Go.Proofs.YtglcapkmeecknaaDoorW.PrintLast Go.Proofs.YtglcapkmeecknaaDoorW.PrintMore
set_option linter.unusedVariables false
set_option linter.unusedSimpArgs false
/-- digest.narrow as a value. -/
def nf : Value := .func (.func 78) #[] #[]
/-- What kindOf tells of 256. -/
def kindCells : Array Value := #[.int .i64 32, .int .i64 64, .int .i64 4, nf]
theorem store_nf (P : Program) (w : World) (a : Addr) :
    (store a (.func (.func 78) #[] #[])).run P w = match w.cell? a with
      | some _ => if w.frozen? a then .halt (.unsupported (.unsafePointer "a write to bytes that a string shares")) w else .ok () (w.setCell a (.func (.func 78) #[] #[]))
      | none => match w.farStore P a (.func (.func 78) #[] #[]) false with
        | .ok (w', _) => .ok () w'
        | .error h => .halt h w := run_store P w a _ _ rfl
attribute [local go_sem] store_nf
set_option maxHeartbeats 1000000 in
set_option maxRecDepth 100000 in
theorem kindOf_call (w : World) :
    Calls Tryd.prog 70 #[.int .i64 256] w fun e w' => e = .returned (.tuple #[.agg kindCells, .bool true]) ∧ Below w.heap.size w w' := by
  go_enter Tryd.func70, Tryd.ntmps70
  go_wp2
  exact bodyPost_ret (results_ct Tryd.results70 _ _ w.heap.size 99 kindCells (0, 0) _ rfl (blk_new w _) Tryd.underlying99 rfl (by kernel_rfl)) rfl ⟨rfl, below_alloc (Below.refl _ w) _⟩
end Go.Proofs.YtglcapkmeecknaaDoor.k70
/-! ## F71 -/
namespace Go.Proofs.YtglcapkmeecknaaDoor.f71
open Go Go.RowKit Go.Proofs.YtglcapkmeecknaaDoor.sha Go.Proofs.YtglcapkmeecknaaDoor.mem Go.Proofs.YtglcapkmeecknaaDoorW.PrintWords Go.Proofs.YtglcapkmeecknaaDoorW.PrintLast Go.Proofs.YtglcapkmeecknaaDoorW.PrintMore
set_option linter.unusedVariables false
set_option linter.unusedSimpArgs false
attribute [local go_sem] nn_mod nn_wrap nn_wrap64 nn_mod64
set_option maxHeartbeats 8000000 in
set_option maxRecDepth 100000 in
theorem first_call (x : St) (sq : Nat → Int) (hsq : ∀ t, t < 8 → 0 ≤ sq t ∧ sq t < 18446744073709551616 ∧ sq t / 4294967296 = nn (stf x t)) (w : World) (hg : 4 < w.heap.size) (htab : ∀ t, t < 8 → w.cell? ⟨4, t, none⟩ = some (.int .u64 (sq t))) :
    Calls Tryd.prog 71 #[.int .i64 256] w fun e w' => e = .returned (.agg (stCells64 x)) ∧ Below w.heap.size w w' := by
  go_enter Tryd.func71, Tryd.ntmps71
  go_wp2
  have B1 : (w.alloc (.cells (Array.replicate 8 (.int .u64 0)) 73)).heap[w.heap.size]? = some (.cells (Array.replicate 8 (.int .u64 0)) 73 (0, 0)) := blk_new w _
  have BB : Below w.heap.size w (w.alloc (.cells (Array.replicate 8 (.int .u64 0)) 73)) := below_alloc (Below.refl _ w) _
  have SZ : (w.alloc (.cells (Array.replicate 8 (.int .u64 0)) 73)).heap.size = w.heap.size + 1 := by simp
  have E8 : Array.replicate 8 (Value.int .u64 0) = #[.int .u64 0, .int .u64 0, .int .u64 0, .int .u64 0, .int .u64 0, .int .u64 0, .int .u64 0, .int .u64 0] := rfl
  rw [E8] at B1 BB SZ
  generalize hWa : w.alloc (.cells #[.int .u64 0, .int .u64 0, .int .u64 0, .int .u64 0, .int .u64 0, .int .u64 0, .int .u64 0, .int .u64 0] 73) = Wa at *
  clear hWa
  rw [← E8] at B1
  clear E8
  generalize hn : w.heap.size = n at *
  go_loopw [4] (fun v4 wr => ∃ (k : Nat) (L : Array Value), k ≤ 8 ∧ v4 = .int .i64 k ∧ L.size = 8 ∧ wr.heap[n]? = some (.cells L 73 (0, 0)) ∧ isWord64 L k (stf x) ∧ Turn n Wa wr) (fun v4 _ => 8 - (intOf v4).toNat)
  case atStart => exact ⟨0, _, Nat.zero_le _, rfl, by simp, B1, fun t ht => absurd ht (by omega), Turn.refl _ _⟩
  case round =>
    obtain ⟨k, L, hk, rfl, hL, BW, hw, hT⟩ := hrel
    rcases Nat.lt_or_ge k 8 with hkl | hkl
    · have hlt : decide ((k : Int) < 8) = true := by simp; omega
      have tc : wr.cell? ⟨4, k, none⟩ = some (.int .u64 (sq k)) := (hT.cell (by show 4 < Wa.heap.size; omega) (by show 4 ≠ n; omega)).trans ((BB.cell (by show 4 < n; omega)).trans (htab k hkl))
      obtain ⟨q0, q1, q2⟩ := hsq k hkl
      generalize sq k = cu at *
      have w3 : wr.cell? ⟨n, k, none⟩ = L[k]? := blk_cell BW k
      have w4 : L[k]? = some L[k] := by simp
      rw [w4] at w3
      have f3 : wr.frozen? ⟨n, k, none⟩ = false := blk_frozen BW k
      have hk0 : (0 : Int) ≤ (k : Int) := by omega
      have hk8 : (k : Int) < 8 := by omega
      have hk16 : (k : Int) < 16 := by omega
      go_wp2
      go_roundw
      case rel => exact ⟨k + 1, _, by omega, by go_num, by simp [hL], blk_set BW k _, isWord64_set hw (by omega) rfl, hT.setCell _ _⟩
      case measure => simp [intOf]; omega
    · obtain rfl : k = 8 := by omega
      rw [show ((8 : Nat) : Int) = (8 : Int) from rfl]
      have hlt : decide ((8 : Int) < 8) = false := by simp
      have EB : Below n w wr := Turn.below BB hT (by omega) (by omega)
      rw [of_word64 hw hL] at BW
      unfold stCells64 at BW
      have h0 : wr.cell? ⟨n, 0, none⟩ = some (.int .u64 (nn x.a)) := (blk_cell BW 0).trans rfl
      have z0 := blk_frozen BW 0
      have h1 : wr.cell? ⟨n, 1, none⟩ = some (.int .u64 (nn x.b)) := (blk_cell BW 1).trans rfl
      have z1 := blk_frozen BW 1
      have h2 : wr.cell? ⟨n, 2, none⟩ = some (.int .u64 (nn x.c)) := (blk_cell BW 2).trans rfl
      have z2 := blk_frozen BW 2
      have h3 : wr.cell? ⟨n, 3, none⟩ = some (.int .u64 (nn x.d)) := (blk_cell BW 3).trans rfl
      have z3 := blk_frozen BW 3
      have h4 : wr.cell? ⟨n, 4, none⟩ = some (.int .u64 (nn x.e)) := (blk_cell BW 4).trans rfl
      have z4 := blk_frozen BW 4
      have h5 : wr.cell? ⟨n, 5, none⟩ = some (.int .u64 (nn x.f)) := (blk_cell BW 5).trans rfl
      have z5 := blk_frozen BW 5
      have h6 : wr.cell? ⟨n, 6, none⟩ = some (.int .u64 (nn x.g)) := (blk_cell BW 6).trans rfl
      have z6 := blk_frozen BW 6
      have h7 : wr.cell? ⟨n, 7, none⟩ = some (.int .u64 (nn x.h)) := (blk_cell BW 7).trans rfl
      have z7 := blk_frozen BW 7
      have RR := Aside0.mk (blk_set8 BW (.int .u64 (nn x.a)) (.int .u64 (nn x.b)) (.int .u64 (nn x.c)) (.int .u64 (nn x.d)) (.int .u64 (nn x.e)) (.int .u64 (nn x.f)) (.int .u64 (nn x.g)) (.int .u64 (nn x.h)))
      have HE := Aside0.mk EB
      clear BW EB
      go_wp2
      refine bodyPost_ret (v := .agg (stCells64 x)) (results_cell_row Tryd.results71 _ _ n 73 (stCells64 x) (0, 0) _ rfl RR.out Tryd.underlying73 rfl (by kernel_rfl)) rfl ⟨rfl, ?_⟩
      rw [hn]
      exact ((((((((HE.out.setCell (p := ⟨n, 0, none⟩) (Nat.le_refl n) _).setCell (p := ⟨n, 1, none⟩) (Nat.le_refl n) _).setCell (p := ⟨n, 2, none⟩) (Nat.le_refl n) _).setCell (p := ⟨n, 3, none⟩) (Nat.le_refl n) _).setCell (p := ⟨n, 4, none⟩) (Nat.le_refl n) _).setCell (p := ⟨n, 5, none⟩) (Nat.le_refl n) _).setCell (p := ⟨n, 6, none⟩) (Nat.le_refl n) _).setCell (p := ⟨n, 7, none⟩) (Nat.le_refl n) _)
end Go.Proofs.YtglcapkmeecknaaDoor.f71
/-! ## B58 -/
namespace Go.Proofs.YtglcapkmeecknaaDoor.b58
open Go Go.RowKit Go.Proofs.YtglcapkmeecknaaDoor.sha Go.Proofs.YtglcapkmeecknaaDoor.mem Go.Proofs.YtglcapkmeecknaaDoor.k70 Go.Proofs.YtglcapkmeecknaaDoorW.PrintWords Go.Proofs.YtglcapkmeecknaaDoorW.PrintLast Go.Proofs.YtglcapkmeecknaaDoorW.PrintMore
set_option linter.unusedVariables false
set_option linter.unusedSimpArgs false
/-- An empty half block. -/
def half0 : List Value := List.replicate 128 (.int .u8 0)
theorem half0_len : half0.length = 128 := by simp [half0]
/-- A state's cells: its kind, the number, what was fed, the words, the half block. -/
def stateCells (count : Int) (s : St) (half : List Value) : Array Value := kindCells ++ #[.int .i64 256, .int .u64 count] ++ stCells64 s ++ half.toArray
theorem built102 (s : St) : Tryd.prog.built 102 [(0, .agg kindCells), (1, .int .i64 256), (3, .agg (stCells64 s))] = some (stateCells 0 s half0) := by
  unfold half0 kindCells stCells64
  generalize nn s.a = a
  generalize nn s.b = b
  generalize nn s.c = c
  generalize nn s.d = d
  generalize nn s.e = e
  generalize nn s.f = f
  generalize nn s.g = g
  generalize nn s.h = h
  kernel_rfl
theorem oneCells (s : St) : (stateCells 0 s half0).all (·.oneCell') = true := by
  unfold stateCells half0 stCells64 kindCells
  generalize nn s.a = a
  generalize nn s.b = b
  generalize nn s.c = c
  generalize nn s.d = d
  generalize nn s.e = e
  generalize nn s.f = f
  generalize nn s.g = g
  generalize nn s.h = h
  kernel_rfl
theorem state_size (c : Int) (s : St) (half : List Value) : (stateCells c s half).size = 14 + half.length := by
  simp [stateCells, kindCells, stCells64]
  omega
attribute [irreducible] stateCells half0
theorem yieldsIf_load_row {P : Program} {ops : Array Oper} {S : World → Prop} {op : Oper} {a : Act} (hw : Region.wanted op (yielded ops a.tmps) = true) (ty : TypeId) (x : Operand) (ho : op.op = .load ty x)
    (g : Nat) (hx : a.eval x = .pointer (some ⟨g, 0, none⟩)) (t : TypeId) (cs : Array Value) (fr : Nat × Nat) (d : TypeDesc) (hS : ∀ w : World, S w → w.heap[g]? = some (.cells cs t fr))
    (hu : P.underlying ty = some d) (hd : (match d with | .struct _ | .array _ _ => true | _ => false) = true) (hi : (P.info? ty).map (·.size) = some cs.size) : YieldsIf P ops S op (.agg cs) a :=
  .inl ⟨hw, fun w hw' => by
    unfold execOp
    simp only [ho, hx, Instr.loadAt, Instr.sureAddr, Sem.run_bind, Sem.run_pure, Result.andThen_ok, run_loadVar_row w g t ty cs fr d (hS w hw') hu hd hi]⟩
theorem wp_build_ {P : Program} {o : Oper} {a : Act} {w : World} {K : Act → World → Prop} {Q : Exit → Act → World → Prop} (t : TypeId) (parts : Array (Nat × Operand)) (ho : o.op = .build t parts) (cells : Array Value)
    (hc : P.built t (parts.map fun (i, x) => (i, a.eval x)).toList = some cells)
    (h : K (a.put o.dst (.agg cells)) w) : o.wp P a w K Q := wp_build t parts ho (by rw [hc]; rfl) (by rw [hc]; exact h)
set_option maxHeartbeats 600000 in
set_option maxRecDepth 100000 in
theorem begin_call (x : St) (sq : Nat → Int) (hsq : ∀ t, t < 8 → 0 ≤ sq t ∧ sq t < 18446744073709551616 ∧ sq t / 4294967296 = nn (stf x t)) (w : World) (hg : 4 < w.heap.size) (htab : ∀ t, t < 8 → w.cell? ⟨4, t, none⟩ = some (.int .u64 (sq t))) :
    Calls Tryd.prog 58 #[.int .i64 256] w fun e w' => e = .returned (.tuple #[.agg (stateCells 0 x half0), .bool true]) ∧ Below w.heap.size w w' := by
  go_enter Tryd.func58, Tryd.ntmps58
  go_wp2_with fail
  have BS : (w.alloc (.cells Tryd.zeroCells102 102)).heap[w.heap.size]? = some (.cells Tryd.zeroCells102 102 (0, 0)) := blk_new w _
  have HB : Below w.heap.size w (w.alloc (.cells Tryd.zeroCells102 102)) := below_alloc (Below.refl _ w) _
  have SZ : (w.alloc (.cells Tryd.zeroCells102 102)).heap.size = w.heap.size + 1 := by simp
  generalize w.alloc (.cells Tryd.zeroCells102 102) = Wa at *
  refine (kindOf_call _).mono ?_
  rintro e W1 ⟨rfl, hb1⟩
  have BS1 := blk_below BS hb1
  have HB1 : Below w.heap.size w W1 := HB.trans (hb1.mono HB.size)
  have SZ1 : w.heap.size < W1.heap.size := by have := hb1.size; omega
  clear BS HB SZ hb1
  generalize hn : w.heap.size = n at *
  go_wp2_with ((with_reducible refine gate_ (.store 99 (.tmp 4) (.tmp 9)) rfl ?_); refine wpList_store_row rfl 99 (.tmp 4) (.tmp 9) rfl _ kindCells rfl rfl 99 _ (blk_new _ _) (by kernel_rfl) (by kernel_rfl) (by kernel_rfl) ?_)
  rw [World.setRow_alloc_new]
  have BS2 := blk_alloc BS1 (.cells kindCells 99)
  have BK := blk_new W1 (.cells kindCells 99)
  have HB2 := HB1.alloc (by omega) (.cells kindCells 99)
  have SZ2 : W1.heap.size < (W1.alloc (.cells kindCells 99)).heap.size := by simp
  have hV : n < W1.heap.size := SZ1
  clear BS1 HB1 SZ1
  generalize W1.heap.size = V at *
  generalize W1.alloc (.cells kindCells 99) = W2 at *
  refine wp_region_held_drew (S := fun w' => w'.heap[V]? = some (.cells kindCells 99 (0, 0))) (by kernel_rfl) BK (fun hHeld => ?_)
  refine wpAnyH_take (i := 0) (v := .agg kindCells) rfl (by kernel_rfl) (by kernel_rfl) (by kernel_rfl) (fun _ _ _ h => h) (yieldsIf_load_row (by rfl) 99 (.tmp 4) rfl V rfl 99 kindCells (0, 0) _ (fun _ h => h) Tryd.underlying99 rfl (by kernel_rfl)) (by assumption) ?_
  simp only [Act.put, List.setIfInBounds_toArray, List.set_cons_zero, List.set_cons_succ]
  refine wpAnyH_take (i := 1) (v := .int .i64 256) rfl (by kernel_rfl) (by kernel_rfl) (by kernel_rfl) (fun _ _ _ h => h) (Or.inl ⟨by rfl, by intro w hSw; go_simp⟩) (by assumption) ?_
  simp only [Act.put, List.setIfInBounds_toArray, List.set_cons_zero, List.set_cons_succ]
  refine wpAnyH_take (i := 2) (v := .int .i64 256) rfl (by kernel_rfl) (by kernel_rfl) (by kernel_rfl) (fun _ _ _ h => h) (Or.inl ⟨by rfl, by intro w hSw; go_simp⟩) (by assumption) ?_
  simp only [Act.put, List.setIfInBounds_toArray, List.set_cons_zero, List.set_cons_succ]
  refine wpAnyH_take (i := 5) (v := .bool true) rfl (by kernel_rfl) (by kernel_rfl) (by kernel_rfl) (fun _ _ _ h => h) (Or.inl ⟨by rfl, by intro w hSw; go_simp⟩) (by assumption) ?_
  simp only [Act.put, List.setIfInBounds_toArray, List.set_cons_zero, List.set_cons_succ]
  refine wpAnyH_ready (rs := [3]) (by kernel_rfl) (by simp) ?_
  refine AllReadyH.cons rfl (fun K hK => ?_) AllReadyH.nil
  go_simp
  refine (f71.first_call x sq hsq W2.drew (by show 4 < W2.heap.size; omega) (fun t ht => ?_)).mono ?_
  · exact (HB2.cell (p := ⟨4, t, none⟩) (by show 4 < n; omega)).trans (htab t ht)
  rintro e W3 ⟨rfl, hb3⟩
  have BS3 := blk_below (blk_drew BS2) hb3
  have BK3 := blk_below (blk_drew BK) hb3
  have HB3 : Below n w W3 := (below_drew HB2).trans (hb3.mono (by show n ≤ W2.heap.size; omega))
  clear BS2 BK HB2 SZ2 hb3 hHeld
  refine hK.out _ _ BK3 (fun hHeld => ?_)
  clear hK K
  refine wpAnyH_ready (rs := [4]) (by kernel_rfl) (by simp) ?_
  refine AllReadyH.cons rfl (fun K hK => ?_) AllReadyH.nil
  rw [if_pos (by rfl)]
  refine wp_build_ 102 _ rfl (stateCells 0 x half0) (Eq.trans (congrArg _ (by simp only [List.map_toArray, List.map_cons, List.map_nil]; rfl)) (built102 x)) ?_
  simp only [List.getElem_toArray, List.getElem_cons_zero, List.getElem_cons_succ, Act.put, List.setIfInBounds_toArray, List.set_cons_zero, List.set_cons_succ]
  refine hK.out _ _ BK3 (fun hHeld => ?_)
  clear hK K
  refine wpAnyH_ready (rs := [6]) (by kernel_rfl) (by simp) ?_
  refine AllReadyH.cons rfl (fun K hK => ?_) AllReadyH.nil
  rw [if_pos (by rfl)]
  have hsz : (stateCells 0 x half0).size = 142 := by rw [state_size, half0_len]
  refine wp_store_row 102 (.tmp 2) (.tmp 15) rfl n (stateCells 0 x half0) rfl rfl 102 _ BS3 (by rw [hsz]; kernel_rfl) (by rw [hsz]; kernel_rfl) (oneCells x) ?_
  simp only [List.getElem_toArray, List.getElem_cons_zero, List.getElem_cons_succ, Act.put, List.setIfInBounds_toArray, List.set_cons_zero, List.set_cons_succ]
  have BS4 := setRow_heap W3 n Tryd.zeroCells102 (stateCells 0 x half0) 102 (0, 0) BS3
  refine hK.out _ _ ((setRow_other W3 n V _ (by omega)).trans BK3) (fun hHeld => ?_)
  clear hK K
  refine wpAnyH_ready (rs := [7]) (by kernel_rfl) (by simp) ?_
  refine AllReadyH.cons rfl (fun K hK => ?_) AllReadyH.nil
  go_simp
  refine hK.out _ _ ((setRow_other W3 n V _ (by omega)).trans BK3) (fun hHeld => ?_)
  clear hK K
  refine wpAnyH_done (by kernel_rfl) ?_ _
  generalize hfin : W3.setRow n (stateCells 0 x half0) = W4 at *
  go_wp2
  refine bodyPost_ret (results_ct Tryd.results58 _ _ n 102 (stateCells 0 x half0) (0, 0) _ rfl BS4 Tryd.underlying102 rfl (by rw [hsz]; kernel_rfl)) rfl ⟨rfl, ?_⟩
  rw [hn, ← hfin]
  exact ⟨HB3.os, HB3.tape, HB3.output, by rw [setRow_size]; exact HB3.size, fun k hk => (setRow_other W3 n k _ (by omega)).trans (HB3.block k hk)⟩
end Go.Proofs.YtglcapkmeecknaaDoor.b58
/-! ## State -/
namespace Go.Proofs.YtglcapkmeecknaaDoor.b58
open Go Go.RowKit Go.Proofs.YtglcapkmeecknaaDoor.sha Go.Proofs.YtglcapkmeecknaaDoor.mem Go.Proofs.YtglcapkmeecknaaDoor.k70 Go.Proofs.YtglcapkmeecknaaDoorW.PrintWords
set_option linter.unusedVariables false
theorem state_list (c : Int) (s : St) (half : List Value) : (stateCells c s half).toList = [.int .i64 32, .int .i64 64, .int .i64 4, nf, .int .i64 256, .int .u64 c, .int .u64 (nn s.a), .int .u64 (nn s.b), .int .u64 (nn s.c), .int .u64 (nn s.d), .int .u64 (nn s.e), .int .u64 (nn s.f), .int .u64 (nn s.g), .int .u64 (nn s.h)] ++ half := by
  unfold stateCells kindCells stCells64
  simp
theorem state_at (c : Int) (s : St) (half : List Value) (q : Nat) : (stateCells c s half)[q]? = ([.int .i64 32, .int .i64 64, .int .i64 4, nf, .int .i64 256, .int .u64 c, .int .u64 (nn s.a), .int .u64 (nn s.b), .int .u64 (nn s.c), .int .u64 (nn s.d), .int .u64 (nn s.e), .int .u64 (nn s.f), .int .u64 (nn s.g), .int .u64 (nn s.h)] ++ half)[q]? := by
  rw [← state_list, Array.getElem?_toList]
theorem state_word (c : Int) (s : St) (half : List Value) (i : Nat) (hi : i < 8) : (stateCells c s half)[6 + i]? = some (.int .u64 (nn (stf s i))) := by
  rw [state_at]
  obtain rfl | rfl | rfl | rfl | rfl | rfl | rfl | rfl := eight hi
  all_goals rfl
theorem state_wds (c : Int) (s : St) (half : List Value) : Wds (stateCells c s half) 8 s (stateCells c s half) := ⟨rfl, fun i hi => state_word c s half i hi, fun _ _ => rfl⟩
theorem six {t : Nat} (h : t < 6) : t = 0 ∨ t = 1 ∨ t = 2 ∨ t = 3 ∨ t = 4 ∨ t = 5 := by omega
theorem of_wds {c : Int} {s s' : St} {half : List Value} {cs : Array Value} (h : Wds (stateCells c s half) 8 s' cs) : cs = stateCells c s' half := by
  apply Array.ext_getElem?
  intro q
  by_cases h1 : q < 6
  · rw [h.out q (Or.inl h1), state_at, state_at]
    obtain rfl | rfl | rfl | rfl | rfl | rfl := six h1
    all_goals rfl
  · by_cases h2 : q < 14
    · obtain ⟨i, rfl⟩ : ∃ i, q = 6 + i := ⟨q - 6, by omega⟩
      rw [h.word i (by omega), state_word c s' half i (by omega)]
    · rw [h.out q (Or.inr (by omega)), state_at, state_at, List.getElem?_append_right (by simp; omega), List.getElem?_append_right (by simp; omega)]
      simp
theorem state_set5 (c c' : Int) (s : St) (half : List Value) : (stateCells c s half).setIfInBounds 5 (.int .u64 c') = stateCells c' s half := by
  apply Array.ext'
  rw [Array.toList_setIfInBounds, state_list, state_list]
  rfl
theorem state_half (c : Int) (s : St) (half : List Value) (i : Nat) : (stateCells c s half)[14 + i]? = half[i]? := by
  rw [state_at, List.getElem?_append_right (by simp)]
  congr 1
  simp
theorem Turn.keep {g : Nat} {w w1 : World} (h : Turn g w w1) : KeepBut w w1 g none := ⟨h.size, fun i hi hne _ => h.block i hi hne⟩
theorem src_turn {g : Nat} {w w1 : World} {A : Option Addr} {c : Nat} {b : List Int} (h : Src g w A c b) (hT : Turn g w w1) : Src g w1 A c b :=
  ⟨h.le, Kd.C_keep (0 : Int) (enc := Value.int .u8) (h1 := fun _ => rfl) h.c (Turn.keep hT) (fun ad e _ => h.ne ad e), h.ne, h.rng⟩
end Go.Proofs.YtglcapkmeecknaaDoor.b58
/-! ## T60 -/
namespace Go.Proofs.YtglcapkmeecknaaDoor.t60
open Go Go.RowKit Go.Proofs.YtglcapkmeecknaaDoor.sha Go.Proofs.YtglcapkmeecknaaDoor.mem Go.Proofs.YtglcapkmeecknaaDoor.k70 Go.Proofs.YtglcapkmeecknaaDoor.b58 Go.Proofs.YtglcapkmeecknaaDoorW.PrintWords Go.Proofs.YtglcapkmeecknaaDoorW.PrintLast Go.Proofs.YtglcapkmeecknaaDoorW.PrintMore
set_option linter.unusedVariables false
set_option linter.unusedSimpArgs false
set_option maxHeartbeats 1000000 in
set_option maxRecDepth 100000 in
theorem take_call (kf : Nat → BitVec 32) (cub : Nat → Int) (hcub : ∀ t, t < 64 → 0 ≤ cub t ∧ cub t < 18446744073709551616 ∧ cub t / 4294967296 = nn (kf t)) (s : St) (half : List Value) (hh : half.length = 128) (g : Nat) (ty : TypeId)
    (count : Int) (hc0 : 0 ≤ count) (hc1 : count < 1099511627776) (hcm : count % 64 = 0)
    (A : Option Addr) (c : Nat) (p : List Int) (m : Nat) (hp : p.length = 64 * m) (hm : m < 1099511627776) (w : World) (hsrc : Src g w A c p) (hg5 : 5 < g) (hgc : w.heap[g]? = some (.cells (stateCells count s half) ty (0, 0))) (htab : ∀ t, t < 64 → w.cell? ⟨5, t, none⟩ = some (.int .u64 (cub t))) :
    Calls Tryd.prog 60 #[.pointer (some ⟨g, 0, none⟩), .slice A p.length c] w fun e w' => (∃ v, e = .returned v) ∧ Turn g w w' ∧ w'.heap[g]? = some (.cells (stateCells (count + 64 * (m : Int)) (upto kf s p m) half) ty (0, 0)) := by
  have hgw : g < w.heap.size := blk_lt hgc
  have HP := Aside0.mk hp
  have c1 : w.cell? ⟨g, 1, none⟩ = some (.int .i64 64) := (blk_cell hgc 1).trans (by rw [state_at]; rfl)
  have c5 : w.cell? ⟨g, 5, none⟩ = some (.int .u64 count) := (blk_cell hgc 5).trans (by rw [state_at]; rfl)
  have f5 : w.frozen? ⟨g, 5, none⟩ = false := blk_frozen hgc 5
  have hpl0 : (0 : Int) ≤ (p.length : Int) := by omega
  have hpl1 : (p.length : Int) < 70368744177664 := by omega
  go_enter Tryd.func60, Tryd.ntmps60
  clear hp
  go_wp2
  go_quiet (fail)
  go_wp2_with fail
  have BG1 : ((w.drewN nq).setCell ⟨g, 5, none⟩ (.int .u64 (count + (p.length : Int)))).heap[g]? = some (.cells (stateCells (count + 64 * (m : Int)) s half) ty (0, 0)) := by
    have h := blk_set (blk_drewN hgc nq) 5 (.int .u64 (count + (p.length : Int)))
    rw [state_set5] at h
    rw [h, HP.out]
    congr 3
  have T1 : Turn g w ((w.drewN nq).setCell ⟨g, 5, none⟩ (.int .u64 (count + (p.length : Int)))) := ((Turn.refl g w).drewN nq).setCell 5 _
  clear c1 c5 f5
  generalize (w.drewN nq).setCell ⟨g, 5, none⟩ (.int .u64 (count + (p.length : Int))) = W1 at *
  have c1 : W1.cell? ⟨g, 1, none⟩ = some (.int .i64 64) := (blk_cell BG1 1).trans (by rw [state_at]; rfl)
  have c3 : W1.cell? ⟨g, 3, none⟩ = some nf := (blk_cell BG1 3).trans (by rw [state_at]; rfl)
  have q1 : ((p.length : Int)).tdiv 64 = (m : Int) := by rw [HP.out, Int.tdiv_eq_ediv_of_nonneg (by omega)]; omega
  have q2 : IntKind.i64.wrap (m : Int) = (m : Int) := IntWalk.i64_in _ (by omega)
  have q3 : IntKind.i64.wrap ((m : Int) * 64) = (p.length : Int) := by rw [IntWalk.i64_in _ (by omega), HP.out]; omega
  go_quiet (fail)
  go_wp2_with fail
  have BG2 := blk_drewN BG1 nq
  have T2 := T1.drewN nq
  clear c1 c3 q1 q2 q3 BG1 T1
  generalize W1.drewN nq = W2 at *
  have c3 : W2.cell? ⟨g, 3, none⟩ = some (.func (.func 78) #[] #[]) := (blk_cell BG2 3).trans (by rw [state_at]; rfl)
  obtain ⟨i5, hi5, hz5, hs5, hb5⟩ := info_parts n78.info5
  have hcut : ∀ W : World, _ := cut_to (P := Tryd.prog) 25 5 .i64 Tryd.underlying25 hi5 A p.length c (p.length : Int) hpl0 (by omega) hsrc.le
  rw [Int.toNat_natCast] at hcut
  go_still_tail 11, (by kernel_rfl)
  rw [show ({ heap := W2.heap, tape := W2.tape, drawn := W2.drawn + 1, os := W2.os, output := W2.output } : World) = W2.drew from rfl]
  have BG3 := blk_drew BG2
  have T3 := T2.drew
  clear c3 BG2 T2 hcut
  generalize W2.drew = W3 at *
  go_wp2_with fail
  refine (n78.narrow_call kf cub hcub s g (stateCells (count + 64 * (m : Int)) s half) ty (by rw [state_size]; omega) (state_wds _ _ _) A c p m HP.out hm W3 (src_turn hsrc T3) hg5 BG3 (fun t ht => (T3.cell (p := ⟨5, t, none⟩) (by show 5 < w.heap.size; omega) (by show 5 ≠ g; omega)).trans (htab t ht))).mono ?_
  rintro e W4 ⟨⟨v4, rfl⟩, T4, cs4, BG4, HW4⟩
  obtain rfl := of_wds HW4
  have T5 := T3.then_ T4
  clear T3 T4 BG3 HW4
  have hcut : ∀ W : World, _ := cut_from (P := Tryd.prog) 25 5 .i64 Tryd.underlying25 hi5 1 hs5 A p.length c (p.length : Int) hpl0 (by omega)
  rw [Int.toNat_natCast, Nat.sub_self] at hcut
  generalize (if c = p.length then A else Option.map (fun x => x.add (p.length * 1)) A) = A9 at *
  go_wp2_with fail
  go_still_tail 7, (by kernel_rfl)
  rw [show ({ heap := W4.heap, tape := W4.tape, drawn := W4.drawn + 1, os := W4.os, output := W4.output } : World) = W4.drew from rfl]
  refine wpList_copy_nothing rfl (.tmp 102) (.tmp 105) 25 25 rfl 5 Tryd.underlying25 (by kernel_rfl) (some ⟨g, 14, none⟩) A9 128 128 0 (c - p.length) rfl rfl rfl ?_
  go_wp2_with fail
  exact bodyPost_end (results_none rfl _ _ _) rfl ⟨⟨_, rfl⟩, T5.drew, blk_drew BG4⟩
end Go.Proofs.YtglcapkmeecknaaDoor.t60
/-! ## Upto -/
namespace Go.Proofs.YtglcapkmeecknaaDoor.sha
open Go Go.RowKit
theorem upto_left (k : Nat → BitVec 32) (s : St) (p q : List Int) (m : Nat) (hp : p.length = 64 * m) : ∀ n, n ≤ m → upto k s (p ++ q) n = upto k s p n
  | 0, _ => rfl
  | n + 1, h => by
    show taken k (upto k s (p ++ q) n) (((p ++ q).take (64 * n + 64)).drop (64 * n)) = taken k (upto k s p n) ((p.take (64 * n + 64)).drop (64 * n))
    rw [upto_left k s p q m hp n (by omega), List.take_append_of_le_length (by omega)]
theorem upto_append (k : Nat → BitVec 32) (s : St) (p q : List Int) (m : Nat) (hp : p.length = 64 * m) : ∀ n, upto k (upto k s p m) q n = upto k s (p ++ q) (m + n)
  | 0 => (upto_left k s p q m hp m (Nat.le_refl _)).symm
  | n + 1 => by
    show taken k (upto k (upto k s p m) q n) ((q.take (64 * n + 64)).drop (64 * n)) = taken k (upto k s (p ++ q) (m + n)) (((p ++ q).take (64 * (m + n) + 64)).drop (64 * (m + n)))
    rw [upto_append k s p q m hp n]
    have e : ((p ++ q).take (64 * (m + n) + 64)).drop (64 * (m + n)) = (q.take (64 * n + 64)).drop (64 * n) := by
      rw [List.take_append, List.drop_append, List.take_of_length_le (show p.length ≤ 64 * (m + n) + 64 by omega), List.drop_eq_nil_of_le (show p.length ≤ 64 * (m + n) by omega), List.nil_append, hp]
      rw [show 64 * (m + n) + 64 - 64 * m = 64 * n + 64 by omega, show 64 * (m + n) - 64 * m = 64 * n by omega]
    rw [e]
end Go.Proofs.YtglcapkmeecknaaDoor.sha
/-! ## W52 -/
namespace Go.Proofs.YtglcapkmeecknaaDoor.w52
open Go Go.RowKit Go.Proofs.YtglcapkmeecknaaDoor.PHeaderPacks Go.Proofs.YtglcapkmeecknaaDoor.sha Go.Proofs.YtglcapkmeecknaaDoor.mem Go.Proofs.YtglcapkmeecknaaDoor.k70 Go.Proofs.YtglcapkmeecknaaDoor.b58 Go.Proofs.YtglcapkmeecknaaDoorW.PrintWords Go.Proofs.YtglcapkmeecknaaDoorW.PrintLast Go.Proofs.YtglcapkmeecknaaDoorW.PrintMore
set_option linter.unusedVariables false
set_option linter.unusedSimpArgs false
set_option maxHeartbeats 2000000 in
set_option maxRecDepth 100000 in
theorem write_call (kf : Nat → BitVec 32) (cub : Nat → Int) (hcub : ∀ t, t < 64 → 0 ≤ cub t ∧ cub t < 18446744073709551616 ∧ cub t / 4294967296 = nn (kf t)) (s : St) (half : List Value) (hh : half.length = 128) (g : Nat)
    (w0 w : World) (hB : Below w0.heap.size w0 w) (hg0 : w0.heap.size ≤ g) (hgc : w.heap[g]? = some (.cells (stateCells 0 s half) 106 (0, 0)))
    (A : Option Addr) (c : Nat) (parts : List (List Int)) (hlc : parts.length ≤ c) (hC : Kd.C (Kd.slice 5 (Kd.int .u8)) w0 A parts.length parts) (K : Nat) (r : Int) (htot : digest_total.f K parts = some r) (hr0 : 0 ≤ r) (hr1 : r ≤ 33554432)
    (hp : ∀ i, i < parts.length → ∃ m, 0 < m ∧ m < 1048576 ∧ (rd_L1 parts (i : Int)).length = 64 * m) (hrng : ∀ i, i < parts.length → ∀ x ∈ rd_L1 parts (i : Int), 0 ≤ x ∧ x < 256) (hpl : parts.length < 1000)
    (hg5 : 5 < w0.heap.size) (htab : ∀ t, t < 64 → w0.cell? ⟨5, t, none⟩ = some (.int .u64 (cub t))) :
    Calls Tryd.prog 52 #[.pointer (some ⟨g, 0, none⟩), .slice A parts.length c] w fun e w' => e = .returned (.int .i64 0) ∧ Below w0.heap.size w0 w' ∧ ∃ M, parts.flatten.length = 64 * M ∧ M ≤ parts.length * 1048576 ∧ w'.heap[g]? = some (.cells (stateCells (64 * (M : Int)) (upto kf s parts.flatten M) half) 106 (0, 0)) := by
  have c5 : w.cell? ⟨g, 5, none⟩ = some (.int .u64 0) := (blk_cell hgc 5).trans (by rw [state_at]; rfl)
  have hng : decide (r > 33554432) = false := by simp; omega
  go_enter Tryd.func52, Tryd.ntmps52
  go_wp2
  go_quiet ((go_at_call 59; exact Calls.quiet_of ((digest_total.calls K A c parts r _ (Kd.C_below hC (below_drewN_ hB _)) hlc htot).mono fun _ _ h => ⟨h.1, h.2.out⟩)))
  go_wp2_with fail
  have BG0 := blk_drewN hgc nq
  have HB0 := below_drewN_ hB nq
  clear hgc hB c5
  generalize w.drewN nq = W1 at *
  go_loopw [21] (fun v21 wr => ∃ i M : Nat, i ≤ parts.length ∧ v21 = .int .i64 i ∧ (parts.take i).flatten.length = 64 * M ∧ M ≤ i * 1048576 ∧ wr.heap[g]? = some (.cells (stateCells (64 * (M : Int)) (upto kf s (parts.take i).flatten M) half) 106 (0, 0)) ∧ Below w0.heap.size w0 wr) (fun v21 _ => parts.length - (intOf v21).toNat)
  case atStart => exact ⟨0, 0, by omega, rfl, rfl, by omega, BG0, HB0⟩
  case round =>
    clear BG0 HB0
    obtain ⟨i, M, hi, rfl, hfl, hM, BG, HB⟩ := hrel
    have hflA := Aside0.mk hfl
    clear hfl
    rcases Nat.lt_or_ge i parts.length with hil | hil
    · have hlt : decide ((i : Int) < (parts.length : Int)) = true := by simp; omega
      obtain ⟨m, hm0, hm1, hpm⟩ := hp i hil
      have hpmA := Aside0.mk hpm
      clear hpm
      obtain ⟨ad, A0, c0, rfl, hcell, hlc0, hC0⟩ := at_L1 (Kd.C_below hC HB) (i : Int) (by omega) (by omega)
      rw [Int.toNat_natCast] at hcell
      have hrg := hrng i hil
      have hi0 : (0 : Int) ≤ (i : Int) := by omega
      have hne : ∀ a, A0 = some a → a.block ≠ g := by
        intro a ea
        subst ea
        obtain ⟨_, A0', c0', e1, hcell', _, hC0'⟩ := at_L1 hC (i : Int) (by omega) (by omega)
        cases e1
        rw [Int.toNat_natCast] at hcell'
        have hcb := (HB.cell (World.block_lt_of_cell? w0 _ hcell')).trans hcell'
        rw [hcell] at hcb
        injection hcb with hcb
        injection hcb with e2 _ _
        subst e2
        obtain ⟨a', ea, hc0⟩ := Kd.at_int hC0' 0 (by omega) (by rw [hpmA.out]; omega)
        cases ea
        have := World.block_lt_of_cell? w0 _ hc0
        rw [mem.add_block] at this
        omega
      have hsrc : Src g wr A0 c0 (rd_L1 parts (i : Int)) := ⟨hlc0, hC0, hne, hrg⟩
      have hcall := t60.take_call kf cub hcub (upto kf s (parts.take i).flatten M) half hh g 106 (64 * (M : Int)) (by omega) (by omega) (by omega) A0 c0 (rd_L1 parts (i : Int)) m hpmA.out (by omega) wr hsrc (by omega) BG (fun t ht => (HB.cell (p := ⟨5, t, none⟩) (by show 5 < w0.heap.size; omega)).trans (htab t ht))
      rw [upto_append _ _ _ _ _ hflA.out] at hcall
      have hta : (parts.take (i + 1)).flatten = (parts.take i).flatten ++ rd_L1 parts (i : Int) := by
        rw [List.take_succ_eq_append_getElem hil, List.flatten_append]
        congr 1
        simp [rd_L1, hil]
      rw [← hta] at hcall
      have htaA := Aside0.mk hta
      clear hta
      go_wp2_with fail
      refine hcall.mono ?_
      rintro e U1 ⟨⟨v1, rfl⟩, T1, BG1⟩
      go_wp2
      refine ⟨⟨i + 1, M + m, by omega, by go_num, by rw [htaA.out, List.length_append, hflA.out, hpmA.out]; omega, by omega, ?_, Turn.below HB T1 hg0 HB.size⟩, by simp [intOf]; omega⟩
      rw [BG1]
      congr 3
      omega
    · obtain rfl : i = parts.length := by omega
      have hlt : decide ((parts.length : Int) < (parts.length : Int)) = false := by simp
      go_wp2
      go_ret
      exact ⟨rfl, HB, M, by simpa using hflA.out, by omega, by simpa using BG⟩
end Go.Proofs.YtglcapkmeecknaaDoor.w52
