/- The law HeaderPacks, for every two copies: the walk of the Go text returns true; here it becomes the row and its card. No condition of ours. (Written by genlaw03.py.) (Merged by merge.py.) -/
import Derived.Test.YtglcapkmeecknaaDoorCards
import Derived.Test.YtglcapkmeecknaaDoorTie
import Derived.Test.YtglcapkmeecknaaDoorMK
import Derived.Test.YtglcapkmeecknaaDoorMTabs
import Derived.Test.YtglcapkmeecknaaDoorOpens
import Derived.WalkKit
import Derived.ProofKit
import Derived.OpenShut
import Derived.ShutString
import Derived.ChangeOld
import Derived.Below
import Derived.SizedLaws
import Derived.JoinedCond
import Derived.Deep.DeepHandedRow
/-! ## LawHeaderPacks -/
namespace Go.Proofs.YtglcapkmeecknaaDoor.headerPacks
open Go.ChangeShapes Go.WideShapes Go.ChangeAt Go.RowKit Go.Proofs.YtglcapkmeecknaaDoorW.PrintWords Go.Proofs.YtglcapkmeecknaaDoor.opens Go.Proofs.YtglcapkmeecknaaDoor.tabs Go.Proofs.YtglcapkmeecknaaDoor.packeq Go.Proofs.YtglcapkmeecknaaDoor.s28 Go.Proofs.YtglcapkmeecknaaDoor.d40 Go.Proofs.YtglcapkmeecknaaDoor.k07
set_option linter.unusedVariables false
theorem own : ownKnob Tryd.prog.godebug = none := by kernel_rfl
theorem laidOut : laidOutB Tryd.prog = true := by kernel_rfl
theorem laid_eq : (Rows.headerPacksRow.laid : List (String × DataW Unit)) = [("coffer/cofferref01.cubes", Lib.tabData .u64 cubTab), ("coffer/cofferref01.squares", Lib.tabData .u64 sqTab), ("coffer/digest.cubes", Lib.tabData .u64 cubTab), ("coffer/digest.squares", Lib.tabData .u64 sqTab), ("coffer/header.magics", .agg (magicTab.map fun s => .lit (.string s)))] := by kernel_rfl
theorem tables {W : World} (h : laidMetH Tryd.prog Rows.headerPacksRow.laid W) : RefTab kf x0 W ∧ DigTab kf x0 W ∧ HeadTab W := by
  have h' : laidMet Tryd.prog Rows.headerPacksRow.laid W := h
  rw [laid_eq] at h'
  exact ⟨ref_tab (tab_cub g2 y2 h') (tab_sq g1 y1 (laidMet_tail h')), dig_tab (tab_cub g5 y5 (laidMet_tail (laidMet_tail h'))) (tab_sq g4 y4 (laidMet_tail (laidMet_tail (laidMet_tail h')))), head_tab (laidMet_tail (laidMet_tail (laidMet_tail (laidMet_tail h'))))⟩
theorem wf_i64_of {n : Int} (h : (Lit.int .i64 n).wf = true) : -9223372036854775808 ≤ n ∧ n ≤ 9223372036854775807 := by
  simp [Lit.wf, IntKind.min, IntKind.max, IntKind.signed, IntKind.bits] at h; omega
theorem wf_u64_of {n : Int} (h : (Lit.int .u64 n).wf = true) : 0 ≤ n ∧ n < 18446744073709551616 := by
  simp [Lit.wf, IntKind.min, IntKind.max, IntKind.signed, IntKind.bits] at h; omega
abbrev hkd := Kd.pair Kd.bool (Kd.pair (Kd.int .i64) (Kd.pair (Kd.int .u64) (Kd.pair Kd.string (Kd.pair Kd.string (Kd.pair Kd.string (Kd.pair Kd.string Kd.string))))))
theorem o24 : ∃ ok B, Opens Tryd.prog 24 hkd ok B ∧ ∀ y, ok y → (-9223372036854775808 ≤ y.2.1 ∧ y.2.1 ≤ 9223372036854775807) ∧ 0 ≤ y.2.2.1 ∧ y.2.2.2.1.size ≤ 9223372036854775807 ∧ y.2.2.2.2.1.size ≤ 9223372036854775807 ∧ y.2.2.2.2.2.1.size ≤ 9223372036854775807 ∧ y.2.2.2.2.2.2.2.size ≤ 9223372036854775807 := by
  refine ⟨_, _, opens_struct (P := Tryd.prog) Tryd.underlying24 (by kernel_rfl) (fields_cons rfl (by kernel_rfl) (opens_bool Tryd.underlying4) (fields_cons rfl (by kernel_rfl) (opens_int Tryd.underlying3) (fields_cons rfl (by kernel_rfl) (opens_int Tryd.underlying22) (fields_cons rfl (by kernel_rfl) (opens_string Tryd.underlying9) (fields_cons rfl (by kernel_rfl) (opens_string Tryd.underlying9) (fields_cons rfl (by kernel_rfl) (opens_string Tryd.underlying9) (fields_cons rfl (by kernel_rfl) (opens_string Tryd.underlying9) (fields_one rfl (by kernel_rfl) (opens_string Tryd.underlying9))))))))), fun y hy => ?_⟩
  obtain ⟨_, h1, h2, h3, h4, h5, _, h7⟩ := hy
  simp only [maxLen] at h3 h4 h5 h7
  exact ⟨wf_i64_of h1, (wf_u64_of h2).1, h3, h4, h5, h7⟩
theorem head_cells {w : World} {cs : List Value} {y} (h : hkd.K w y cs) : cs = [.bool y.1, .int .i64 y.2.1, .int .u64 y.2.2.1, .string y.2.2.2.1, .string y.2.2.2.2.1, .string y.2.2.2.2.2.1, .string y.2.2.2.2.2.2.1, .string y.2.2.2.2.2.2.2] := by
  obtain ⟨y0, y1, y2, y3, y4, y5, y6, y7⟩ := y
  obtain ⟨_, _, rfl, h0, _, _, rfl, h1, _, _, rfl, h2, _, _, rfl, h3, _, _, rfl, h4, _, _, rfl, h5, _, _, rfl, h6, h7⟩ := h
  cases h0; cases h1; cases h2; cases h3; cases h4; cases h5; cases h6; cases h7
  rfl
theorem walk {w : World} {ca cb : Array Value} {y z} (ht : RefTab kf x0 w ∧ DigTab kf x0 w ∧ HeadTab w) (h : hkd.K w y ca.toList) (g : hkd.K w z cb.toList)
    (oy : (-9223372036854775808 ≤ y.2.1 ∧ y.2.1 ≤ 9223372036854775807) ∧ 0 ≤ y.2.2.1 ∧ y.2.2.2.1.size ≤ 9223372036854775807 ∧ y.2.2.2.2.1.size ≤ 9223372036854775807 ∧ y.2.2.2.2.2.1.size ≤ 9223372036854775807 ∧ y.2.2.2.2.2.2.2.size ≤ 9223372036854775807)
    (oz : (-9223372036854775808 ≤ z.2.1 ∧ z.2.1 ≤ 9223372036854775807) ∧ 0 ≤ z.2.2.1 ∧ z.2.2.2.1.size ≤ 9223372036854775807 ∧ z.2.2.2.2.1.size ≤ 9223372036854775807 ∧ z.2.2.2.2.2.1.size ≤ 9223372036854775807 ∧ z.2.2.2.2.2.2.2.size ≤ 9223372036854775807) :
    Calls Tryd.prog 3 #[.agg ca, .agg cb] w fun e w' => e = .returned (.bool true) ∧ Below w.heap.size w w' := by
  have e0 := head_cells h
  have e1 := head_cells g
  obtain rfl : ca = #[.bool y.1, .int .i64 y.2.1, .int .u64 y.2.2.1, .string y.2.2.2.1, .string y.2.2.2.2.1, .string y.2.2.2.2.2.1, .string y.2.2.2.2.2.2.1, .string y.2.2.2.2.2.2.2] := by cases ca; exact congrArg _ e0
  obtain rfl : cb = #[.bool z.1, .int .i64 z.2.1, .int .u64 z.2.2.1, .string z.2.2.2.1, .string z.2.2.2.2.1, .string z.2.2.2.2.2.1, .string z.2.2.2.2.2.2.1, .string z.2.2.2.2.2.2.2] := by cases cb; exact congrArg _ e1
  obtain ⟨tr, td, th⟩ := ht
  obtain ⟨⟨a0, a1⟩, a2, a3, a4, a5, a6⟩ := oy
  obtain ⟨⟨b0, b1⟩, b2, b3, b4, b5, b6⟩ := oz
  exact l03.packs_call kf x0 _ _ rfl rfl _ _ _ _ (packed_len kf x0 y.1 y.2.1 y.2.2.1 y.2.2.2.1 y.2.2.2.2.1 y.2.2.2.2.2.1 y.2.2.2.2.2.2.1 y.2.2.2.2.2.2.2).1 (packed_len kf x0 z.1 z.2.1 z.2.2.1 z.2.2.2.1 z.2.2.2.2.1 z.2.2.2.2.2.1 z.2.2.2.2.2.2.1 z.2.2.2.2.2.2.2).1 w
    (fun W hb => rpack_call kf x0 _ _ _ _ _ _ _ _ a0 a1 a2 a3 a4 a5 a6 W (tr.below hb)) (fun W hb => pack_call kf x0 _ _ _ _ _ _ _ _ a0 a1 a2 W (td.below hb) (th.below hb))
    (fun W hb => rpack_call kf x0 _ _ _ _ _ _ _ _ b0 b1 b2 b3 b4 b5 b6 W (tr.below hb)) (fun W hb => pack_call kf x0 _ _ _ _ _ _ _ _ b0 b1 b2 W (td.below hb) (th.below hb))
set_option maxRecDepth 100000 in
theorem contract (H : Type) (enc : TypeId × Value → H) (W : World) (base : Nat) (args : Array Value) (ds gs : List (DataW H)) (before : List MemPlace)
    (hval : ∀ (j : Nat) t v, Tryd.f3.params[j]? = some t → args[j]? = some v → Value.okWide Tryd.prog W .any base t v)
    (hW : DataW.Whole enc Tryd.prog Tryd.f3.params.toList Rows.headerPacksSpec.vars false W args.toList ds gs before) (hL : laidMetH Tryd.prog Rows.headerPacksRow.laid W) :
    Calls Tryd.prog 3 args W fun e W' => ∃ v, e = .returned v ∧ Rows.headerPacksSpec.post enc Tryd.prog Tryd.f3 false true false false W args v W' := by
  have hW' := hW
  obtain ⟨p, q, hA0, hV, rfl, hfz, hnd⟩ := hW
  have hA : DataW.TrodAll enc Tryd.prog W 0 (fun _ => true) true Tryd.f3.params.toList args.toList ds p := hA0
  rw [Tryd.params3] at hA hval
  obtain ⟨v0, vs0, d0, ds0, p0, q0, hargs, rfl, rfl, h0, r0⟩ := trodAll_cons hA
  obtain ⟨v1, vs1, d1, ds1, p1, q1, hargs1, rfl, rfl, h1, r1⟩ := trodAll_cons r0
  obtain ⟨rfl, rfl, rfl⟩ := trodAll_nil r1
  obtain rfl : args = #[v0, v1] := by cases args; simp_all
  obtain ⟨rfl, rfl⟩ := trodVars_none hV
  have k0 := h0
  have k1 := h1
  have lt0 : ∀ x ∈ p0, x.block < W.heap.size := by obtain ⟨m, hm⟩ := k0; exact DataW.trod_lt m _ _ _ hm
  have lt1 : ∀ x ∈ p1, x.block < W.heap.size := by obtain ⟨m, hm⟩ := k1; exact DataW.trod_lt m _ _ _ hm
  obtain ⟨c0, rfl⟩ : ∃ c, v0 = .agg c := by
    have := hval 0 24 v0 rfl rfl
    unfold Value.okWide at this; rw [Tryd.underlying24] at this
    exact ⟨_, this.choose_spec.1⟩
  obtain ⟨c1, rfl⟩ : ∃ c, v1 = .agg c := by
    have := hval 1 24 v1 rfl rfl
    unfold Value.okWide at this; rw [Tryd.underlying24] at this
    exact ⟨_, this.choose_spec.1⟩
  obtain ⟨_, _, o, hO⟩ := o24
  obtain ⟨y0, z0, ok0, hb0⟩ := opened o h0
  obtain ⟨y1, z1, ok1, hb1⟩ := opened o h1
  clear hA0
  refine (walk (y := y0) (z := y1) (tables hL) z0 z1 (hO y0 ok0) (hO y1 ok1)).mono fun e W' ⟨he, bel⟩ => ?_
  subst he
  exact ⟨_, rfl, _, _, _, [], _, [], hW', trodAll_mk1 (shut_bool Tryd.underlying4 _), (trodAll_cons_mk (Below.trod laidOut (by kernel_rfl) (of_decide_eq_true (by kernel_rfl)) k0 bel lt0) (trodAll_cons_mk (Below.trod laidOut (by kernel_rfl) (of_decide_eq_true (by kernel_rfl)) k1 bel lt1) trodAll_mk0)), rfl, bel.frame _, fun h => by cases h⟩
/-- A world for the witness: the settled one, the tables holding what their initialisers lay. -/
noncomputable def laidWorld (os : Os) : World :=
  let w := World.holding Tryd.prog os ⟨#[], #[], []⟩
  { w with heap := ((((w.heap.modify 0 fun
      | .cells _ t frozen => .cells #[.string ⟨#[76, 85, 75, 83, 186, 190]⟩, .string ⟨#[83, 75, 85, 76, 186, 190]⟩] t frozen
      | o => o).modify 1 fun
      | .cells _ t frozen => .cells (sqTab.map (Value.int .u64)).toArray t frozen
      | o => o).modify 2 fun
      | .cells _ t frozen => .cells (cubTab.map (Value.int .u64)).toArray t frozen
      | o => o).modify 4 fun
      | .cells _ t frozen => .cells (sqTab.map (Value.int .u64)).toArray t frozen
      | o => o).modify 5 fun
      | .cells _ t frozen => .cells (cubTab.map (Value.int .u64)).toArray t frozen
      | o => o }
abbrev wit : Array Value := #[.agg #[.bool false, .int .i64 0, .int .u64 0, .string ByteArray.empty, .string ByteArray.empty, .string ByteArray.empty, .string ByteArray.empty, .string ByteArray.empty], .agg #[.bool false, .int .i64 0, .int .u64 0, .string ByteArray.empty, .string ByteArray.empty, .string ByteArray.empty, .string ByteArray.empty, .string ByteArray.empty]]
theorem laid_met (os : Os) : laidMet Tryd.prog Rows.headerPacksRow.laid ((laidWorld os).forCall (fun _ _ => 0) ⟨#[], wit, []⟩).memory :=
  laidMet_of_run' 8 (by kernel_rfl) (by kernel_rfl)
theorem reads (os : Os) {H : Type} (enc : TypeId × Value → H) : ∃ places, DataW.whole enc Tryd.prog ((laidWorld os).forCall (fun _ _ => 0) ⟨#[], wit, []⟩).memory Tryd.f3.params.toList Rows.headerPacksSpec.vars false wit.toList 8 = some ([.agg [.lit (.bool false), .lit (.int .i64 0), .lit (.int .u64 0), .lit (.string []), .lit (.string []), .lit (.string []), .lit (.string []), .lit (.string [])], .agg [.lit (.bool false), .lit (.int .i64 0), .lit (.int .u64 0), .lit (.string []), .lit (.string []), .lit (.string []), .lit (.string []), .lit (.string [])]], [], places) :=
  ⟨[], by kernel_rfl⟩
set_option maxRecDepth 100000 in
theorem lifted (os : Os) (started : os.Started) (H : Type) (enc : TypeId × Value → H) (F : Stop.Interp) :
    ReturnsInHanded {} Tryd.checked os 3 .any ((OpenSpec.ofChange Rows.headerPacksSpec).preRow enc Tryd.prog Tryd.f3 Rows.headerPacksRow.domain false Rows.headerPacksRow.laid) (((OpenSpec.ofChange Rows.headerPacksSpec).at F).post enc Tryd.prog Tryd.f3 false true false false) := by
  obtain ⟨places, hx⟩ := reads os enc
  refine returnsInHanded_of_row (C := Tryd.checked) (s := OpenSpec.ofChange Rows.headerPacksSpec) own started (by kernel_rfl) Tryd.func3
    (witness_row_at (enc := enc) (C := Tryd.checked) false (laidWorld os) wit rfl (by kernel_rfl) (by kernel_rfl) (by kernel_rfl)
      (OpenSpec.preRow_of_cond 8 hx (by kernel_rfl) (fun k hk => by cases hk) (by kernel_rfl) (laid_met os))) ?_
  intro W base args ds gs before hval hW _ _ _ hL _ _
  exact contract H enc W base args ds gs before hval hW hL
theorem said : Rows.HeaderPacksSaid :=
  OpenClaim.holds_of_cond 3 Tryd.f3 rfl rfl rfl rfl rfl rfl rfl ⟨rfl, rfl, rfl, rfl, rfl⟩ rfl rfl rfl rfl rfl (by kernel_rfl) Tryd.func3 (by kernel_rfl)
    (of_decide_eq_true (by kernel_rfl)) (by unfold Func.isWrapper; first | (rw [if_pos (by decide +kernel)]; kernel_rfl) | (rw [if_neg (by decide +kernel)]; exact ⟨rfl, rfl⟩))
    (fun os started H enc _ F => by rw [OpenClaim.pre_eq_preRow]; exact lifted os started H enc F)
/-- No parameter wants a stand-in; the program's own looks are off: what the card asks. -/
theorem plain (f : FuncId) (fn : Func) (hf : Tryd.pinned.checked.prog.funcNamed "coffer/cofferlaw08.HeaderPacks" = some f) (hfn : Tryd.pinned.checked.prog.funcs[f]? = some fn) :
    false = Tryd.pinned.checked.prog.looks [] ∧ ∀ (j : Nat) t, fn.params[j]? = some t → Tryd.pinned.checked.prog.wantsStandIn t = false := by
  obtain rfl : f = 3 := Option.some.inj ((show Tryd.prog.funcNamed "coffer/cofferlaw08.HeaderPacks" = some 3 by kernel_rfl).symm.trans hf) |>.symm
  obtain rfl : fn = Tryd.f3 := (Option.some.inj (Tryd.func3.symm.trans hfn)).symm
  refine ⟨by kernel_rfl, fun j t ht => ?_⟩
  rw [Tryd.params3] at ht
  obtain rfl : t = 24 := by simpa using Array.mem_of_getElem? ht
  exact (show Tryd.prog.wantsStandIn 24 = false by kernel_rfl)
theorem proved : Rows.HeaderPacksCardSaid :=
  Claim7.holds_tied_plain_at .later [] _ _ _ _ said (fun _ h => by cases h) (by kernel_rfl) (fun _ h => by cases h) headerPacks_row_tie rfl ⟨rfl, rfl⟩ (by kernel_rfl) rfl plain (by kernel_rfl)
#print axioms proved
end Go.Proofs.YtglcapkmeecknaaDoor.headerPacks
