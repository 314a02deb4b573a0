/- The law HeaderUnpacks, for any bytes, as either copy, with their digest put in too: the walk of the Go text returns true; here it becomes the row and its card. The second form's condition alone: arguments of at most 1048576 values. (Written by genlaw04.py.) (Merged by merge.py.) -/
import Derived.Test.YtglcapkmeecknaaDoorCards
import Derived.Test.YtglcapkmeecknaaDoorTie
import Derived.Test.YtglcapkmeecknaaDoorQX
import Derived.Test.YtglcapkmeecknaaDoorQTabs
import Derived.Test.YtglcapkmeecknaaDoorOpens
import Derived.Lib.LaidU8T
import Derived.WalkKit
import Derived.ProofKit
import Derived.OpenShut
import Derived.ShutString
import Derived.ChangeOld
import Derived.Below
import Derived.SizedLaws
import Derived.JoinedCond
import Derived.Deep.DeepHandedRow
/-! ## LawHeaderUnpacks -/
namespace Go.Proofs.YtglcapkmeecknaaDoor.headerUnpacksUpto
open Go.ChangeShapes Go.WideShapes Go.ChangeAt Go.RowKit Go.Proofs.YtglcapkmeecknaaDoorW.PrintWords Go.Proofs.YtglcapkmeecknaaDoor.opens Go.Proofs.YtglcapkmeecknaaDoor.tabs Go.Proofs.YtglcapkmeecknaaDoor.packeq Go.Proofs.YtglcapkmeecknaaDoor.s28 Go.Proofs.YtglcapkmeecknaaDoor.d40 Go.Proofs.YtglcapkmeecknaaDoor.k07 Go.Proofs.YtglcapkmeecknaaDoor.p24 Go.Proofs.YtglcapkmeecknaaDoor.tk
set_option linter.unusedVariables false
theorem own : ownKnob Tryd.prog.godebug = none := by kernel_rfl
theorem laidOut : laidOutB Tryd.prog = true := by kernel_rfl
def acc : DataW Unit := Rows.laid_unicode_utf8_acceptRanges
def fst : DataW Unit := Rows.laid_unicode_utf8_first
theorem laid_eq : (Rows.headerUnpacksUptoRow.laid : List (String × DataW Unit)) = [("coffer/cofferref01.cubes", Lib.tabData .u64 cubTab), ("coffer/cofferref01.squares", Lib.tabData .u64 sqTab), ("unicode/utf8.acceptRanges", Lib.acceptData), ("coffer/digest.cubes", Lib.tabData .u64 cubTab), ("coffer/digest.squares", Lib.tabData .u64 sqTab), ("coffer/header.magics", .agg (magicTab.map fun s => .lit (.string s))), ("unicode/utf8.first", Lib.firstData)] := by kernel_rfl
def uren : Go.Shelf.Ren := ⟨fun n => n, fun | 119 => 115 | 138 => 125 | 139 => 126 | n => n, fun | 3 => 6 | 4 => 7 | n => n⟩
theorem utypes : U8Types Tryd.prog uren := ⟨Tryd.underlying5, Tryd.underlying115, Tryd.underlying125, Tryd.underlying126⟩
theorem uextra : U8Extra Tryd.prog uren := ⟨by kernel_rfl, by kernel_rfl, by kernel_rfl, by kernel_rfl, by kernel_rfl, by kernel_rfl, by kernel_rfl⟩
theorem tables {W : World} (h : laidMetH Tryd.prog Rows.headerUnpacksUptoRow.laid W) : RefTab kf x0 W ∧ DigTab kf x0 W ∧ HeadTab W ∧ Lib.Utf8Tabs 6 7 W := by
  have h' : laidMet Tryd.prog Rows.headerUnpacksUptoRow.laid W := h
  rw [laid_eq] at h'
  exact ⟨ref_tab (tab_cub g2 y2 h') (tab_sq g1 y1 (laidMet_tail h')), dig_tab (tab_cub g5 y5 (laidMet_tail (laidMet_tail (laidMet_tail h')))) (tab_sq g4 y4 (laidMet_tail (laidMet_tail (laidMet_tail (laidMet_tail h'))))), head_tab (laidMet_tail (laidMet_tail (laidMet_tail (laidMet_tail (laidMet_tail h'))))),
    utf8Tabs_of_readsT utypes uextra (Go.Lib.laidMet.reads h' (by simp)) (Go.Lib.laidMet.reads h' (by simp))⟩
theorem wf_u8_of {n : Int} (h : (Lit.int .u8 n).wf = true) : 0 ≤ n ∧ n < 256 := by
  simp [Lit.wf, IntKind.min, IntKind.max, IntKind.signed, IntKind.bits] at h; omega
theorem weaken {P : Program} {α : Type} {t : TypeId} {d : Kd α} {ok ok' : α → Prop} {B B' : α → Nat} (h : Opens P t d ok B) (ho : ∀ y, ok y → ok' y) (hB : ∀ y, B' y ≤ B y) : Opens P t d ok' B' := by
  intro H enc w base sp held fuel cs x hx
  obtain ⟨y, h1, h2, h3⟩ := h H enc w base sp held fuel cs x hx
  exact ⟨y, h1, ho y h2, Nat.le_trans (hB y) h3⟩
theorem len_le_sum {α : Type} {B : α → Nat} (hB : ∀ y, 1 ≤ B y) : ∀ ys : List α, ys.length ≤ (ys.map B).sum
  | [] => by simp
  | y :: ys => by have := hB y; have := len_le_sum hB ys; simp only [List.length_cons, List.map_cons, List.sum_cons]; omega
theorem o25 : Opens Tryd.prog 25 (Kd.slice 5 (Kd.int .u8)) (fun ys => Byt ys) (fun ys => ys.length) :=
  weaken (opens_slice Tryd.underlying25 (by kernel_rfl) (opens_int Tryd.underlying5)) (fun ys h y hy => wf_u8_of (h y hy)) (fun ys => by have := len_le_sum (B := fun _ : Int => 1) (fun _ => Nat.le_refl 1) ys; omega)
set_option maxRecDepth 100000 in
theorem contract (H : Type) (enc : TypeId × Value → H) (W : World) (base : Nat) (args : Array Value) (ds gs : List (DataW H)) (before : List MemPlace)
    (hval : ∀ (j : Nat) t v, Tryd.f4.params[j]? = some t → args[j]? = some v → Value.okWide Tryd.prog W .any base t v)
    (hW : DataW.Whole enc Tryd.prog Tryd.f4.params.toList Rows.headerUnpacksSpec.vars false W args.toList ds gs before) (hk : Rows.uptoSmall H (ds ++ gs) = true) (hL : laidMetH Tryd.prog Rows.headerUnpacksUptoRow.laid W) :
    Calls Tryd.prog 4 args W fun e W' => ∃ v, e = .returned v ∧ Rows.headerUnpacksSpec.post enc Tryd.prog Tryd.f4 false true false false W args v W' := by
  have hW' := hW
  obtain ⟨p, q, hA0, hV, rfl, hfz, hnd⟩ := hW
  have hA : DataW.TrodAll enc Tryd.prog W 0 (fun _ => true) true Tryd.f4.params.toList args.toList ds p := hA0
  rw [Tryd.params4] at hA hval
  obtain ⟨v0, vs0, d0, ds0, p0, q0, hargs, rfl, rfl, h0, r0⟩ := trodAll_cons hA
  obtain ⟨v1, vs1, d1, ds1, p1, q1, hargs1, rfl, rfl, h1, r1⟩ := trodAll_cons r0
  obtain ⟨rfl, rfl, rfl⟩ := trodAll_nil r1
  obtain rfl : args = #[v0, v1] := by cases args; simp_all
  obtain ⟨rfl, rfl⟩ := trodVars_none hV
  have k0 := h0
  have lt0 : ∀ x ∈ p0, x.block < W.heap.size := by obtain ⟨m, hm⟩ := k0; exact DataW.trod_lt m _ _ _ hm
  obtain ⟨b1, rfl, rfl, rfl⟩ := open_bool Tryd.underlying4 (hval 1 4 v1 rfl rfl) h1
  obtain ⟨b0, z0, ok0, hb0⟩ := opened o25 h0
  obtain ⟨A0, c0, hz0, hc0, hC0⟩ := z0
  obtain rfl : v0 = .slice A0 b0.length c0 := by
    have hv := hval 0 25 v0 rfl rfl
    unfold Value.okWide at hv; rw [Tryd.underlying25] at hv
    cases v0 <;> first | (exfalso; simp [Cell.okWide, Cell.ok, Tryd.underlying25] at hv; done) | (simp_all [Value.cells]; done)
  have bulk : Rows.uptoBulkAll ([d0, .lit (.bool b1)] ++ ([] : List (DataW H))) ≤ 1048576 := of_decide_eq_true hk
  simp only [List.cons_append, List.nil_append, Rows.uptoBulkAll] at bulk
  clear hA0
  obtain ⟨tr, td, th, tu⟩ := tables hL
  refine (l04.unpacks_call kf x0 b1 W A0 c0 b0 hc0 ok0 (by omega) hC0 ⟨th.m0, th.m1, World.block_lt_of_cell? W _ th.m0⟩ tu td tr).mono fun e W' ⟨he, bel⟩ => ?_
  subst he
  exact ⟨_, rfl, _, _, _, [], _, [], hW', trodAll_mk1 (shut_bool Tryd.underlying4 _), (trodAll_cons_mk (Below.trod laidOut (by kernel_rfl) (of_decide_eq_true (by kernel_rfl)) k0 bel lt0) (trodAll_cons_mk (shut_bool Tryd.underlying4 _) trodAll_mk0)), rfl, bel.frame _, fun h => by cases h⟩
/-- A world for the witness: the settled one, the tables holding what their initialisers lay. -/
noncomputable def laidWorld (os : Os) : World :=
  let w := World.holding Tryd.prog os ⟨#[], #[], []⟩
  { w with heap := ((((((w.heap.modify 0 fun
      | .cells _ t frozen => .cells #[.string ⟨#[76, 85, 75, 83, 186, 190]⟩, .string ⟨#[83, 75, 85, 76, 186, 190]⟩] t frozen
      | o => o).modify 1 fun
      | .cells _ t frozen => .cells (sqTab.map (Value.int .u64)).toArray t frozen
      | o => o).modify 2 fun
      | .cells _ t frozen => .cells (cubTab.map (Value.int .u64)).toArray t frozen
      | o => o).modify 4 fun
      | .cells _ t frozen => .cells (sqTab.map (Value.int .u64)).toArray t frozen
      | o => o).modify 5 fun
      | .cells _ t frozen => .cells (cubTab.map (Value.int .u64)).toArray t frozen
      | o => o).modify 6 fun
      | .cells _ t frozen => .cells (Lib.firstTab.map (Value.int .u8)).toArray t frozen
      | o => o).modify 7 fun
      | .cells _ t frozen => .cells ((List.range 16).flatMap fun i => [Value.int .u8 (Lib.accLo i : Int), Value.int .u8 (Lib.accHi i : Int)]).toArray t frozen
      | o => o }
abbrev wit : Array Value := #[.slice none 0 0, .bool false]
theorem laid_met (os : Os) : laidMet Tryd.prog Rows.headerUnpacksUptoRow.laid ((laidWorld os).forCall (fun _ _ => 0) ⟨#[], wit, []⟩).memory :=
  laidMet_of_run' 8 (by kernel_rfl) (by kernel_rfl)
theorem reads (os : Os) {H : Type} (enc : TypeId × Value → H) : ∃ places, DataW.whole enc Tryd.prog ((laidWorld os).forCall (fun _ _ => 0) ⟨#[], wit, []⟩).memory Tryd.f4.params.toList Rows.headerUnpacksSpec.vars false wit.toList 8 = some ([.nil, .lit (.bool false)], [], places) :=
  ⟨[], by kernel_rfl⟩
set_option maxRecDepth 100000 in
theorem lifted (os : Os) (started : os.Started) (H : Type) (enc : TypeId × Value → H) (F : Stop.Interp) :
    ReturnsInHanded {} Tryd.checked os 4 .any ((Rows.OpenSpec.upto Rows.headerUnpacksSpec).preRow enc Tryd.prog Tryd.f4 Rows.headerUnpacksUptoRow.domain false Rows.headerUnpacksUptoRow.laid) (((Rows.OpenSpec.upto Rows.headerUnpacksSpec).at F).post enc Tryd.prog Tryd.f4 false true false false) := by
  obtain ⟨places, hx⟩ := reads os enc
  refine returnsInHanded_of_row (C := Tryd.checked) (s := Rows.OpenSpec.upto Rows.headerUnpacksSpec) own started (by kernel_rfl) Tryd.func4
    (witness_row_at (enc := enc) (C := Tryd.checked) false (laidWorld os) wit rfl (by kernel_rfl) (by kernel_rfl) (by kernel_rfl)
      (OpenSpec.preRow_of_cond 8 hx (by kernel_rfl) (fun k hk => by cases hk; kernel_rfl) (by kernel_rfl) (laid_met os))) ?_
  intro W base args ds gs before hval hW _ hcond _ hL _ _
  exact contract H enc W base args ds gs before hval hW (hcond _ rfl) hL
theorem said : Rows.HeaderUnpacksUptoSaid :=
  OpenClaim.holds_of_cond 4 Tryd.f4 rfl rfl rfl rfl rfl rfl rfl ⟨rfl, rfl, rfl, rfl, rfl⟩ rfl rfl rfl rfl rfl (by kernel_rfl) Tryd.func4 (by kernel_rfl)
    (of_decide_eq_true (by kernel_rfl)) (by unfold Func.isWrapper; first | (rw [if_pos (by decide +kernel)]; kernel_rfl) | (rw [if_neg (by decide +kernel)]; exact ⟨rfl, rfl⟩))
    (fun os started H enc _ F => by rw [OpenClaim.pre_eq_preRow]; exact lifted os started H enc F)
/-- No parameter wants a stand-in; the program's own looks are off: what the card asks. -/
theorem plain (f : FuncId) (fn : Func) (hf : Tryd.pinned.checked.prog.funcNamed "coffer/cofferlaw08.HeaderUnpacks" = some f) (hfn : Tryd.pinned.checked.prog.funcs[f]? = some fn) :
    false = Tryd.pinned.checked.prog.looks [] ∧ ∀ (j : Nat) t, fn.params[j]? = some t → Tryd.pinned.checked.prog.wantsStandIn t = false := by
  obtain rfl : f = 4 := Option.some.inj ((show Tryd.prog.funcNamed "coffer/cofferlaw08.HeaderUnpacks" = some 4 by kernel_rfl).symm.trans hf) |>.symm
  obtain rfl : fn = Tryd.f4 := (Option.some.inj (Tryd.func4.symm.trans hfn)).symm
  refine ⟨by kernel_rfl, fun j t ht => ?_⟩
  rw [Tryd.params4] at ht
  have : t = 25 ∨ t = 4 := by simpa using Array.mem_of_getElem? ht
  rcases this with rfl | rfl
  · exact (show Tryd.prog.wantsStandIn 25 = false by kernel_rfl)
  · exact (show Tryd.prog.wantsStandIn 4 = false by kernel_rfl)
theorem proved : Rows.HeaderUnpacksUptoCardSaid :=
  Claim7.holds_tied_plain_at .later [] _ _ _ _ said (fun _ h => by cases h) (by kernel_rfl) (fun _ h => by cases h) headerUnpacksUpto_row_tie rfl ⟨rfl, rfl⟩ (by kernel_rfl) rfl plain (by kernel_rfl)
#print axioms proved
end Go.Proofs.YtglcapkmeecknaaDoor.headerUnpacksUpto
