/- The law HeaderBack, for every copy and any bytes: what is packed is unpacked as it was, what is unpacked is packed as it was; the walk of the Go text returns true; here it becomes the row and its card. No condition of ours. (Written by genlaw05.py.) (Merged by merge.py.) -/
import Derived.Test.YtglcapkmeecknaaDoorCards
import Derived.Test.YtglcapkmeecknaaDoorTie
import Derived.Test.YtglcapkmeecknaaDoorQY
import Derived.Test.YtglcapkmeecknaaDoorQTabs
import Derived.Test.YtglcapkmeecknaaDoorOpens
import Derived.Lib.LaidU8T
import Derived.WalkKit
import Derived.ProofKit
import Derived.OpenShut
import Derived.ShutString
import Derived.ChangeOld
import Derived.Below
import Derived.SizedLaws
import Derived.JoinedCond
import Derived.Deep.DeepHandedRow
/-! ## LawHeaderBack -/
namespace Go.Proofs.YtglcapkmeecknaaDoor.headerBack
open Go.ChangeShapes Go.WideShapes Go.ChangeAt Go.RowKit Go.Proofs.YtglcapkmeecknaaDoorW.PrintWords Go.Proofs.YtglcapkmeecknaaDoor.opens Go.Proofs.YtglcapkmeecknaaDoor.tabs Go.Proofs.YtglcapkmeecknaaDoor.packeq Go.Proofs.YtglcapkmeecknaaDoor.s28 Go.Proofs.YtglcapkmeecknaaDoor.d40 Go.Proofs.YtglcapkmeecknaaDoor.k07 Go.Proofs.YtglcapkmeecknaaDoor.p24 Go.Proofs.YtglcapkmeecknaaDoor.tk
set_option linter.unusedVariables false
theorem own : ownKnob Tryd.prog.godebug = none := by kernel_rfl
theorem laidOut : laidOutB Tryd.prog = true := by kernel_rfl
def acc : DataW Unit := Rows.laid_unicode_utf8_acceptRanges
def fst : DataW Unit := Rows.laid_unicode_utf8_first
theorem laid_eq : (Rows.headerBackRow.laid : List (String × DataW Unit)) = [("unicode/utf8.acceptRanges", Lib.acceptData), ("coffer/digest.cubes", Lib.tabData .u64 cubTab), ("coffer/digest.squares", Lib.tabData .u64 sqTab), ("coffer/header.magics", .agg (magicTab.map fun s => .lit (.string s))), ("unicode/utf8.first", Lib.firstData)] := by kernel_rfl
def uren : Go.Shelf.Ren := ⟨fun n => n, fun | 119 => 115 | 138 => 125 | 139 => 126 | n => n, fun | 3 => 6 | 4 => 7 | n => n⟩
theorem utypes : U8Types Tryd.prog uren := ⟨Tryd.underlying5, Tryd.underlying115, Tryd.underlying125, Tryd.underlying126⟩
theorem uextra : U8Extra Tryd.prog uren := ⟨by kernel_rfl, by kernel_rfl, by kernel_rfl, by kernel_rfl, by kernel_rfl, by kernel_rfl, by kernel_rfl⟩
theorem tables {W : World} (h : laidMetH Tryd.prog Rows.headerBackRow.laid W) : DigTab kf x0 W ∧ HeadTab W ∧ Lib.Utf8Tabs 6 7 W := by
  have h' : laidMet Tryd.prog Rows.headerBackRow.laid W := h
  rw [laid_eq] at h'
  exact ⟨dig_tab (tab_cub g5 y5 (laidMet_tail h')) (tab_sq g4 y4 (laidMet_tail (laidMet_tail h'))), head_tab (laidMet_tail (laidMet_tail (laidMet_tail h'))),
    utf8Tabs_of_readsT utypes uextra (Go.Lib.laidMet.reads h' (by simp)) (Go.Lib.laidMet.reads h' (by simp))⟩
theorem wf_u8_of {n : Int} (h : (Lit.int .u8 n).wf = true) : 0 ≤ n ∧ n < 256 := by
  simp [Lit.wf, IntKind.min, IntKind.max, IntKind.signed, IntKind.bits] at h; omega
theorem weaken {P : Program} {α : Type} {t : TypeId} {d : Kd α} {ok ok' : α → Prop} {B B' : α → Nat} (h : Opens P t d ok B) (ho : ∀ y, ok y → ok' y) (hB : ∀ y, B' y ≤ B y) : Opens P t d ok' B' := by
  intro H enc w base sp held fuel cs x hx
  obtain ⟨y, h1, h2, h3⟩ := h H enc w base sp held fuel cs x hx
  exact ⟨y, h1, ho y h2, Nat.le_trans (hB y) h3⟩
theorem len_le_sum {α : Type} {B : α → Nat} (hB : ∀ y, 1 ≤ B y) : ∀ ys : List α, ys.length ≤ (ys.map B).sum
  | [] => by simp
  | y :: ys => by have := hB y; have := len_le_sum hB ys; simp only [List.length_cons, List.map_cons, List.sum_cons]; omega
theorem o25 : Opens Tryd.prog 25 (Kd.slice 5 (Kd.int .u8)) (fun ys => Byt ys) (fun ys => ys.length) :=
  weaken (opens_slice Tryd.underlying25 (by kernel_rfl) (opens_int Tryd.underlying5)) (fun ys h y hy => wf_u8_of (h y hy)) (fun ys => by have := len_le_sum (B := fun _ : Int => 1) (fun _ => Nat.le_refl 1) ys; omega)
theorem len_of {H : Type} {enc : TypeId × Value → H} {P : Program} {w : World} {base : Nat} {sp : Nat → Bool} {held : Bool} {t e : TypeId} {A : Option Addr} {n c : Nat} {d : DataW H} {p : List MemPlace} (ht : P.underlying t = some (.slice e)) (h : DataW.Trod enc P w base sp held t (.slice A n c) d p) : n = 0 ∨ ∃ es rs, d = .slice es rs ∧ es.length = n := by
  obtain ⟨fuel, hf⟩ := h
  rcases Go.Deep.open_slice ht hf with ⟨h1, _⟩ | ⟨a, len, cap, m, n', D, Pl, h1, _, _, _, _, h2, _⟩
  · have h3 : [Value.slice A n c] = [.slice none 0 0] := h1
    injection h3 with h4 _
    injection h4 with _ h5 _
    exact .inl h5
  · have h3 : [Value.slice A n c] = [.slice (some a) len cap] := h1
    injection h3 with h4 _
    injection h4 with _ h5 _
    injection h2 with h6 _
    exact .inr ⟨_, _, h6, by rw [List.length_map, List.length_range]; exact h5.symm⟩
theorem wf_i64_of {n : Int} (h : (Lit.int .i64 n).wf = true) : -9223372036854775808 ≤ n ∧ n ≤ 9223372036854775807 := by
  simp [Lit.wf, IntKind.min, IntKind.max, IntKind.signed, IntKind.bits] at h; omega
theorem wf_u64_of {n : Int} (h : (Lit.int .u64 n).wf = true) : 0 ≤ n ∧ n < 18446744073709551616 := by
  simp [Lit.wf, IntKind.min, IntKind.max, IntKind.signed, IntKind.bits] at h; omega
abbrev hkd := Kd.pair Kd.bool (Kd.pair (Kd.int .i64) (Kd.pair (Kd.int .u64) (Kd.pair Kd.string (Kd.pair Kd.string (Kd.pair Kd.string (Kd.pair Kd.string Kd.string))))))
theorem o24 : ∃ ok B, Opens Tryd.prog 24 hkd ok B ∧ ∀ y, ok y → (-9223372036854775808 ≤ y.2.1 ∧ y.2.1 ≤ 9223372036854775807) ∧ 0 ≤ y.2.2.1 ∧ y.2.2.2.1.size ≤ 9223372036854775807 ∧ y.2.2.2.2.1.size ≤ 9223372036854775807 ∧ y.2.2.2.2.2.1.size ≤ 9223372036854775807 ∧ y.2.2.2.2.2.2.2.size ≤ 9223372036854775807 := by
  refine ⟨_, _, opens_struct (P := Tryd.prog) Tryd.underlying24 (by kernel_rfl) (fields_cons rfl (by kernel_rfl) (opens_bool Tryd.underlying4) (fields_cons rfl (by kernel_rfl) (opens_int Tryd.underlying3) (fields_cons rfl (by kernel_rfl) (opens_int Tryd.underlying22) (fields_cons rfl (by kernel_rfl) (opens_string Tryd.underlying9) (fields_cons rfl (by kernel_rfl) (opens_string Tryd.underlying9) (fields_cons rfl (by kernel_rfl) (opens_string Tryd.underlying9) (fields_cons rfl (by kernel_rfl) (opens_string Tryd.underlying9) (fields_one rfl (by kernel_rfl) (opens_string Tryd.underlying9))))))))), fun y hy => ?_⟩
  obtain ⟨_, h1, h2, h3, h4, h5, _, h7⟩ := hy
  simp only [maxLen] at h3 h4 h5 h7
  exact ⟨wf_i64_of h1, (wf_u64_of h2).1, h3, h4, h5, h7⟩
theorem head_cells {w : World} {cs : List Value} {y} (h : hkd.K w y cs) : cs = [.bool y.1, .int .i64 y.2.1, .int .u64 y.2.2.1, .string y.2.2.2.1, .string y.2.2.2.2.1, .string y.2.2.2.2.2.1, .string y.2.2.2.2.2.2.1, .string y.2.2.2.2.2.2.2] := by
  obtain ⟨y0, y1, y2, y3, y4, y5, y6, y7⟩ := y
  obtain ⟨_, _, rfl, h0, _, _, rfl, h1, _, _, rfl, h2, _, _, rfl, h3, _, _, rfl, h4, _, _, rfl, h5, _, _, rfl, h6, h7⟩ := h
  cases h0; cases h1; cases h2; cases h3; cases h4; cases h5; cases h6; cases h7
  rfl
set_option maxRecDepth 100000 in
theorem contract (H : Type) (enc : TypeId × Value → H) (W : World) (base : Nat) (args : Array Value) (ds gs : List (DataW H)) (before : List MemPlace)
    (hval : ∀ (j : Nat) t v, Tryd.f5.params[j]? = some t → args[j]? = some v → Value.okWide Tryd.prog W .any base t v)
    (hW : DataW.Whole enc Tryd.prog Tryd.f5.params.toList Rows.headerBackSpec.vars false W args.toList ds gs before)
    (hs : (DataW.weightsEach Tryd.prog (Tryd.f5.params.toList ++ (OpenSpec.ofChange Rows.headerBackSpec).bare.plain.varTypes Tryd.prog) (ds ++ gs)).all (· ≤ reachBytes) = true) (hL : laidMetH Tryd.prog Rows.headerBackRow.laid W) :
    Calls Tryd.prog 5 args W fun e W' => ∃ v, e = .returned v ∧ Rows.headerBackSpec.post enc Tryd.prog Tryd.f5 false true false false W args v W' := by
  have hW' := hW
  obtain ⟨p, q, hA0, hV, rfl, hfz, hnd⟩ := hW
  have hA : DataW.TrodAll enc Tryd.prog W 0 (fun _ => true) true Tryd.f5.params.toList args.toList ds p := hA0
  rw [Tryd.params5] at hA hval hs
  obtain ⟨v0, vs0, d0, ds0, p0, q0, hargs, rfl, rfl, h0, r0⟩ := trodAll_cons hA
  obtain ⟨v1, vs1, d1, ds1, p1, q1, hargs1, rfl, rfl, h1, r1⟩ := trodAll_cons r0
  obtain ⟨rfl, rfl, rfl⟩ := trodAll_nil r1
  obtain rfl : args = #[v0, v1] := by cases args; simp_all
  obtain ⟨rfl, rfl⟩ := trodVars_none hV
  have k0 := h0
  have k1 := h1
  have lt0 : ∀ x ∈ p0, x.block < W.heap.size := by obtain ⟨m, hm⟩ := k0; exact DataW.trod_lt m _ _ _ hm
  have lt1 : ∀ x ∈ p1, x.block < W.heap.size := by obtain ⟨m, hm⟩ := k1; exact DataW.trod_lt m _ _ _ hm
  obtain ⟨c0, rfl⟩ : ∃ c, v0 = .agg c := by
    have := hval 0 24 v0 rfl rfl
    unfold Value.okWide at this; rw [Tryd.underlying24] at this
    exact ⟨_, this.choose_spec.1⟩
  obtain ⟨_, _, o, hO⟩ := o24
  obtain ⟨y, z0, oky, hby⟩ := opened o h0
  obtain ⟨b0, z1, ok1, hb1⟩ := opened o25 h1
  obtain ⟨A0, n0, hz1, hc1, hC1⟩ := z1
  obtain rfl : v1 = .slice A0 b0.length n0 := by
    have hv := hval 1 25 v1 rfl rfl
    unfold Value.okWide at hv; rw [Tryd.underlying25] at hv
    cases v1 <;> first | (exfalso; simp [Cell.okWide, Cell.ok, Tryd.underlying25] at hv; done) | (simp_all [Value.cells]; done)
  have hlen : b0.length ≤ 140737488355328 := by
    rcases len_of Tryd.underlying25 h1 with h | ⟨es, rs, rfl, he⟩
    · omega
    · have := sized_slice (j := 1) (t := 25) (e := 5) hs rfl rfl Tryd.underlying25
      rw [show Tryd.prog.bytesOf 5 = 1 by kernel_rfl, he] at this
      unfold reachBytes at this
      omega
  have e0 := head_cells z0
  obtain rfl : c0 = #[.bool y.1, .int .i64 y.2.1, .int .u64 y.2.2.1, .string y.2.2.2.1, .string y.2.2.2.2.1, .string y.2.2.2.2.2.1, .string y.2.2.2.2.2.2.1, .string y.2.2.2.2.2.2.2] := by cases c0; exact congrArg _ e0
  clear hA0
  obtain ⟨td, th, tu⟩ := tables hL
  obtain ⟨⟨a0, a1⟩, a2, _⟩ := hO y oky
  refine (l05.back_call kf x0 _ _ _ _ _ _ _ _ a0 a1 a2 W A0 n0 b0 hc1 ok1 hlen hC1 ⟨th.m0, th.m1, World.block_lt_of_cell? W _ th.m0⟩ tu td).mono fun e W' ⟨he, bel⟩ => ?_
  subst he
  exact ⟨_, rfl, _, _, _, [], _, [], hW', trodAll_mk1 (shut_bool Tryd.underlying4 _), (trodAll_cons_mk (Below.trod laidOut (by kernel_rfl) (of_decide_eq_true (by kernel_rfl)) k0 bel lt0) (trodAll_cons_mk (Below.trod laidOut (by kernel_rfl) (of_decide_eq_true (by kernel_rfl)) k1 bel lt1) trodAll_mk0)), rfl, bel.frame _, fun h => by cases h⟩
/-- A world for the witness: the settled one, the tables holding what their initialisers lay. -/
noncomputable def laidWorld (os : Os) : World :=
  let w := World.holding Tryd.prog os ⟨#[], #[], []⟩
  { w with heap := ((((((w.heap.modify 0 fun
      | .cells _ t frozen => .cells #[.string ⟨#[76, 85, 75, 83, 186, 190]⟩, .string ⟨#[83, 75, 85, 76, 186, 190]⟩] t frozen
      | o => o).modify 1 fun
      | .cells _ t frozen => .cells (sqTab.map (Value.int .u64)).toArray t frozen
      | o => o).modify 2 fun
      | .cells _ t frozen => .cells (cubTab.map (Value.int .u64)).toArray t frozen
      | o => o).modify 4 fun
      | .cells _ t frozen => .cells (sqTab.map (Value.int .u64)).toArray t frozen
      | o => o).modify 5 fun
      | .cells _ t frozen => .cells (cubTab.map (Value.int .u64)).toArray t frozen
      | o => o).modify 6 fun
      | .cells _ t frozen => .cells (Lib.firstTab.map (Value.int .u8)).toArray t frozen
      | o => o).modify 7 fun
      | .cells _ t frozen => .cells ((List.range 16).flatMap fun i => [Value.int .u8 (Lib.accLo i : Int), Value.int .u8 (Lib.accHi i : Int)]).toArray t frozen
      | o => o }
abbrev wit : Array Value := #[.agg #[.bool false, .int .i64 0, .int .u64 0, .string ByteArray.empty, .string ByteArray.empty, .string ByteArray.empty, .string ByteArray.empty, .string ByteArray.empty], .slice none 0 0]
theorem laid_met (os : Os) : laidMet Tryd.prog Rows.headerBackRow.laid ((laidWorld os).forCall (fun _ _ => 0) ⟨#[], wit, []⟩).memory :=
  laidMet_of_run' 8 (by kernel_rfl) (by kernel_rfl)
theorem reads (os : Os) {H : Type} (enc : TypeId × Value → H) : ∃ places, DataW.whole enc Tryd.prog ((laidWorld os).forCall (fun _ _ => 0) ⟨#[], wit, []⟩).memory Tryd.f5.params.toList Rows.headerBackSpec.vars false wit.toList 8 = some ([.agg [.lit (.bool false), .lit (.int .i64 0), .lit (.int .u64 0), .lit (.string []), .lit (.string []), .lit (.string []), .lit (.string []), .lit (.string [])], .nil], [], places) :=
  ⟨[], by kernel_rfl⟩
set_option maxRecDepth 100000 in
theorem lifted (os : Os) (started : os.Started) (H : Type) (enc : TypeId × Value → H) (F : Stop.Interp) :
    ReturnsInHanded {} Tryd.checked os 5 .any ((OpenSpec.ofChange Rows.headerBackSpec).preRow enc Tryd.prog Tryd.f5 Rows.headerBackRow.domain false Rows.headerBackRow.laid) (((OpenSpec.ofChange Rows.headerBackSpec).at F).post enc Tryd.prog Tryd.f5 false true false false) := by
  obtain ⟨places, hx⟩ := reads os enc
  refine returnsInHanded_of_row (C := Tryd.checked) (s := OpenSpec.ofChange Rows.headerBackSpec) own started (by kernel_rfl) Tryd.func5
    (witness_row_at (enc := enc) (C := Tryd.checked) false (laidWorld os) wit rfl (by kernel_rfl) (by kernel_rfl) (by kernel_rfl)
      (OpenSpec.preRow_of_cond 8 hx (by kernel_rfl) (fun k hk => by cases hk) (by kernel_rfl) (laid_met os))) ?_
  intro W base args ds gs before hval hW _ _ hs hL _ _
  exact contract H enc W base args ds gs before hval hW hs hL
theorem said : Rows.HeaderBackSaid :=
  OpenClaim.holds_of_cond 5 Tryd.f5 rfl rfl rfl rfl rfl rfl rfl ⟨rfl, rfl, rfl, rfl, rfl⟩ rfl rfl rfl rfl rfl (by kernel_rfl) Tryd.func5 (by kernel_rfl)
    (of_decide_eq_true (by kernel_rfl)) (by unfold Func.isWrapper; first | (rw [if_pos (by decide +kernel)]; kernel_rfl) | (rw [if_neg (by decide +kernel)]; exact ⟨rfl, rfl⟩))
    (fun os started H enc _ F => by rw [OpenClaim.pre_eq_preRow]; exact lifted os started H enc F)
/-- No parameter wants a stand-in; the program's own looks are off: what the card asks. -/
theorem plain (f : FuncId) (fn : Func) (hf : Tryd.pinned.checked.prog.funcNamed "coffer/cofferlaw08.HeaderBack" = some f) (hfn : Tryd.pinned.checked.prog.funcs[f]? = some fn) :
    false = Tryd.pinned.checked.prog.looks [] ∧ ∀ (j : Nat) t, fn.params[j]? = some t → Tryd.pinned.checked.prog.wantsStandIn t = false := by
  obtain rfl : f = 5 := Option.some.inj ((show Tryd.prog.funcNamed "coffer/cofferlaw08.HeaderBack" = some 5 by kernel_rfl).symm.trans hf) |>.symm
  obtain rfl : fn = Tryd.f5 := (Option.some.inj (Tryd.func5.symm.trans hfn)).symm
  refine ⟨by kernel_rfl, fun j t ht => ?_⟩
  rw [Tryd.params5] at ht
  have : t = 24 ∨ t = 25 := by simpa using Array.mem_of_getElem? ht
  rcases this with rfl | rfl
  · exact (show Tryd.prog.wantsStandIn 24 = false by kernel_rfl)
  · exact (show Tryd.prog.wantsStandIn 25 = false by kernel_rfl)
theorem proved : Rows.HeaderBackCardSaid :=
  Claim7.holds_tied_plain_at .later [] _ _ _ _ said (fun _ h => by cases h) (by kernel_rfl) (fun _ h => by cases h) headerBack_row_tie rfl ⟨rfl, rfl⟩ (by kernel_rfl) rfl plain (by kernel_rfl)
#print axioms proved
end Go.Proofs.YtglcapkmeecknaaDoor.headerBack
