/- The law HeaderChooses, for every input: what the printed functions compute is true, and the row. -/
import Derived.Test.YtglcapkmeecknaaRows
import Derived.Test.YtglcapkmeecknaaPHeaderChoosesx3
import Derived.Test.YtglcapkmeecknaaOpens
import Derived.WalkKit
import Derived.ProofKit
import Derived.OpenShut
import Derived.ShutString
import Derived.ChangeOld
import Derived.Below
namespace Go.Proofs.Ytglcapkmeecknaa.headerChooses
open Go.ChangeShapes Go.WideShapes Go.ChangeAt Go.RowKit Go.Proofs.Ytglcapkmeecknaa.PHeaderChooses Go.Proofs.YtglcapkmeecknaaW.PrintWords Go.Proofs.Ytglcapkmeecknaa.opens
set_option linter.unusedVariables false
theorem own : ownKnob Try.prog.godebug = none := by kernel_rfl
theorem laidOut : laidOutB Try.prog = true := by kernel_rfl

theorem plain (why : Int) (s : Bool) (h q : Int) (l1 l2 l3 l4 l5 : ByteArray) (why' : Int) (s' : Bool) (h' q' : Int) (m1 m2 m3 m4 m5 : ByteArray) (f g : Bool) :
    cofferlaw08_HeaderChooses.f 5 why s h q l1 l2 l3 l4 l5 why' s' h' q' m1 m2 m3 m4 m5 f g = some true := by
  by_cases c0 : why = 0 <;> by_cases c1 : why' = 0 <;> by_cases c2 : q ≥ q' <;> cases f <;> cases g <;>
    simp [cofferlaw08_HeaderChooses.f, header_Choose.f, header_Choose.j0, header_Choose.j1, header_Choose.j2, cofferlaw08_num.f, cofferref08_Choose.f, cofferref08_Choose.j0, c0, c1, c2]

/-- One side: its fields in their order. -/
abbrev headKd := Kd.pair Kd.bool (Kd.pair (Kd.int .i64) (Kd.pair (Kd.int .u64) (Kd.pair Kd.string (Kd.pair Kd.string (Kd.pair Kd.string (Kd.pair Kd.string Kd.string))))))
abbrev sideKd := Kd.pair (Kd.int .i64) headKd
theorem opens23 : Opens Try.prog 23 (Kd.int .i64) (fun n => (Lit.int .i64 n).wf = true) (fun _ => 1) := opens_int Try.underlying23
theorem opens26 : ∃ ok B, Opens Try.prog 26 headKd ok B := ⟨_, _, opens_struct (P := Try.prog) Try.underlying26 (by kernel_rfl) (fields_cons rfl (by kernel_rfl) (opens_bool Try.underlying4) (fields_cons rfl (by kernel_rfl) (opens_int Try.underlying3) (fields_cons rfl (by kernel_rfl) (opens_int Try.underlying24)
  (fields_cons rfl (by kernel_rfl) (opens_string Try.underlying9) (fields_cons rfl (by kernel_rfl) (opens_string Try.underlying9) (fields_cons rfl (by kernel_rfl) (opens_string Try.underlying9) (fields_cons rfl (by kernel_rfl) (opens_string Try.underlying9) (fields_one rfl (by kernel_rfl) (opens_string Try.underlying9)))))))))⟩
theorem opens28 : ∃ ok B, Opens Try.prog 28 sideKd ok B := by
  obtain ⟨_, _, h⟩ := opens26
  exact ⟨_, _, opens_struct (P := Try.prog) Try.underlying28 (by kernel_rfl) (fields_cons rfl (by kernel_rfl) opens23 (fields_one rfl (by kernel_rfl) h))⟩

theorem side_cells {w : World} {cs : List Value} {y} (h : sideKd.K w y cs) : ∃ why s hd q l1 l2 l3 l4 l5, cs = [.int .i64 why, .bool s, .int .i64 hd, .int .u64 q, .string l1, .string l2, .string l3, .string l4, .string l5] := by
  obtain ⟨y0, y1, y2, y3, y4, y5, y6, y7, y8⟩ := y
  obtain ⟨_, _, rfl, h0, _, _, rfl, h1, _, _, rfl, h2, _, _, rfl, h3, _, _, rfl, h4, _, _, rfl, h5, _, _, rfl, h6, _, _, rfl, h7, h8⟩ := h
  cases h0; cases h1; cases h2; cases h3; cases h4; cases h5; cases h6; cases h7; cases h8
  exact ⟨_, _, _, _, _, _, _, _, _, rfl⟩

theorem contract (H : Type) (enc : TypeId × Value → H) (W : World) (base : Nat) (args : Array Value) (ds gs : List (DataW H)) (before : List MemPlace)
    (hval0 : ∀ (j : Nat) t v, Try.f4.params[j]? = some t → args[j]? = some v → Value.okWide Try.prog W .any base t v)
    (hW : DataW.Whole enc Try.prog Try.f4.params.toList Rows.headerChoosesSpec.vars false W args.toList ds gs before) :
    Calls Try.prog 4 args W fun e W' => ∃ v, e = .returned v ∧ Rows.headerChoosesSpec.post enc Try.prog Try.f4 false true false false W args v W' := by
  have hW' := hW
  have hval := hval0
  obtain ⟨p, q, hA0, hV, rfl, hfz, hnd⟩ := hW
  have hA : DataW.TrodAll enc Try.prog W 0 (fun _ => true) true Try.f4.params.toList args.toList ds p := hA0
  rw [Try.params4] at hA hval
  obtain ⟨v0, vs0, d0, ds0, p0, q0, hargs, rfl, rfl, h0, r0⟩ := trodAll_cons hA
  obtain ⟨v1, vs1, d1, ds1, p1, q1, rfl, rfl, rfl, h1, r1⟩ := trodAll_cons r0
  obtain ⟨v2, vs2, d2, ds2, p2, q2, rfl, rfl, rfl, h2, r2⟩ := trodAll_cons r1
  obtain ⟨v3, vs3, d3, ds3, p3, q3, rfl, rfl, rfl, h3, r3⟩ := trodAll_cons r2
  obtain ⟨rfl, rfl, rfl⟩ := trodAll_nil r3
  obtain rfl : args = #[v0, v1, v2, v3] := by cases args; simp_all
  obtain ⟨rfl, rfl⟩ := trodVars_none hV
  have k0 := h0
  have k1 := h1
  have lt0 : ∀ x ∈ p0, x.block < W.heap.size := by obtain ⟨m, hm⟩ := k0; exact DataW.trod_lt m _ _ _ hm
  have lt1 : ∀ x ∈ p1, x.block < W.heap.size := by obtain ⟨m, hm⟩ := k1; exact DataW.trod_lt m _ _ _ hm
  obtain ⟨c0, rfl⟩ : ∃ c, v0 = .agg c := by
    have := hval 0 28 v0 rfl rfl
    unfold Value.okWide at this; rw [Try.underlying28] at this
    exact ⟨_, this.choose_spec.1⟩
  obtain ⟨c1, rfl⟩ : ∃ c, v1 = .agg c := by
    have := hval 1 28 v1 rfl rfl
    unfold Value.okWide at this; rw [Try.underlying28] at this
    exact ⟨_, this.choose_spec.1⟩
  obtain ⟨_, _, o28⟩ := opens28
  obtain ⟨y0, z0, _, _⟩ := opened o28 h0
  obtain ⟨y1, z1, _, _⟩ := opened o28 h1
  obtain ⟨x0, x1, x2, x3, x4, x5, x6, x7, x8, e0⟩ := side_cells z0
  obtain ⟨x0', x1', x2', x3', x4', x5', x6', x7', x8', e1⟩ := side_cells z1
  obtain rfl : c0 = #[.int .i64 x0, .bool x1, .int .i64 x2, .int .u64 x3, .string x4, .string x5, .string x6, .string x7, .string x8] := by cases c0; exact congrArg _ e0
  obtain rfl : c1 = #[.int .i64 x0', .bool x1', .int .i64 x2', .int .u64 x3', .string x4', .string x5', .string x6', .string x7', .string x8'] := by cases c1; exact congrArg _ e1
  obtain ⟨a2, rfl, rfl, rfl⟩ := open_bool Try.underlying4 (hval 2 4 v2 rfl rfl) h2
  obtain ⟨a3, rfl, rfl, rfl⟩ := open_bool Try.underlying4 (hval 3 4 v3 rfl rfl) h3
  clear hA0 hval0
  refine (cofferlaw08_HeaderChooses.calls 5 _ _ _ _ _ _ _ _ _ _ _ _ _ _ _ _ _ _ _ _ true W (plain _ _ _ _ _ _ _ _ _ _ _ _ _ _ _ _ _ _ a2 a3)).mono fun e W' ⟨he, bel⟩ => ?_
  subst he
  exact ⟨_, rfl, _, _, _, [], _, [], hW', trodAll_mk1 (shut_bool Try.underlying4 _), (trodAll_cons_mk (Below.trod laidOut (by kernel_rfl) (of_decide_eq_true (by kernel_rfl)) k0 bel lt0) (trodAll_cons_mk (Below.trod laidOut (by kernel_rfl) (of_decide_eq_true (by kernel_rfl)) k1 bel lt1) (trodAll_cons_mk (shut_bool Try.underlying4 _) (trodAll_cons_mk (shut_bool Try.underlying4 _) trodAll_mk0)))), rfl, bel.frame _, fun h => by cases h⟩
set_option maxRecDepth 100000 in
theorem lifted (os : Os) (started : os.Started) (H : Type) (enc : TypeId × Value → H) :
    ReturnsInHanded {} Try.checked os 4 .any (Rows.headerChoosesSpec.pre6 enc Try.prog Try.f4 Rows.headerChoosesRow.domain false) (Rows.headerChoosesSpec.post enc Try.prog Try.f4 false true false false) := by
  refine returnsInHanded_of_change (C := Try.checked) own started (by kernel_rfl) Try.func4
    (ChangeSpec.witness6 (enc := enc) (C := Try.checked) false ⟨#[], #[.agg #[.int .i64 0, .bool false, .int .i64 0, .int .u64 0, .string ByteArray.empty, .string ByteArray.empty, .string ByteArray.empty, .string ByteArray.empty, .string ByteArray.empty], .agg #[.int .i64 0, .bool false, .int .i64 0, .int .u64 0, .string ByteArray.empty, .string ByteArray.empty, .string ByteArray.empty, .string ByteArray.empty, .string ByteArray.empty], .bool false, .bool false], []⟩ 8 (by kernel_rfl) (by kernel_rfl) (by kernel_rfl) (by kernel_rfl)) ?_
  intro W base args ds gs before hval hW hcnd _
  exact contract H enc W base args ds gs before hval hW
theorem proved : Rows.HeaderChoosesSaid :=
  OpenClaim.holds_of_wide 4 Try.f4 rfl rfl rfl rfl rfl rfl rfl ⟨rfl, rfl, rfl, rfl, rfl⟩ rfl rfl rfl rfl rfl (by kernel_rfl) Try.func4 (by kernel_rfl)
    (of_decide_eq_true (by kernel_rfl)) (by unfold Func.isWrapper; first | (rw [if_pos (by decide +kernel)]; kernel_rfl) | (rw [if_neg (by decide +kernel)]; exact ⟨rfl, rfl⟩))
    (fun os started H enc _ => lifted os started H enc)
#print axioms proved
end Go.Proofs.Ytglcapkmeecknaa.headerChooses
