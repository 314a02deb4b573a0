/- The law ProbeCovers, for every metadata of bulk at most 1048576: the walk of the Go text returns true; here it becomes the row and its card. (Written by grow.py.) (Merged by merge.py.) -/
import Derived.Test.YtpmbfibjldnaiaaGreatDoorCards
import Derived.Test.YtpmbfibjldnaiaaGreatDoorTie
import Derived.Test.YtpmbfibjldnaiaaGreatDoorMM
import Derived.Test.YtpmbfibjldnaiaaGreatDoorOpens
import Derived.WalkKit
import Derived.ProofKit
import Derived.OpenShut
import Derived.ShutString
import Derived.ChangeOld
import Derived.Below
import Derived.SizedLaws
import Derived.JoinedCond
import Derived.Deep.DeepHandedRow
import Derived.Deep.DeepWitnessRowRef
import Derived.Lib.LaidTab
/-! ## RowZ -/
namespace Go.Proofs.YtpmbfibjldnaiaaGreatDoor.probeCoversUpto
open Go.ChangeShapes Go.WideShapes Go.ChangeAt Go.RowKit Go.Proofs.YtpmbfibjldnaiaaGreatDoor.PProbeSpots Go.Proofs.YtpmbfibjldnaiaaGreatDoorW.PrintWords Go.Proofs.YtpmbfibjldnaiaaGreatDoor.opens Go.Proofs.YtpmbfibjldnaiaaGreatDoor.rota Go.Proofs.YtpmbfibjldnaiaaGreatDoor.metab Go.Proofs.YtpmbfibjldnaiaaGreatDoor.tabz
set_option linter.unusedVariables false
theorem own : ownKnob Tryz.prog.godebug = none := by kernel_rfl
theorem laidOut : laidOutB Tryz.prog = true := by kernel_rfl
theorem weaken {P : Program} {α : Type} {t : TypeId} {d : Kd α} {ok ok' : α → Prop} {B B' : α → Nat} (h : Opens P t d ok B) (ho : ∀ y, ok y → ok' y) (hB : ∀ y, B' y ≤ B y) : Opens P t d ok' B' := by
  intro H enc w base sp held fuel cs x hx
  obtain ⟨y, h1, h2, h3⟩ := h H enc w base sp held fuel cs x hx
  exact ⟨y, h1, ho y h2, Nat.le_trans (hB y) h3⟩
theorem len_le_sum {α : Type} {B : α → Nat} (hB : ∀ y, 1 ≤ B y) : ∀ ys : List α, ys.length ≤ (ys.map B).sum
  | [] => by simp
  | y :: ys => by have := hB y; have := len_le_sum hB ys; simp only [List.length_cons, List.map_cons, List.sum_cons]; omega
theorem mem_le_sum {α : Type} {B : α → Nat} {x : α} : ∀ {ys : List α}, x ∈ ys → B x ≤ (ys.map B).sum
  | y :: ys, h => by
    rcases List.mem_cons.1 h with rfl | h
    · simp only [List.map_cons, List.sum_cons]; omega
    · have := mem_le_sum (B := B) h; simp only [List.map_cons, List.sum_cons]; omega
theorem slice_len {P : Program} {α : Type} {t e : TypeId} {d : Kd α} {ok : α → Prop} {B : α → Nat} (ht : P.underlying t = some (.slice e)) (hc : P.cellsOf e = d.sz) (h : Opens P e d ok B) (hB : ∀ y, 1 ≤ B y) :
    Opens P t (Kd.slice e d) (fun ys => ∀ y ∈ ys, ok y) (fun ys => ys.length) :=
  weaken (opens_slice ht hc h) (fun _ h => h) (fun ys => by have := len_le_sum hB ys; omega)
theorem wf_i64_of {n : Int} (h : (Lit.int .i64 n).wf = true) : -9223372036854775808 ≤ n ∧ n ≤ 9223372036854775807 := by
  simp [Lit.wf, IntKind.min, IntKind.max, IntKind.signed, IntKind.bits] at h; omega
theorem wf_u64_of {n : Int} (h : (Lit.int .u64 n).wf = true) : 0 ≤ n ∧ n < 18446744073709551616 := by
  simp [Lit.wf, IntKind.min, IntKind.max, IntKind.signed, IntKind.bits] at h; omega

theorem o31 : ∃ ok B, Opens Tryz.prog 31 k31 ok B := ⟨_, _, opens_iso (f := fun x : S31 => (x.f0, x.f1)) (g := fun y => ⟨y.1, y.2⟩) (fun _ => rfl) (opens_struct (P := Tryz.prog) Tryz.underlying31 (by kernel_rfl) (fields_cons rfl (by kernel_rfl) (opens_int Tryz.underlying2) (fields_one rfl (by kernel_rfl) (opens_int Tryz.underlying2))))⟩
theorem o53 : Opens Tryz.prog 53 k53 (fun x => -9223372036854775808 ≤ x.f0 ∧ x.f0 ≤ 9223372036854775807) (fun _ => 1) := by
  obtain ⟨_, _, h⟩ := o31
  exact weaken (opens_iso (f := fun x : S53 => (x.f0, x.f1, x.f2, x.f3, x.f4, x.f5, x.f6, x.f7)) (g := fun y => ⟨y.1, y.2.1, y.2.2.1, y.2.2.2.1, y.2.2.2.2.1, y.2.2.2.2.2.1, y.2.2.2.2.2.2.1, y.2.2.2.2.2.2.2⟩) (fun _ => rfl) (opens_struct (P := Tryz.prog) Tryz.underlying53 (by kernel_rfl) (fields_cons rfl (by kernel_rfl) (opens_int Tryz.underlying3) (fields_cons rfl (by kernel_rfl) (opens_int Tryz.underlying3) (fields_cons rfl (by kernel_rfl) (opens_int Tryz.underlying3) (fields_cons rfl (by kernel_rfl) (opens_int Tryz.underlying3) (fields_cons rfl (by kernel_rfl) (opens_string Tryz.underlying9) (fields_cons rfl (by kernel_rfl) (opens_string Tryz.underlying9) (fields_cons rfl (by kernel_rfl) (opens_int Tryz.underlying3) (fields_one rfl (by kernel_rfl) h))))))))))
    (fun y hy => wf_i64_of hy.1) (fun y => Nat.le_add_left 1 _)
theorem o91 : Opens Tryz.prog 91 k91 (fun x => 0 ≤ x.f0 ∧ x.f0 < 18446744073709551616) (fun _ => 1) :=
  weaken (opens_iso (f := fun x : S91 => (x.f0, x.f1, x.f2, x.f3, x.f4)) (g := fun y => ⟨y.1, y.2.1, y.2.2.1, y.2.2.2.1, y.2.2.2.2⟩) (fun _ => rfl) (opens_struct (P := Tryz.prog) Tryz.underlying91 (by kernel_rfl) (fields_cons rfl (by kernel_rfl) (opens_int Tryz.underlying22) (fields_cons rfl (by kernel_rfl) (opens_string Tryz.underlying9) (fields_cons rfl (by kernel_rfl) (opens_string Tryz.underlying9) (fields_cons rfl (by kernel_rfl) (opens_string Tryz.underlying9) (fields_one rfl (by kernel_rfl) (opens_string Tryz.underlying9))))))))
    (fun y hy => wf_u64_of hy.1) (fun y => Nat.le_add_left 1 _)
theorem o65 : Opens Tryz.prog 65 k65 (fun _ => True) (fun _ => 1) :=
  weaken (opens_iso (f := fun x : S65 => (x.f0, x.f1, x.f2)) (g := fun y => ⟨y.1, y.2.1, y.2.2⟩) (fun _ => rfl) (opens_struct (P := Tryz.prog) Tryz.underlying65 (by kernel_rfl) (fields_cons rfl (by kernel_rfl) (opens_int Tryz.underlying22) (fields_cons rfl (by kernel_rfl) (opens_int Tryz.underlying22) (fields_one rfl (by kernel_rfl) (opens_int Tryz.underlying22))))))
    (fun y hy => trivial) (fun y => Nat.le_add_left 1 _)
theorem o50 : Opens Tryz.prog 50 (Kd.slice 3 (Kd.int .i64)) (fun _ => True) (fun ys => ys.length) := weaken (slice_len Tryz.underlying50 (by kernel_rfl) (opens_int Tryz.underlying3) (fun _ => Nat.le_refl 1)) (fun _ _ => trivial) (fun _ => Nat.le_refl _)
theorem o98 : Opens Tryz.prog 98 k98 (fun x => -9223372036854775808 ≤ x.f0 ∧ x.f0 ≤ 9223372036854775807) (fun x => x.f2.length + 1) :=
  weaken (opens_iso (f := fun x : S98 => (x.f0, x.f1, x.f2, x.f3)) (g := fun y => ⟨y.1, y.2.1, y.2.2.1, y.2.2.2⟩) (fun _ => rfl) (opens_struct (P := Tryz.prog) Tryz.underlying98 (by kernel_rfl) (fields_cons rfl (by kernel_rfl) (opens_int Tryz.underlying3) (fields_cons rfl (by kernel_rfl) (opens_string Tryz.underlying9) (fields_cons rfl (by kernel_rfl) o50 (fields_one rfl (by kernel_rfl) (opens_string Tryz.underlying9)))))))
    (fun y hy => wf_i64_of hy.1) (fun y => by show y.f2.length + 1 ≤ 1 + (_ + (y.f2.length + _)) + 1; omega)
theorem o27 : Opens Tryz.prog 27 (Kd.slice 53 k53) (fun ys => ∀ x ∈ ys, -9223372036854775808 ≤ x.f0 ∧ x.f0 ≤ 9223372036854775807) (fun ys => ys.length) := slice_len Tryz.underlying27 (by kernel_rfl) o53 (fun _ => Nat.le_refl 1)
theorem o28 : Opens Tryz.prog 28 (Kd.slice 91 k91) (fun ys => ∀ x ∈ ys, 0 ≤ x.f0 ∧ x.f0 < 18446744073709551616) (fun ys => ys.length) := slice_len Tryz.underlying28 (by kernel_rfl) o91 (fun _ => Nat.le_refl 1)
theorem o29 : Opens Tryz.prog 29 (Kd.slice 65 k65) (fun _ => True) (fun ys => ys.length) := weaken (slice_len Tryz.underlying29 (by kernel_rfl) o65 (fun _ => Nat.le_refl 1)) (fun _ _ => trivial) (fun _ => Nat.le_refl _)
theorem o34 : Opens Tryz.prog 34 (Kd.slice 98 k98) (fun ys => ∀ x ∈ ys, -9223372036854775808 ≤ x.f0 ∧ x.f0 ≤ 9223372036854775807) (fun ys => (ys.map fun x => x.f2.length + 1).sum) := weaken (opens_slice Tryz.underlying34 (by kernel_rfl) o98) (fun _ h => h) (fun ys => by show _ ≤ (ys.map fun x => x.f2.length + 1).sum + 1; omega)
abbrev shapeKd := (Kd.pair (Kd.int .i64) (Kd.pair (Kd.int .u64) (Kd.pair (Kd.int .i64) (Kd.int .i64))))
abbrev digestKd := (Kd.pair (Kd.int .i64) (Kd.pair Kd.string Kd.string))
abbrev rotKd := (Kd.pair Kd.bool (Kd.pair (Kd.int .u64) (Kd.pair (Kd.int .u64) (Kd.pair Kd.bool (Kd.pair (Kd.int .i64) (Kd.pair (Kd.int .u64) (Kd.pair (Kd.int .u64) (Kd.pair k31 (Kd.pair Kd.bool (Kd.pair (Kd.int .u64) Kd.string))))))))))
abbrev metaKd := (Kd.pair Kd.string (Kd.pair Kd.string (Kd.pair Kd.string (Kd.pair Kd.string (Kd.pair shapeKd (Kd.pair digestKd (Kd.pair (Kd.slice 53 k53) (Kd.pair (Kd.slice 91 k91) (Kd.pair (Kd.slice 65 k65) (Kd.pair rotKd (Kd.slice 98 k98)))))))))))
theorem o36 : ∃ ok B, Opens Tryz.prog 36 metaKd ok B ∧ ∀ y, ok y → B y ≤ 1048576 → (y.2.2.2.2.1.2.1 ≥ 0 ∧ 0 ≤ y.2.2.2.2.2.2.2.2.2.1.2.1 ∧ 0 ≤ y.2.2.2.2.2.2.2.2.2.1.2.2.1 ∧ 0 ≤ y.2.2.2.2.2.2.2.2.2.1.2.2.2.2.2.1 ∧ 0 ≤ y.2.2.2.2.2.2.2.2.2.1.2.2.2.2.2.2.1 ∧ 0 ≤ y.2.2.2.2.2.2.2.2.2.1.2.2.2.2.2.2.2.2.2.1) ∧ (y.2.2.2.2.2.2.1.length ≤ 1048576 ∧ y.2.2.2.2.2.2.2.1.length ≤ 1048576 ∧ y.2.2.2.2.2.2.2.2.1.length ≤ 1048576 ∧ y.2.2.2.2.2.2.2.2.2.2.length ≤ 1048576) ∧ ∀ t ∈ y.2.2.2.2.2.2.2.2.2.2, t.f2.length ≤ 1048576 := by
  obtain ⟨_, _, h31⟩ := o31
  have h24 := (opens_struct (P := Tryz.prog) Tryz.underlying24 (by kernel_rfl) (fields_cons rfl (by kernel_rfl) (opens_int Tryz.underlying3) (fields_cons rfl (by kernel_rfl) (opens_int Tryz.underlying22) (fields_cons rfl (by kernel_rfl) (opens_int Tryz.underlying3) (fields_one rfl (by kernel_rfl) (opens_int Tryz.underlying3))))))
  have h26 := (opens_struct (P := Tryz.prog) Tryz.underlying26 (by kernel_rfl) (fields_cons rfl (by kernel_rfl) (opens_int Tryz.underlying3) (fields_cons rfl (by kernel_rfl) (opens_string Tryz.underlying9) (fields_one rfl (by kernel_rfl) (opens_string Tryz.underlying9)))))
  have h33 := (opens_struct (P := Tryz.prog) Tryz.underlying33 (by kernel_rfl) (fields_cons rfl (by kernel_rfl) (opens_bool Tryz.underlying4) (fields_cons rfl (by kernel_rfl) (opens_int Tryz.underlying22) (fields_cons rfl (by kernel_rfl) (opens_int Tryz.underlying22) (fields_cons rfl (by kernel_rfl) (opens_bool Tryz.underlying4) (fields_cons rfl (by kernel_rfl) (opens_int Tryz.underlying3) (fields_cons rfl (by kernel_rfl) (opens_int Tryz.underlying22) (fields_cons rfl (by kernel_rfl) (opens_int Tryz.underlying22) (fields_cons rfl (by kernel_rfl) h31 (fields_cons rfl (by kernel_rfl) (opens_bool Tryz.underlying4) (fields_cons rfl (by kernel_rfl) (opens_int Tryz.underlying22) (fields_one rfl (by kernel_rfl) (opens_string Tryz.underlying9)))))))))))))
  refine ⟨_, _, (opens_struct (P := Tryz.prog) Tryz.underlying36 (by kernel_rfl) (fields_cons rfl (by kernel_rfl) (opens_string Tryz.underlying9) (fields_cons rfl (by kernel_rfl) (opens_string Tryz.underlying9) (fields_cons rfl (by kernel_rfl) (opens_string Tryz.underlying9) (fields_cons rfl (by kernel_rfl) (opens_string Tryz.underlying9) (fields_cons rfl (by kernel_rfl) h24 (fields_cons rfl (by kernel_rfl) h26 (fields_cons rfl (by kernel_rfl) o27 (fields_cons rfl (by kernel_rfl) o28 (fields_cons rfl (by kernel_rfl) o29 (fields_cons rfl (by kernel_rfl) h33 (fields_one rfl (by kernel_rfl) o34)))))))))))), fun y hy hb => ?_⟩
  obtain ⟨_, _, _, _, kS, _, _, _, _, kR, _⟩ := hy
  obtain ⟨_, k5, _, _⟩ := kS
  obtain ⟨_, k15, k16, _, _, k19, k20, _, _, k24, _⟩ := kR
  have hs : (y.2.2.2.2.2.2.2.2.2.2.map fun x => x.f2.length + 1).sum ≤ 1048576 := by omega
  have hl := len_le_sum (B := fun x : S98 => x.f2.length + 1) (fun _ => Nat.le_add_left 1 _) y.2.2.2.2.2.2.2.2.2.2
  exact ⟨⟨(wf_u64_of k5).1, (wf_u64_of k15).1, (wf_u64_of k16).1, (wf_u64_of k19).1, (wf_u64_of k20).1, (wf_u64_of k24).1⟩, ⟨by omega, by omega, by omega, by omega⟩, fun x hx => by have := mem_le_sum (B := fun x : S98 => x.f2.length + 1) hx; omega⟩
theorem walk {w : World} {ca : Array Value} {y} {gs o : Nat} (ht : TabsAt w gs o) (h : metaKd.K w y ca.toList) (oy : (y.2.2.2.2.1.2.1 ≥ 0 ∧ 0 ≤ y.2.2.2.2.2.2.2.2.2.1.2.1 ∧ 0 ≤ y.2.2.2.2.2.2.2.2.2.1.2.2.1 ∧ 0 ≤ y.2.2.2.2.2.2.2.2.2.1.2.2.2.2.2.1 ∧ 0 ≤ y.2.2.2.2.2.2.2.2.2.1.2.2.2.2.2.2.1 ∧ 0 ≤ y.2.2.2.2.2.2.2.2.2.1.2.2.2.2.2.2.2.2.2.1) ∧ (y.2.2.2.2.2.2.1.length ≤ 1048576 ∧ y.2.2.2.2.2.2.2.1.length ≤ 1048576 ∧ y.2.2.2.2.2.2.2.2.1.length ≤ 1048576 ∧ y.2.2.2.2.2.2.2.2.2.2.length ≤ 1048576) ∧ ∀ t ∈ y.2.2.2.2.2.2.2.2.2.2, t.f2.length ≤ 1048576) :
    Calls Tryz.prog 3 #[.agg ca] w fun e w' => e = .returned (.bool true) ∧ Below w.heap.size w w' := by
  generalize hca : ca.toList = cs at h
  obtain ⟨y0, y1, y2, y3, ⟨y4, y5, y6, y7⟩, ⟨y8, y9, y10⟩, y11, y12, y13, ⟨y14, y15, y16, y17, y18, y19, y20, y21, y23, y24, y25⟩, y26⟩ := y
  obtain ⟨_, _, rfl, h0, _, _, rfl, h1, _, _, rfl, h2, _, _, rfl, h3, _, _, rfl, ⟨_, _, rfl, h4, _, _, rfl, h5, _, _, rfl, h6, h7⟩, _, _, rfl, ⟨_, _, rfl, h8, _, _, rfl, h9, h10⟩, _, _, rfl, ⟨A11, c11, rfl, s11, r11⟩, _, _, rfl, ⟨A12, c12, rfl, s12, r12⟩, _, _, rfl, ⟨A13, c13, rfl, s13, r13⟩, _, _, rfl, ⟨_, _, rfl, h14, _, _, rfl, h15, _, _, rfl, h16, _, _, rfl, h17, _, _, rfl, h18, _, _, rfl, h19, _, _, rfl, h20, _, _, rfl, h21, _, _, rfl, h23, _, _, rfl, h24, h25⟩, ⟨A26, c26, rfl, s26, r26⟩⟩ := h
  cases h0; cases h1; cases h2; cases h3; cases h4; cases h5; cases h6; cases h7; cases h8; cases h9; cases h10; cases h14; cases h15; cases h16; cases h17; cases h18; cases h19; cases h20; cases h23; cases h24; cases h25
  obtain rfl := k31_open h21
  obtain ⟨⟨q5, q15, q16, q19, q20, q24⟩, ⟨n11, n12, n13, n26⟩, nt⟩ := oy
  simp only at q5 q15 q16 q19 q20 q24 n11 n12 n13 n26 nt
  have hc := lawc.law_call A11 A12 A13 A26 c11 c12 c13 c26 ⟨y0, y1, y2, y3, y4, y5, y6, y7, y8, y9, y10, y11, y12, y13, y14, ⟨y15, y16, y17, y18, y19, y20, y21.f0, y21.f1, y23, y24, y25⟩, y26⟩ w gs o ⟨r11, r12, r13, r26⟩ ⟨q5, q15, q16, q19, q20, q24, Nat.le_trans n11 (by omega), Nat.le_trans n12 (by omega), Nat.le_trans n13 (by omega), Nat.le_trans n26 (by omega), fun t ht' => Nat.le_trans (nt t ht') (by omega)⟩ ht
  have e : ca = mrow ⟨y0, y1, y2, y3, y4, y5, y6, y7, y8, y9, y10, y11, y12, y13, y14, ⟨y15, y16, y17, y18, y19, y20, y21.f0, y21.f1, y23, y24, y25⟩, y26⟩ A11 A12 A13 A26 c11 c12 c13 c26 := by
    cases ca
    exact congrArg _ hca
  rw [e]
  exact hc
set_option maxRecDepth 100000 in
theorem contract (H : Type) (enc : TypeId × Value → H) (W : World) (base : Nat) (args : Array Value) (ds gs : List (DataW H)) (before : List MemPlace)
    (hval : ∀ (j : Nat) t v, Tryz.f3.params[j]? = some t → args[j]? = some v → Value.okWide Tryz.prog W .any base t v)
    (hW : DataW.Whole enc Tryz.prog Tryz.f3.params.toList Rows.probeCoversSpec.vars false W args.toList ds gs before) (hk : Rows.uptoSmall H (ds ++ gs) = true) (hL : laidMetH Tryz.prog Rows.probeCoversUptoRow.laid W) :
    Calls Tryz.prog 3 args W fun e W' => ∃ v, e = .returned v ∧ Rows.probeCoversSpec.post enc Tryz.prog Tryz.f3 false true false false W args v W' := by
  have hW' := hW
  obtain ⟨p, q, hA0, hV, rfl, hfz, hnd⟩ := hW
  have hA : DataW.TrodAll enc Tryz.prog W 0 (fun _ => true) true Tryz.f3.params.toList args.toList ds p := hA0
  rw [Tryz.params3] at hA hval
  obtain ⟨v0, vs0, d0, ds0, p0, q0, hargs, rfl, rfl, h0, r0⟩ := trodAll_cons hA
  obtain ⟨rfl, rfl, rfl⟩ := trodAll_nil r0
  obtain rfl : args = #[v0] := by cases args; simp_all
  obtain ⟨rfl, rfl⟩ := trodVars_none hV
  have k0 := h0
  have lt0 : ∀ x ∈ p0, x.block < W.heap.size := by obtain ⟨m, hm⟩ := k0; exact DataW.trod_lt m _ _ _ hm
  obtain ⟨c0, rfl⟩ : ∃ c, v0 = .agg c := by
    have := hval 0 36 v0 rfl rfl
    unfold Value.okWide at this; rw [Tryz.underlying36] at this
    exact ⟨_, this.choose_spec.1⟩
  obtain ⟨_, _, o, hO⟩ := o36
  obtain ⟨y0, z0, ok0, hb0⟩ := opened o h0
  have bulk : Rows.uptoBulkAll ([d0] ++ ([] : List (DataW H))) ≤ 1048576 := of_decide_eq_true hk
  simp only [List.cons_append, List.nil_append, Rows.uptoBulkAll] at bulk
  clear hA0
  obtain ⟨gs', o', ht⟩ := tabs_of (l := Rows.probeCoversUptoRow.laid) hL (List.mem_cons_of_mem _ (List.mem_cons_of_mem _ (List.mem_cons_of_mem _ (List.mem_cons_of_mem _ (List.mem_cons_of_mem _ (List.mem_cons_self ..)))))) (List.mem_cons_of_mem _ (List.mem_cons_of_mem _ (List.mem_cons_of_mem _ (List.mem_cons_of_mem _ (List.mem_cons_self ..))))) (List.mem_cons_of_mem _ (List.mem_cons_of_mem _ (List.mem_cons_of_mem _ (List.mem_cons_of_mem _ (List.mem_cons_of_mem _ (List.mem_cons_of_mem _ (List.mem_cons_self ..))))))) (List.mem_cons_self ..)
  refine (walk (y := y0) ht z0 (hO y0 ok0 (by omega))).mono fun e W' ⟨he, bel⟩ => ?_
  subst he
  exact ⟨_, rfl, _, _, _, [], _, [], hW', trodAll_mk1 (shut_bool Tryz.underlying4 _), (trodAll_cons_mk (Below.trod laidOut (by kernel_rfl) (of_decide_eq_true (by kernel_rfl)) k0 bel lt0) trodAll_mk0), rfl, bel.frame _, fun h => by cases h⟩


def nums_ : DataW Unit → List Int
  | .agg l => l.map fun
    | .lit (.int _ z) => z
    | _ => 0
  | _ => []
def accs : List Int := (List.range 16).flatMap fun i => [(Lib.accLo i : Int), (Lib.accHi i : Int)]
/-- A world for the witness: the settled one, the tables holding what their initialisers lay. -/
noncomputable def laidWorld (os : Os) : World :=
  let w := World.holding Tryz.prog os ⟨#[], #[], []⟩
  { w with heap := (((((((w.heap.push (.cells #[.string ⟨#[97, 101, 115, 49, 50, 56, 45]⟩, .int .i64 16, .string ⟨#[97, 101, 115, 49, 57, 50, 45]⟩, .int .i64 24, .string ⟨#[97, 101, 115, 50, 53, 54, 45]⟩, .int .i64 32] 156 (0, 0))).modify 0 fun
      | .cells _ t frozen => .cells #[.int .i64 512, .int .i64 1024, .int .i64 2048, .int .i64 4096] t frozen
      | o => o).modify 1 fun
      | .cells _ t frozen => .cells #[.slice (some ⟨w.heap.size, 0, none⟩) 3 3] t frozen
      | o => o).modify 2 fun
      | .cells _ t frozen => .cells (Lib.firstTab.map (Value.int .u8)).toArray t frozen
      | o => o).modify 3 fun
      | .cells _ t frozen => .cells (accs.map (Value.int .u8)).toArray t frozen
      | o => o).modify 5 fun
      | .cells _ t frozen => .cells ((nums_ Rows.laid_coffer_rijndael_rcon).map (Value.int .u8)).toArray t frozen
      | o => o).modify 6 fun
      | .cells _ t frozen => .cells ((nums_ Rows.laid_coffer_digest_squares).map (Value.int .u64)).toArray t frozen
      | o => o).modify 7 fun
      | .cells _ t frozen => .cells ((nums_ Rows.laid_coffer_digest_cubes).map (Value.int .u64)).toArray t frozen
      | o => o }
abbrev wit : Array Value := #[.agg #[.string ByteArray.empty, .string ByteArray.empty, .string ByteArray.empty, .string ByteArray.empty, .int .i64 0, .int .u64 0, .int .i64 0, .int .i64 0, .int .i64 0, .string ByteArray.empty, .string ByteArray.empty, .slice none 0 0, .slice none 0 0, .slice none 0 0, .bool false, .int .u64 0, .int .u64 0, .bool false, .int .i64 0, .int .u64 0, .int .u64 0, .int .i64 0, .int .i64 0, .bool false, .int .u64 0, .string ByteArray.empty, .slice none 0 0]]
theorem laid_met (os : Os) : laidMet Tryz.prog Rows.probeCoversUptoRow.laid ((laidWorld os).forCall (fun _ _ => 0) ⟨#[], wit, []⟩).memory :=
  laidMet_of_run' 8 (by kernel_rfl) (by kernel_rfl)
theorem reads (os : Os) {H : Type} (enc : TypeId × Value → H) : ∃ places, DataW.whole enc Tryz.prog ((laidWorld os).forCall (fun _ _ => 0) ⟨#[], wit, []⟩).memory Tryz.f3.params.toList Rows.probeCoversSpec.vars false wit.toList 8 = some ([(.agg [(.lit (.string [])), (.lit (.string [])), (.lit (.string [])), (.lit (.string [])), (.agg [(.lit (.int .i64 0)), (.lit (.int .u64 0)), (.lit (.int .i64 0)), (.lit (.int .i64 0))]), (.agg [(.lit (.int .i64 0)), (.lit (.string [])), (.lit (.string []))]), .nil, .nil, .nil, (.agg [(.lit (.bool false)), (.lit (.int .u64 0)), (.lit (.int .u64 0)), (.lit (.bool false)), (.lit (.int .i64 0)), (.lit (.int .u64 0)), (.lit (.int .u64 0)), (.agg [(.lit (.int .i64 0)), (.lit (.int .i64 0))]), (.lit (.bool false)), (.lit (.int .u64 0)), (.lit (.string []))]), .nil])], [], places) :=
  ⟨[], by kernel_rfl⟩
set_option maxRecDepth 100000 in
theorem lifted (os : Os) (started : os.Started) (H : Type) (enc : TypeId × Value → H) (F : Stop.Interp) :
    ReturnsInHanded {} Tryz.checked os 3 .any ((Rows.OpenSpec.upto Rows.probeCoversSpec).preRow enc Tryz.prog Tryz.f3 Rows.probeCoversUptoRow.domain false Rows.probeCoversUptoRow.laid) (((Rows.OpenSpec.upto Rows.probeCoversSpec).at F).post enc Tryz.prog Tryz.f3 false true false false) := by
  obtain ⟨places, hx⟩ := reads os enc
  refine returnsInHanded_of_row (C := Tryz.checked) (s := Rows.OpenSpec.upto Rows.probeCoversSpec) own started (by kernel_rfl) Tryz.func3
    (witness_row_atRef (enc := enc) (C := Tryz.checked) false (laidWorld os) wit rfl (by kernel_rfl) (by kernel_rfl) (by kernel_rfl)
      (OpenSpec.preRow_of_cond 8 hx (by kernel_rfl) (fun k hk => by cases hk; kernel_rfl) (by kernel_rfl) (laid_met os))) ?_
  intro W base args ds gs before hval hW _ hcond _ hL _ _
  exact contract H enc W base args ds gs before hval hW (hcond _ rfl) hL
theorem said : Rows.ProbeCoversUptoSaid :=
  OpenClaim.holds_of_cond 3 Tryz.f3 rfl rfl rfl rfl rfl rfl rfl ⟨rfl, rfl, rfl, rfl, rfl⟩ rfl rfl rfl rfl rfl (by kernel_rfl) Tryz.func3 (by kernel_rfl)
    (of_decide_eq_true (by kernel_rfl)) (by unfold Func.isWrapper; first | (rw [if_pos (by decide +kernel)]; kernel_rfl) | (rw [if_neg (by decide +kernel)]; exact ⟨rfl, rfl⟩))
    (fun os started H enc _ F => by rw [OpenClaim.pre_eq_preRow]; exact lifted os started H enc F)
/-- No parameter wants a stand-in; the program's own looks are off: what the card asks. -/
theorem plain (f : FuncId) (fn : Func) (hf : Tryz.pinned.checked.prog.funcNamed "coffer/cofferlaw15.ProbeCovers" = some f) (hfn : Tryz.pinned.checked.prog.funcs[f]? = some fn) :
    false = Tryz.pinned.checked.prog.looks [] ∧ ∀ (j : Nat) t, fn.params[j]? = some t → Tryz.pinned.checked.prog.wantsStandIn t = false := by
  obtain rfl : f = 3 := Option.some.inj ((show Tryz.prog.funcNamed "coffer/cofferlaw15.ProbeCovers" = some 3 by kernel_rfl).symm.trans hf) |>.symm
  obtain rfl : fn = Tryz.f3 := (Option.some.inj (Tryz.func3.symm.trans hfn)).symm
  refine ⟨by kernel_rfl, fun j t ht => ?_⟩
  rw [Tryz.params3] at ht
  obtain rfl : t = 36 := by simpa using Array.mem_of_getElem? ht
  exact (show Tryz.prog.wantsStandIn 36 = false by kernel_rfl)
theorem proved : Rows.ProbeCoversUptoCardSaid :=
  Claim7.holds_tied_plain_at .later [] _ _ _ _ said (fun _ h => by cases h) (by kernel_rfl) (fun _ h => by cases h) probeCoversUpto_row_tie rfl ⟨rfl, rfl⟩ (by kernel_rfl) rfl plain (by kernel_rfl)
#print axioms proved
end Go.Proofs.YtpmbfibjldnaiaaGreatDoor.probeCoversUpto
