/- The law ProbeTurned, for every two metadata of bulk at most 1048576: the walk of the Go text returns true; here it becomes the row and its card. (Written by gen7.py.) -/
import Derived.Test.YtkpgklkplmljdaaDoorCards
import Derived.Test.YtkpgklkplmljdaaDoorTie
import Derived.Test.YtkpgklkplmljdaaDoorTurnedWalk
import Derived.Test.YtkpgklkplmljdaaDoorOpens
import Derived.WalkKit
import Derived.ProofKit
import Derived.OpenShut
import Derived.ShutString
import Derived.ChangeOld
import Derived.Below
import Derived.SizedLaws
import Derived.JoinedCond
import Derived.Deep.DeepHandedRow
import Derived.Lib.LaidTab
namespace Go.Proofs.YtkpgklkplmljdaaDoor.probeTurnedUpto
open Go.ChangeShapes Go.WideShapes Go.ChangeAt Go.RowKit Go.Proofs.YtkpgklkplmljdaaDoor.PProbeCompares Go.Proofs.YtkpgklkplmljdaaDoorW.PrintWords Go.Proofs.YtkpgklkplmljdaaDoor.opens Go.Proofs.YtkpgklkplmljdaaDoor.num Go.Proofs.YtkpgklkplmljdaaDoor.comparePlain
set_option linter.unusedVariables false
theorem own : ownKnob Tryd.prog.godebug = none := by kernel_rfl
theorem laidOut : laidOutB Tryd.prog = true := by kernel_rfl

/-! What the row's list gives: the table of the powers of ten. -/
theorem laidMet_tail {P : Program} {W : World} {x : String × DataW Unit} {rest : List (String × DataW Unit)} (h : laidMet P (x :: rest) W) : laidMet P rest W := by
  obtain ⟨ps, hv, hn, ha⟩ := h
  obtain ⟨n, d⟩ := x
  obtain ⟨g, t, cs, fuel, p, q, _, _, _, _, hq, rfl⟩ := hv
  refine ⟨q, hq, (List.nodup_append.1 hn).2.1, fun b off hb => ha b off (List.mem_append_right _ hb)⟩
theorem gTab : Tryd.prog.globalNamed "internal/strconv.uint64pow10" = some 0 := by kernel_rfl
theorem gTabType : (Tryd.prog.globals[0]?).map (·.type) = some 91 := by kernel_rfl
theorem cells91 : Tryd.prog.cellsOf 91 = 20 := by kernel_rfl
theorem cells22 : Tryd.prog.cellsOf 22 = 1 := by kernel_rfl
theorem laid_eq : (Rows.probeTurnedUptoRow.laid : List (String × DataW Unit)) = [("math/bits.deBruijn32tab", Rows.laid_math_bits_deBruijn32tab), ("math/bits.deBruijn64tab", Rows.laid_math_bits_deBruijn64tab), ("internal/strconv.uint64pow10", Lib.tabData .u64 Lib.pow10Tab)] := by kernel_rfl
theorem table {W : World} (h : laidMetH Tryd.prog Rows.probeTurnedUptoRow.laid W) : Tab W := by
  have h' : laidMet Tryd.prog Rows.probeTurnedUptoRow.laid W := h
  rw [laid_eq] at h'
  exact Lib.tabIs_of_head (rest := []) gTab gTabType Tryd.underlying91 Tryd.underlying22 cells22 cells91 (laidMet_tail (laidMet_tail h'))

theorem weaken {P : Program} {α : Type} {t : TypeId} {d : Kd α} {ok ok' : α → Prop} {B B' : α → Nat} (h : Opens P t d ok B) (ho : ∀ y, ok y → ok' y) (hB : ∀ y, B' y ≤ B y) : Opens P t d ok' B' := by
  intro H enc w base sp held fuel cs x hx
  obtain ⟨y, h1, h2, h3⟩ := h H enc w base sp held fuel cs x hx
  exact ⟨y, h1, ho y h2, Nat.le_trans (hB y) h3⟩
theorem len_le_sum {α : Type} {B : α → Nat} (hB : ∀ y, 1 ≤ B y) : ∀ ys : List α, ys.length ≤ (ys.map B).sum
  | [] => by simp
  | y :: ys => by have := hB y; have := len_le_sum hB ys; simp only [List.length_cons, List.map_cons, List.sum_cons]; omega
theorem mem_le_sum {α : Type} {B : α → Nat} {x : α} : ∀ {ys : List α}, x ∈ ys → B x ≤ (ys.map B).sum
  | y :: ys, h => by
    rcases List.mem_cons.1 h with rfl | h
    · simp only [List.map_cons, List.sum_cons]; omega
    · have := mem_le_sum (B := B) h; simp only [List.map_cons, List.sum_cons]; omega
theorem slice_len {P : Program} {α : Type} {t e : TypeId} {d : Kd α} {ok : α → Prop} {B : α → Nat} (ht : P.underlying t = some (.slice e)) (hc : P.cellsOf e = d.sz) (h : Opens P e d ok B) (hB : ∀ y, 1 ≤ B y) :
    Opens P t (Kd.slice e d) (fun ys => ∀ y ∈ ys, ok y) (fun ys => ys.length) :=
  weaken (opens_slice ht hc h) (fun _ h => h) (fun ys => by have := len_le_sum hB ys; omega)
theorem wf_i64_of {n : Int} (h : (Lit.int .i64 n).wf = true) : -9223372036854775808 ≤ n ∧ n ≤ 9223372036854775807 := by
  simp [Lit.wf, IntKind.min, IntKind.max, IntKind.signed, IntKind.bits] at h; omega
theorem wf_u64_of {n : Int} (h : (Lit.int .u64 n).wf = true) : 0 ≤ n ∧ n < 18446744073709551616 := by
  simp [Lit.wf, IntKind.min, IntKind.max, IntKind.signed, IntKind.bits] at h; omega

theorem o31 : ∃ ok B, Opens Tryd.prog 31 k31 ok B := ⟨_, _, opens_iso (f := fun x : S31 => (x.f0, x.f1)) (g := fun y => ⟨y.1, y.2⟩) (fun _ => rfl) (opens_struct (P := Tryd.prog) Tryd.underlying31 (by kernel_rfl) (fields_cons rfl (by kernel_rfl) (opens_int Tryd.underlying2) (fields_one rfl (by kernel_rfl) (opens_int Tryd.underlying2))))⟩
theorem o50 : Opens Tryd.prog 50 k50 (fun x => -9223372036854775808 ≤ x.f0 ∧ x.f0 ≤ 9223372036854775807) (fun _ => 1) := by
  obtain ⟨_, _, h⟩ := o31
  exact weaken (opens_iso (f := fun x : S50 => (x.f0, x.f1, x.f2, x.f3, x.f4, x.f5, x.f6, x.f7)) (g := fun y => ⟨y.1, y.2.1, y.2.2.1, y.2.2.2.1, y.2.2.2.2.1, y.2.2.2.2.2.1, y.2.2.2.2.2.2.1, y.2.2.2.2.2.2.2⟩) (fun _ => rfl) (opens_struct (P := Tryd.prog) Tryd.underlying50 (by kernel_rfl) (fields_cons rfl (by kernel_rfl) (opens_int Tryd.underlying3) (fields_cons rfl (by kernel_rfl) (opens_int Tryd.underlying3) (fields_cons rfl (by kernel_rfl) (opens_int Tryd.underlying3) (fields_cons rfl (by kernel_rfl) (opens_int Tryd.underlying3) (fields_cons rfl (by kernel_rfl) (opens_string Tryd.underlying9) (fields_cons rfl (by kernel_rfl) (opens_string Tryd.underlying9) (fields_cons rfl (by kernel_rfl) (opens_int Tryd.underlying3) (fields_one rfl (by kernel_rfl) h))))))))))
    (fun y hy => wf_i64_of hy.1) (fun y => Nat.le_add_left 1 _)
theorem o56 : Opens Tryd.prog 56 k56 (fun x => 0 ≤ x.f0 ∧ x.f0 < 18446744073709551616) (fun _ => 1) :=
  weaken (opens_iso (f := fun x : S56 => (x.f0, x.f1, x.f2, x.f3, x.f4)) (g := fun y => ⟨y.1, y.2.1, y.2.2.1, y.2.2.2.1, y.2.2.2.2⟩) (fun _ => rfl) (opens_struct (P := Tryd.prog) Tryd.underlying56 (by kernel_rfl) (fields_cons rfl (by kernel_rfl) (opens_int Tryd.underlying22) (fields_cons rfl (by kernel_rfl) (opens_string Tryd.underlying9) (fields_cons rfl (by kernel_rfl) (opens_string Tryd.underlying9) (fields_cons rfl (by kernel_rfl) (opens_string Tryd.underlying9) (fields_one rfl (by kernel_rfl) (opens_string Tryd.underlying9))))))))
    (fun y hy => wf_u64_of hy.1) (fun y => Nat.le_add_left 1 _)
theorem o46 : Opens Tryd.prog 46 k46 (fun _ => True) (fun _ => 1) :=
  weaken (opens_iso (f := fun x : S46 => (x.f0, x.f1, x.f2)) (g := fun y => ⟨y.1, y.2.1, y.2.2⟩) (fun _ => rfl) (opens_struct (P := Tryd.prog) Tryd.underlying46 (by kernel_rfl) (fields_cons rfl (by kernel_rfl) (opens_int Tryd.underlying22) (fields_cons rfl (by kernel_rfl) (opens_int Tryd.underlying22) (fields_one rfl (by kernel_rfl) (opens_int Tryd.underlying22))))))
    (fun y hy => trivial) (fun y => Nat.le_add_left 1 _)
theorem o61 : Opens Tryd.prog 61 (Kd.slice 3 (Kd.int .i64)) (fun _ => True) (fun ys => ys.length) := weaken (slice_len Tryd.underlying61 (by kernel_rfl) (opens_int Tryd.underlying3) (fun _ => Nat.le_refl 1)) (fun _ _ => trivial) (fun _ => Nat.le_refl _)
theorem o63 : Opens Tryd.prog 63 k63 (fun x => -9223372036854775808 ≤ x.f0 ∧ x.f0 ≤ 9223372036854775807) (fun x => x.f2.length + 1) :=
  weaken (opens_iso (f := fun x : S63 => (x.f0, x.f1, x.f2, x.f3)) (g := fun y => ⟨y.1, y.2.1, y.2.2.1, y.2.2.2⟩) (fun _ => rfl) (opens_struct (P := Tryd.prog) Tryd.underlying63 (by kernel_rfl) (fields_cons rfl (by kernel_rfl) (opens_int Tryd.underlying3) (fields_cons rfl (by kernel_rfl) (opens_string Tryd.underlying9) (fields_cons rfl (by kernel_rfl) o61 (fields_one rfl (by kernel_rfl) (opens_string Tryd.underlying9)))))))
    (fun y hy => wf_i64_of hy.1) (fun y => by show y.f2.length + 1 ≤ 1 + (_ + (y.f2.length + _)) + 1; omega)
theorem o27 : Opens Tryd.prog 27 (Kd.slice 50 k50) (fun ys => ∀ x ∈ ys, -9223372036854775808 ≤ x.f0 ∧ x.f0 ≤ 9223372036854775807) (fun ys => ys.length) := slice_len Tryd.underlying27 (by kernel_rfl) o50 (fun _ => Nat.le_refl 1)
theorem o28 : Opens Tryd.prog 28 (Kd.slice 56 k56) (fun ys => ∀ x ∈ ys, 0 ≤ x.f0 ∧ x.f0 < 18446744073709551616) (fun ys => ys.length) := slice_len Tryd.underlying28 (by kernel_rfl) o56 (fun _ => Nat.le_refl 1)
theorem o29 : Opens Tryd.prog 29 (Kd.slice 46 k46) (fun _ => True) (fun ys => ys.length) := weaken (slice_len Tryd.underlying29 (by kernel_rfl) o46 (fun _ => Nat.le_refl 1)) (fun _ _ => trivial) (fun _ => Nat.le_refl _)
theorem o34 : Opens Tryd.prog 34 (Kd.slice 63 k63) (fun ys => ∀ x ∈ ys, -9223372036854775808 ≤ x.f0 ∧ x.f0 ≤ 9223372036854775807) (fun ys => (ys.map fun x => x.f2.length + 1).sum) := weaken (opens_slice Tryd.underlying34 (by kernel_rfl) o63) (fun _ h => h) (fun ys => by show _ ≤ (ys.map fun x => x.f2.length + 1).sum + 1; omega)
abbrev shapeKd := (Kd.pair (Kd.int .i64) (Kd.pair (Kd.int .u64) (Kd.pair (Kd.int .i64) (Kd.int .i64))))
abbrev digestKd := (Kd.pair (Kd.int .i64) (Kd.pair Kd.string Kd.string))
abbrev rotKd := (Kd.pair Kd.bool (Kd.pair (Kd.int .u64) (Kd.pair (Kd.int .u64) (Kd.pair Kd.bool (Kd.pair (Kd.int .i64) (Kd.pair (Kd.int .u64) (Kd.pair (Kd.int .u64) (Kd.pair k31 (Kd.pair Kd.bool (Kd.pair (Kd.int .u64) Kd.string))))))))))
abbrev metaKd := (Kd.pair Kd.string (Kd.pair Kd.string (Kd.pair Kd.string (Kd.pair Kd.string (Kd.pair shapeKd (Kd.pair digestKd (Kd.pair (Kd.slice 50 k50) (Kd.pair (Kd.slice 56 k56) (Kd.pair (Kd.slice 46 k46) (Kd.pair rotKd (Kd.slice 63 k63)))))))))))
theorem o36 : ∃ ok B, Opens Tryd.prog 36 metaKd ok B ∧ ∀ y, ok y → B y ≤ 1048576 → (slotsOk y.2.2.2.2.2.2.1 ∧ epochsOk y.2.2.2.2.2.2.2.1 ∧ y.2.2.2.2.2.2.2.2.1.length < 1099511627776 ∧ tokensOk y.2.2.2.2.2.2.2.2.2.2) ∧ (y.2.2.2.2.2.2.1.length ≤ 1048576 ∧ y.2.2.2.2.2.2.2.1.length ≤ 1048576 ∧ y.2.2.2.2.2.2.2.2.2.2.length ≤ 1048576) := by
  obtain ⟨_, _, h31⟩ := o31
  have h24 := (opens_struct (P := Tryd.prog) Tryd.underlying24 (by kernel_rfl) (fields_cons rfl (by kernel_rfl) (opens_int Tryd.underlying3) (fields_cons rfl (by kernel_rfl) (opens_int Tryd.underlying22) (fields_cons rfl (by kernel_rfl) (opens_int Tryd.underlying3) (fields_one rfl (by kernel_rfl) (opens_int Tryd.underlying3))))))
  have h26 := (opens_struct (P := Tryd.prog) Tryd.underlying26 (by kernel_rfl) (fields_cons rfl (by kernel_rfl) (opens_int Tryd.underlying3) (fields_cons rfl (by kernel_rfl) (opens_string Tryd.underlying9) (fields_one rfl (by kernel_rfl) (opens_string Tryd.underlying9)))))
  have h33 := (opens_struct (P := Tryd.prog) Tryd.underlying33 (by kernel_rfl) (fields_cons rfl (by kernel_rfl) (opens_bool Tryd.underlying4) (fields_cons rfl (by kernel_rfl) (opens_int Tryd.underlying22) (fields_cons rfl (by kernel_rfl) (opens_int Tryd.underlying22) (fields_cons rfl (by kernel_rfl) (opens_bool Tryd.underlying4) (fields_cons rfl (by kernel_rfl) (opens_int Tryd.underlying3) (fields_cons rfl (by kernel_rfl) (opens_int Tryd.underlying22) (fields_cons rfl (by kernel_rfl) (opens_int Tryd.underlying22) (fields_cons rfl (by kernel_rfl) h31 (fields_cons rfl (by kernel_rfl) (opens_bool Tryd.underlying4) (fields_cons rfl (by kernel_rfl) (opens_int Tryd.underlying22) (fields_one rfl (by kernel_rfl) (opens_string Tryd.underlying9)))))))))))))
  refine ⟨_, _, (opens_struct (P := Tryd.prog) Tryd.underlying36 (by kernel_rfl) (fields_cons rfl (by kernel_rfl) (opens_string Tryd.underlying9) (fields_cons rfl (by kernel_rfl) (opens_string Tryd.underlying9) (fields_cons rfl (by kernel_rfl) (opens_string Tryd.underlying9) (fields_cons rfl (by kernel_rfl) (opens_string Tryd.underlying9) (fields_cons rfl (by kernel_rfl) h24 (fields_cons rfl (by kernel_rfl) h26 (fields_cons rfl (by kernel_rfl) o27 (fields_cons rfl (by kernel_rfl) o28 (fields_cons rfl (by kernel_rfl) o29 (fields_cons rfl (by kernel_rfl) h33 (fields_one rfl (by kernel_rfl) o34)))))))))))), fun y hy hb => ?_⟩
  obtain ⟨_, _, _, _, _, _, k11, k12, _, _, k26⟩ := hy
  have hs : (y.2.2.2.2.2.2.2.2.2.2.map fun x => x.f2.length + 1).sum ≤ 1048576 := by omega
  have hl := len_le_sum (B := fun x : S63 => x.f2.length + 1) (fun _ => Nat.le_add_left 1 _) y.2.2.2.2.2.2.2.2.2.2
  exact ⟨⟨⟨by omega, k11⟩, ⟨by omega, k12⟩, by omega, ⟨by omega, fun x hx => by have := mem_le_sum (B := fun x : S63 => x.f2.length + 1) hx; omega, k26⟩⟩, by omega, by omega, by omega⟩
theorem meta_cells {w : World} {cs : List Value} {y} (h : metaKd.K w y cs) : ∃ a0_0 a0_1 a0_2 a0_3 a0_4 a0_5 a0_6 a0_7 a0_8 a0_9 a0_10 A0_11 c0_11 l0_11 A0_12 c0_12 l0_12 A0_13 c0_13 l0_13 a0_14 a0_15 a0_16 a0_17 a0_18 a0_19 a0_20 a0_21 a0_22 a0_23 a0_24 a0_25 A0_26 c0_26 l0_26, l0_11 = y.2.2.2.2.2.2.1 ∧ l0_12 = y.2.2.2.2.2.2.2.1 ∧ l0_13 = y.2.2.2.2.2.2.2.2.1 ∧ l0_26 = y.2.2.2.2.2.2.2.2.2.2 ∧ cs = [.string a0_0, .string a0_1, .string a0_2, .string a0_3, .int .i64 a0_4, .int .u64 a0_5, .int .i64 a0_6, .int .i64 a0_7, .int .i64 a0_8, .string a0_9, .string a0_10, .slice A0_11 l0_11.length c0_11, .slice A0_12 l0_12.length c0_12, .slice A0_13 l0_13.length c0_13, .bool a0_14, .int .u64 a0_15, .int .u64 a0_16, .bool a0_17, .int .i64 a0_18, .int .u64 a0_19, .int .u64 a0_20, .int .i64 a0_21, .int .i64 a0_22, .bool a0_23, .int .u64 a0_24, .string a0_25, .slice A0_26 l0_26.length c0_26] ∧ Kd.C k50 w A0_11 l0_11.length l0_11 ∧ l0_11.length ≤ c0_11 ∧ Kd.C k56 w A0_12 l0_12.length l0_12 ∧ l0_12.length ≤ c0_12 ∧ Kd.C k46 w A0_13 l0_13.length l0_13 ∧ l0_13.length ≤ c0_13 ∧ Kd.C k63 w A0_26 l0_26.length l0_26 ∧ l0_26.length ≤ c0_26 := by
  obtain ⟨y0, y1, y2, y3, ⟨y4, y5, y6, y7⟩, ⟨y8, y9, y10⟩, y11, y12, y13, ⟨y14, y15, y16, y17, y18, y19, y20, y21, y23, y24, y25⟩, y26⟩ := y
  obtain ⟨_, _, rfl, h0, _, _, rfl, h1, _, _, rfl, h2, _, _, rfl, h3, _, _, rfl, ⟨_, _, rfl, h4, _, _, rfl, h5, _, _, rfl, h6, h7⟩, _, _, rfl, ⟨_, _, rfl, h8, _, _, rfl, h9, h10⟩, _, _, rfl, ⟨A11, c11, rfl, s11, r11⟩, _, _, rfl, ⟨A12, c12, rfl, s12, r12⟩, _, _, rfl, ⟨A13, c13, rfl, s13, r13⟩, _, _, rfl, ⟨_, _, rfl, h14, _, _, rfl, h15, _, _, rfl, h16, _, _, rfl, h17, _, _, rfl, h18, _, _, rfl, h19, _, _, rfl, h20, _, _, rfl, h21, _, _, rfl, h23, _, _, rfl, h24, h25⟩, ⟨A26, c26, rfl, s26, r26⟩⟩ := h
  cases h0; cases h1; cases h2; cases h3; cases h4; cases h5; cases h6; cases h7; cases h8; cases h9; cases h10; cases h14; cases h15; cases h16; cases h17; cases h18; cases h19; cases h20; cases h23; cases h24; cases h25
  obtain rfl := k31_open h21
  exact ⟨_, _, _, _, _, _, _, _, _, _, _, A11, c11, y11, A12, c12, y12, A13, c13, y13, _, _, _, _, _, _, _, _, _, _, _, _, A26, c26, y26, rfl, rfl, rfl, rfl, rfl, r11, s11, r12, s12, r13, s13, r26, s26⟩

theorem walk {w : World} {ca cb : Array Value} {y z} (htab : Tab w) (h : metaKd.K w y ca.toList) (g : metaKd.K w z cb.toList) (oy : slotsOk y.2.2.2.2.2.2.1 ∧ epochsOk y.2.2.2.2.2.2.2.1 ∧ y.2.2.2.2.2.2.2.2.1.length < 1099511627776 ∧ tokensOk y.2.2.2.2.2.2.2.2.2.2) (oz : slotsOk z.2.2.2.2.2.2.1 ∧ epochsOk z.2.2.2.2.2.2.2.1 ∧ z.2.2.2.2.2.2.2.2.1.length < 1099511627776 ∧ tokensOk z.2.2.2.2.2.2.2.2.2.2) (my : y.2.2.2.2.2.2.1.length ≤ 1048576 ∧ y.2.2.2.2.2.2.2.1.length ≤ 1048576 ∧ y.2.2.2.2.2.2.2.2.2.2.length ≤ 1048576) (mz : z.2.2.2.2.2.2.1.length ≤ 1048576 ∧ z.2.2.2.2.2.2.2.1.length ≤ 1048576 ∧ z.2.2.2.2.2.2.2.2.2.2.length ≤ 1048576) :
    Calls Tryd.prog 3 #[.agg ca, .agg cb] w fun e w' => e = .returned (.bool true) ∧ Below w.heap.size w w' := by
  obtain ⟨a0_0, a0_1, a0_2, a0_3, a0_4, a0_5, a0_6, a0_7, a0_8, a0_9, a0_10, A0_11, c0_11, l0_11, A0_12, c0_12, l0_12, A0_13, c0_13, l0_13, a0_14, a0_15, a0_16, a0_17, a0_18, a0_19, a0_20, a0_21, a0_22, a0_23, a0_24, a0_25, A0_26, c0_26, l0_26, e0_11, e0_12, e0_13, e0_26, e0, r0_11, s0_11, r0_12, s0_12, r0_13, s0_13, r0_26, s0_26⟩ := meta_cells h
  obtain ⟨a1_0, a1_1, a1_2, a1_3, a1_4, a1_5, a1_6, a1_7, a1_8, a1_9, a1_10, A1_11, c1_11, l1_11, A1_12, c1_12, l1_12, A1_13, c1_13, l1_13, a1_14, a1_15, a1_16, a1_17, a1_18, a1_19, a1_20, a1_21, a1_22, a1_23, a1_24, a1_25, A1_26, c1_26, l1_26, e1_11, e1_12, e1_13, e1_26, e1, r1_11, s1_11, r1_12, s1_12, r1_13, s1_13, r1_26, s1_26⟩ := meta_cells g
  rw [← e0_11, ← e0_12, ← e0_13, ← e0_26] at oy
  rw [← e1_11, ← e1_12, ← e1_13, ← e1_26] at oz
  rw [← e0_11, ← e0_12, ← e0_26] at my
  rw [← e1_11, ← e1_12, ← e1_26] at mz
  obtain rfl : ca = #[.string a0_0, .string a0_1, .string a0_2, .string a0_3, .int .i64 a0_4, .int .u64 a0_5, .int .i64 a0_6, .int .i64 a0_7, .int .i64 a0_8, .string a0_9, .string a0_10, .slice A0_11 l0_11.length c0_11, .slice A0_12 l0_12.length c0_12, .slice A0_13 l0_13.length c0_13, .bool a0_14, .int .u64 a0_15, .int .u64 a0_16, .bool a0_17, .int .i64 a0_18, .int .u64 a0_19, .int .u64 a0_20, .int .i64 a0_21, .int .i64 a0_22, .bool a0_23, .int .u64 a0_24, .string a0_25, .slice A0_26 l0_26.length c0_26] := by cases ca; exact congrArg _ e0
  obtain rfl : cb = #[.string a1_0, .string a1_1, .string a1_2, .string a1_3, .int .i64 a1_4, .int .u64 a1_5, .int .i64 a1_6, .int .i64 a1_7, .int .i64 a1_8, .string a1_9, .string a1_10, .slice A1_11 l1_11.length c1_11, .slice A1_12 l1_12.length c1_12, .slice A1_13 l1_13.length c1_13, .bool a1_14, .int .u64 a1_15, .int .u64 a1_16, .bool a1_17, .int .i64 a1_18, .int .u64 a1_19, .int .u64 a1_20, .int .i64 a1_21, .int .i64 a1_22, .bool a1_23, .int .u64 a1_24, .string a1_25, .slice A1_26 l1_26.length c1_26] := by cases cb; exact congrArg _ e1
  obtain ⟨K0, hA⟩ := own_ok a0_0 a0_1 a0_2 a0_3 a0_4 a0_5 a0_6 a0_7 a0_8 a0_9 a0_10 l0_11 l0_12 l0_13 a0_14 a0_15 a0_16 a0_17 a0_18 a0_19 a0_20 a0_21 a0_22 a0_23 a0_24 a0_25 l0_26 a0_0 a0_1 a0_2 a0_3 a0_4 a0_5 a0_6 a0_7 a0_8 a0_9 a0_10 l0_11 l0_12 l0_13 a0_14 a0_15 a0_16 a0_17 a0_18 a0_19 a0_20 a0_21 a0_22 a0_23 a0_24 a0_25 l0_26 oy.1 oy.1 oy.2.1 oy.2.1 oy.2.2.2 oy.2.2.2 oy.2.2.1
  obtain ⟨K1, hB⟩ := own_ok a0_0 a0_1 a0_2 a0_3 a0_4 a0_5 a0_6 a0_7 a0_8 a0_9 a0_10 l0_11 l0_12 l0_13 a0_14 a0_15 a0_16 a0_17 a0_18 a0_19 a0_20 a0_21 a0_22 a0_23 a0_24 a0_25 l0_26 a1_0 a1_1 a1_2 a1_3 a1_4 a1_5 a1_6 a1_7 a1_8 a1_9 a1_10 l1_11 l1_12 l1_13 a1_14 a1_15 a1_16 a1_17 a1_18 a1_19 a1_20 a1_21 a1_22 a1_23 a1_24 a1_25 l1_26 oy.1 oz.1 oy.2.1 oz.2.1 oy.2.2.2 oz.2.2.2 oy.2.2.1
  obtain ⟨K2, hC⟩ := own_ok a1_0 a1_1 a1_2 a1_3 a1_4 a1_5 a1_6 a1_7 a1_8 a1_9 a1_10 l1_11 l1_12 l1_13 a1_14 a1_15 a1_16 a1_17 a1_18 a1_19 a1_20 a1_21 a1_22 a1_23 a1_24 a1_25 l1_26 a0_0 a0_1 a0_2 a0_3 a0_4 a0_5 a0_6 a0_7 a0_8 a0_9 a0_10 l0_11 l0_12 l0_13 a0_14 a0_15 a0_16 a0_17 a0_18 a0_19 a0_20 a0_21 a0_22 a0_23 a0_24 a0_25 l0_26 oz.1 oy.1 oz.2.1 oy.2.1 oz.2.2.2 oy.2.2.2 oz.2.2.1
  rw [toldPlain.told_self] at hA
  refine turnedWalk.law_walk rfl rfl (told a0_0 a0_1 a0_2 a0_3 a0_4 a0_5 a0_6 a0_7 a0_8 a0_9 a0_10 l0_11 l0_12 l0_13 a0_14 a0_15 a0_16 a0_17 a0_18 a0_19 a0_20 a0_21 a0_22 a0_23 a0_24 a0_25 l0_26 a1_0 a1_1 a1_2 a1_3 a1_4 a1_5 a1_6 a1_7 a1_8 a1_9 a1_10 l1_11 l1_12 l1_13 a1_14 a1_15 a1_16 a1_17 a1_18 a1_19 a1_20 a1_21 a1_22 a1_23 a1_24 a1_25 l1_26) (told a1_0 a1_1 a1_2 a1_3 a1_4 a1_5 a1_6 a1_7 a1_8 a1_9 a1_10 l1_11 l1_12 l1_13 a1_14 a1_15 a1_16 a1_17 a1_18 a1_19 a1_20 a1_21 a1_22 a1_23 a1_24 a1_25 l1_26 a0_0 a0_1 a0_2 a0_3 a0_4 a0_5 a0_6 a0_7 a0_8 a0_9 a0_10 l0_11 l0_12 l0_13 a0_14 a0_15 a0_16 a0_17 a0_18 a0_19 a0_20 a0_21 a0_22 a0_23 a0_24 a0_25 l0_26) (toldPlain.told_len a0_0 a0_1 a0_2 a0_3 a0_4 a0_5 a0_6 a0_7 a0_8 a0_9 a0_10 l0_11 l0_12 l0_13 a0_14 a0_15 a0_16 a0_17 a0_18 a0_19 a0_20 a0_21 a0_22 a0_23 a0_24 a0_25 l0_26 a1_0 a1_1 a1_2 a1_3 a1_4 a1_5 a1_6 a1_7 a1_8 a1_9 a1_10 l1_11 l1_12 l1_13 a1_14 a1_15 a1_16 a1_17 a1_18 a1_19 a1_20 a1_21 a1_22 a1_23 a1_24 a1_25 l1_26 my.1 mz.1 my.2.1 mz.2.1 my.2.2 mz.2.2) (toldPlain.told_len a1_0 a1_1 a1_2 a1_3 a1_4 a1_5 a1_6 a1_7 a1_8 a1_9 a1_10 l1_11 l1_12 l1_13 a1_14 a1_15 a1_16 a1_17 a1_18 a1_19 a1_20 a1_21 a1_22 a1_23 a1_24 a1_25 l1_26 a0_0 a0_1 a0_2 a0_3 a0_4 a0_5 a0_6 a0_7 a0_8 a0_9 a0_10 l0_11 l0_12 l0_13 a0_14 a0_15 a0_16 a0_17 a0_18 a0_19 a0_20 a0_21 a0_22 a0_23 a0_24 a0_25 l0_26 mz.1 my.1 mz.2.1 my.2.1 mz.2.2 my.2.2) (toldPlain.told_sizes a0_0 a0_1 a0_2 a0_3 a0_4 a0_5 a0_6 a0_7 a0_8 a0_9 a0_10 l0_11 l0_12 l0_13 a0_14 a0_15 a0_16 a0_17 a0_18 a0_19 a0_20 a0_21 a0_22 a0_23 a0_24 a0_25 l0_26 a1_0 a1_1 a1_2 a1_3 a1_4 a1_5 a1_6 a1_7 a1_8 a1_9 a1_10 l1_11 l1_12 l1_13 a1_14 a1_15 a1_16 a1_17 a1_18 a1_19 a1_20 a1_21 a1_22 a1_23 a1_24 a1_25 l1_26 oy.1 oz.1 oy.2.1 oz.2.1 oy.2.2.2 oz.2.2.2) (toldPlain.told_turned a0_0 a0_1 a0_2 a0_3 a0_4 a0_5 a0_6 a0_7 a0_8 a0_9 a0_10 l0_11 l0_12 l0_13 a0_14 a0_15 a0_16 a0_17 a0_18 a0_19 a0_20 a0_21 a0_22 a0_23 a0_24 a0_25 l0_26 a1_0 a1_1 a1_2 a1_3 a1_4 a1_5 a1_6 a1_7 a1_8 a1_9 a1_10 l1_11 l1_12 l1_13 a1_14 a1_15 a1_16 a1_17 a1_18 a1_19 a1_20 a1_21 a1_22 a1_23 a1_24 a1_25 l1_26) w htab (fun w1 hb => ?_) (fun w1 hb => ?_) (fun w1 hb => ?_)
  · exact probe_Compare.calls K0 a0_0 a0_1 a0_2 a0_3 a0_4 a0_5 a0_6 a0_7 a0_8 a0_9 a0_10 A0_11 c0_11 l0_11 A0_12 c0_12 l0_12 A0_13 c0_13 l0_13 a0_14 a0_15 a0_16 a0_17 a0_18 a0_19 a0_20 a0_21 a0_22 a0_23 a0_24 a0_25 A0_26 c0_26 l0_26 a0_0 a0_1 a0_2 a0_3 a0_4 a0_5 a0_6 a0_7 a0_8 a0_9 a0_10 A0_11 c0_11 l0_11 A0_12 c0_12 l0_12 A0_13 c0_13 l0_13 a0_14 a0_15 a0_16 a0_17 a0_18 a0_19 a0_20 a0_21 a0_22 a0_23 a0_24 a0_25 A0_26 c0_26 l0_26 _ w1 (Kd.C_below r0_11 hb) s0_11 (Kd.C_below r0_12 hb) s0_12 (Kd.C_below r0_13 hb) s0_13 (Kd.C_below r0_26 hb) s0_26 (Kd.C_below r0_11 hb) s0_11 (Kd.C_below r0_12 hb) s0_12 (Kd.C_below r0_13 hb) s0_13 (Kd.C_below r0_26 hb) s0_26 (htab.stays hb) hA
  · exact probe_Compare.calls K1 a0_0 a0_1 a0_2 a0_3 a0_4 a0_5 a0_6 a0_7 a0_8 a0_9 a0_10 A0_11 c0_11 l0_11 A0_12 c0_12 l0_12 A0_13 c0_13 l0_13 a0_14 a0_15 a0_16 a0_17 a0_18 a0_19 a0_20 a0_21 a0_22 a0_23 a0_24 a0_25 A0_26 c0_26 l0_26 a1_0 a1_1 a1_2 a1_3 a1_4 a1_5 a1_6 a1_7 a1_8 a1_9 a1_10 A1_11 c1_11 l1_11 A1_12 c1_12 l1_12 A1_13 c1_13 l1_13 a1_14 a1_15 a1_16 a1_17 a1_18 a1_19 a1_20 a1_21 a1_22 a1_23 a1_24 a1_25 A1_26 c1_26 l1_26 _ w1 (Kd.C_below r0_11 hb) s0_11 (Kd.C_below r0_12 hb) s0_12 (Kd.C_below r0_13 hb) s0_13 (Kd.C_below r0_26 hb) s0_26 (Kd.C_below r1_11 hb) s1_11 (Kd.C_below r1_12 hb) s1_12 (Kd.C_below r1_13 hb) s1_13 (Kd.C_below r1_26 hb) s1_26 (htab.stays hb) hB
  · exact probe_Compare.calls K2 a1_0 a1_1 a1_2 a1_3 a1_4 a1_5 a1_6 a1_7 a1_8 a1_9 a1_10 A1_11 c1_11 l1_11 A1_12 c1_12 l1_12 A1_13 c1_13 l1_13 a1_14 a1_15 a1_16 a1_17 a1_18 a1_19 a1_20 a1_21 a1_22 a1_23 a1_24 a1_25 A1_26 c1_26 l1_26 a0_0 a0_1 a0_2 a0_3 a0_4 a0_5 a0_6 a0_7 a0_8 a0_9 a0_10 A0_11 c0_11 l0_11 A0_12 c0_12 l0_12 A0_13 c0_13 l0_13 a0_14 a0_15 a0_16 a0_17 a0_18 a0_19 a0_20 a0_21 a0_22 a0_23 a0_24 a0_25 A0_26 c0_26 l0_26 _ w1 (Kd.C_below r1_11 hb) s1_11 (Kd.C_below r1_12 hb) s1_12 (Kd.C_below r1_13 hb) s1_13 (Kd.C_below r1_26 hb) s1_26 (Kd.C_below r0_11 hb) s0_11 (Kd.C_below r0_12 hb) s0_12 (Kd.C_below r0_13 hb) s0_13 (Kd.C_below r0_26 hb) s0_26 (htab.stays hb) hC

theorem contract (H : Type) (enc : TypeId × Value → H) (W : World) (base : Nat) (args : Array Value) (ds gs : List (DataW H)) (before : List MemPlace)
    (hval : ∀ (j : Nat) t v, Tryd.f3.params[j]? = some t → args[j]? = some v → Value.okWide Tryd.prog W .any base t v)
    (hW : DataW.Whole enc Tryd.prog Tryd.f3.params.toList Rows.probeTurnedSpec.vars false W args.toList ds gs before) (hk : Rows.uptoSmall H (ds ++ gs) = true) (hL : laidMetH Tryd.prog Rows.probeTurnedUptoRow.laid W) :
    Calls Tryd.prog 3 args W fun e W' => ∃ v, e = .returned v ∧ Rows.probeTurnedSpec.post enc Tryd.prog Tryd.f3 false true false false W args v W' := by
  have hW' := hW
  obtain ⟨p, q, hA0, hV, rfl, hfz, hnd⟩ := hW
  have hA : DataW.TrodAll enc Tryd.prog W 0 (fun _ => true) true Tryd.f3.params.toList args.toList ds p := hA0
  rw [Tryd.params3] at hA hval
  obtain ⟨v0, vs0, d0, ds0, p0, q0, hargs, rfl, rfl, h0, r0⟩ := trodAll_cons hA
  obtain ⟨v1, vs1, d1, ds1, p1, q1, hargs1, rfl, rfl, h1, r1⟩ := trodAll_cons r0
  obtain ⟨rfl, rfl, rfl⟩ := trodAll_nil r1
  obtain rfl : args = #[v0, v1] := by cases args; simp_all
  obtain ⟨rfl, rfl⟩ := trodVars_none hV
  have k0 := h0
  have k1 := h1
  have lt0 : ∀ x ∈ p0, x.block < W.heap.size := by obtain ⟨m, hm⟩ := k0; exact DataW.trod_lt m _ _ _ hm
  have lt1 : ∀ x ∈ p1, x.block < W.heap.size := by obtain ⟨m, hm⟩ := k1; exact DataW.trod_lt m _ _ _ hm
  obtain ⟨c0, rfl⟩ : ∃ c, v0 = .agg c := by
    have := hval 0 36 v0 rfl rfl
    unfold Value.okWide at this; rw [Tryd.underlying36] at this
    exact ⟨_, this.choose_spec.1⟩
  obtain ⟨c1, rfl⟩ : ∃ c, v1 = .agg c := by
    have := hval 1 36 v1 rfl rfl
    unfold Value.okWide at this; rw [Tryd.underlying36] at this
    exact ⟨_, this.choose_spec.1⟩
  obtain ⟨_, _, o, hO⟩ := o36
  obtain ⟨y0, z0, ok0, hb0⟩ := opened o h0
  obtain ⟨y1, z1, ok1, hb1⟩ := opened o h1
  have bulk : Rows.uptoBulkAll ([d0, d1] ++ ([] : List (DataW H))) ≤ 1048576 := of_decide_eq_true hk
  simp only [List.cons_append, List.nil_append, Rows.uptoBulkAll] at bulk
  clear hA0
  refine (walk (y := y0) (z := y1) (table hL) z0 z1 (hO y0 ok0 (by omega)).1 (hO y1 ok1 (by omega)).1 (hO y0 ok0 (by omega)).2 (hO y1 ok1 (by omega)).2).mono fun e W' ⟨he, bel⟩ => ?_
  subst he
  exact ⟨_, rfl, _, _, _, [], _, [], hW', trodAll_mk1 (shut_bool Tryd.underlying4 _), (trodAll_cons_mk (Below.trod laidOut (by kernel_rfl) (of_decide_eq_true (by kernel_rfl)) k0 bel lt0) (trodAll_cons_mk (Below.trod laidOut (by kernel_rfl) (of_decide_eq_true (by kernel_rfl)) k1 bel lt1) trodAll_mk0)), rfl, bel.frame _, fun h => by cases h⟩


/-- A world for the witness: the settled one, the tables holding what their initialisers lay. -/
noncomputable def laidWorld (os : Os) : World :=
  let w := World.holding Tryd.prog os ⟨#[], #[], []⟩
  { w with heap := ((w.heap.modify 0 fun
      | .cells _ t frozen => .cells #[.int .u64 1, .int .u64 10, .int .u64 100, .int .u64 1000, .int .u64 10000, .int .u64 100000, .int .u64 1000000, .int .u64 10000000, .int .u64 100000000, .int .u64 1000000000, .int .u64 10000000000, .int .u64 100000000000, .int .u64 1000000000000, .int .u64 10000000000000, .int .u64 100000000000000, .int .u64 1000000000000000, .int .u64 10000000000000000, .int .u64 100000000000000000, .int .u64 1000000000000000000, .int .u64 10000000000000000000] t frozen
      | o => o).modify 1 fun
      | .cells _ t frozen => .cells #[.int .u8 0, .int .u8 1, .int .u8 28, .int .u8 2, .int .u8 29, .int .u8 14, .int .u8 24, .int .u8 3, .int .u8 30, .int .u8 22, .int .u8 20, .int .u8 15, .int .u8 25, .int .u8 17, .int .u8 4, .int .u8 8, .int .u8 31, .int .u8 27, .int .u8 13, .int .u8 23, .int .u8 21, .int .u8 19, .int .u8 16, .int .u8 7, .int .u8 26, .int .u8 12, .int .u8 18, .int .u8 6, .int .u8 11, .int .u8 5, .int .u8 10, .int .u8 9] t frozen
      | o => o).modify 2 fun
      | .cells _ t frozen => .cells #[.int .u8 0, .int .u8 1, .int .u8 56, .int .u8 2, .int .u8 57, .int .u8 49, .int .u8 28, .int .u8 3, .int .u8 61, .int .u8 58, .int .u8 42, .int .u8 50, .int .u8 38, .int .u8 29, .int .u8 17, .int .u8 4, .int .u8 62, .int .u8 47, .int .u8 59, .int .u8 36, .int .u8 45, .int .u8 43, .int .u8 51, .int .u8 22, .int .u8 53, .int .u8 39, .int .u8 33, .int .u8 30, .int .u8 24, .int .u8 18, .int .u8 12, .int .u8 5, .int .u8 63, .int .u8 55, .int .u8 48, .int .u8 27, .int .u8 60, .int .u8 41, .int .u8 37, .int .u8 16, .int .u8 46, .int .u8 35, .int .u8 44, .int .u8 21, .int .u8 52, .int .u8 32, .int .u8 23, .int .u8 11, .int .u8 54, .int .u8 26, .int .u8 40, .int .u8 15, .int .u8 34, .int .u8 20, .int .u8 31, .int .u8 10, .int .u8 25, .int .u8 14, .int .u8 19, .int .u8 9, .int .u8 13, .int .u8 8, .int .u8 7, .int .u8 6] t frozen
      | o => o }
abbrev wit : Array Value := #[.agg #[.string ByteArray.empty, .string ByteArray.empty, .string ByteArray.empty, .string ByteArray.empty, .int .i64 0, .int .u64 0, .int .i64 0, .int .i64 0, .int .i64 0, .string ByteArray.empty, .string ByteArray.empty, .slice none 0 0, .slice none 0 0, .slice none 0 0, .bool false, .int .u64 0, .int .u64 0, .bool false, .int .i64 0, .int .u64 0, .int .u64 0, .int .i64 0, .int .i64 0, .bool false, .int .u64 0, .string ByteArray.empty, .slice none 0 0], .agg #[.string ByteArray.empty, .string ByteArray.empty, .string ByteArray.empty, .string ByteArray.empty, .int .i64 0, .int .u64 0, .int .i64 0, .int .i64 0, .int .i64 0, .string ByteArray.empty, .string ByteArray.empty, .slice none 0 0, .slice none 0 0, .slice none 0 0, .bool false, .int .u64 0, .int .u64 0, .bool false, .int .i64 0, .int .u64 0, .int .u64 0, .int .i64 0, .int .i64 0, .bool false, .int .u64 0, .string ByteArray.empty, .slice none 0 0]]
theorem laid_met (os : Os) : laidMet Tryd.prog Rows.probeTurnedUptoRow.laid ((laidWorld os).forCall (fun _ _ => 0) ⟨#[], wit, []⟩).memory :=
  laidMet_of_run' 8 (by kernel_rfl) (by kernel_rfl)
theorem reads (os : Os) {H : Type} (enc : TypeId × Value → H) : ∃ places, DataW.whole enc Tryd.prog ((laidWorld os).forCall (fun _ _ => 0) ⟨#[], wit, []⟩).memory Tryd.f3.params.toList Rows.probeTurnedSpec.vars false wit.toList 8 = some ([(.agg [(.lit (.string [])), (.lit (.string [])), (.lit (.string [])), (.lit (.string [])), (.agg [(.lit (.int .i64 0)), (.lit (.int .u64 0)), (.lit (.int .i64 0)), (.lit (.int .i64 0))]), (.agg [(.lit (.int .i64 0)), (.lit (.string [])), (.lit (.string []))]), .nil, .nil, .nil, (.agg [(.lit (.bool false)), (.lit (.int .u64 0)), (.lit (.int .u64 0)), (.lit (.bool false)), (.lit (.int .i64 0)), (.lit (.int .u64 0)), (.lit (.int .u64 0)), (.agg [(.lit (.int .i64 0)), (.lit (.int .i64 0))]), (.lit (.bool false)), (.lit (.int .u64 0)), (.lit (.string []))]), .nil]), (.agg [(.lit (.string [])), (.lit (.string [])), (.lit (.string [])), (.lit (.string [])), (.agg [(.lit (.int .i64 0)), (.lit (.int .u64 0)), (.lit (.int .i64 0)), (.lit (.int .i64 0))]), (.agg [(.lit (.int .i64 0)), (.lit (.string [])), (.lit (.string []))]), .nil, .nil, .nil, (.agg [(.lit (.bool false)), (.lit (.int .u64 0)), (.lit (.int .u64 0)), (.lit (.bool false)), (.lit (.int .i64 0)), (.lit (.int .u64 0)), (.lit (.int .u64 0)), (.agg [(.lit (.int .i64 0)), (.lit (.int .i64 0))]), (.lit (.bool false)), (.lit (.int .u64 0)), (.lit (.string []))]), .nil])], [], places) :=
  ⟨[], by kernel_rfl⟩
set_option maxRecDepth 100000 in
theorem lifted (os : Os) (started : os.Started) (H : Type) (enc : TypeId × Value → H) (F : Stop.Interp) :
    ReturnsInHanded {} Tryd.checked os 3 .any ((Rows.OpenSpec.upto Rows.probeTurnedSpec).preRow enc Tryd.prog Tryd.f3 Rows.probeTurnedUptoRow.domain false Rows.probeTurnedUptoRow.laid) (((Rows.OpenSpec.upto Rows.probeTurnedSpec).at F).post enc Tryd.prog Tryd.f3 false true false false) := by
  obtain ⟨places, hx⟩ := reads os enc
  refine returnsInHanded_of_row (C := Tryd.checked) (s := Rows.OpenSpec.upto Rows.probeTurnedSpec) own started (by kernel_rfl) Tryd.func3
    (witness_row_at (enc := enc) (C := Tryd.checked) false (laidWorld os) wit rfl (by kernel_rfl) (by kernel_rfl) (by kernel_rfl)
      (OpenSpec.preRow_of_cond 8 hx (by kernel_rfl) (fun k hk => by cases hk; kernel_rfl) (by kernel_rfl) (laid_met os))) ?_
  intro W base args ds gs before hval hW _ hcond _ hL _ _
  exact contract H enc W base args ds gs before hval hW (hcond _ rfl) hL
theorem said : Rows.ProbeTurnedUptoSaid :=
  OpenClaim.holds_of_cond 3 Tryd.f3 rfl rfl rfl rfl rfl rfl rfl ⟨rfl, rfl, rfl, rfl, rfl⟩ rfl rfl rfl rfl rfl (by kernel_rfl) Tryd.func3 (by kernel_rfl)
    (of_decide_eq_true (by kernel_rfl)) (by unfold Func.isWrapper; first | (rw [if_pos (by decide +kernel)]; kernel_rfl) | (rw [if_neg (by decide +kernel)]; exact ⟨rfl, rfl⟩))
    (fun os started H enc _ F => by rw [OpenClaim.pre_eq_preRow]; exact lifted os started H enc F)
/-- No parameter wants a stand-in; the program's own looks are off: what the card asks. -/
theorem plain (f : FuncId) (fn : Func) (hf : Tryd.pinned.checked.prog.funcNamed "coffer/cofferlaw15.ProbeTurned" = some f) (hfn : Tryd.pinned.checked.prog.funcs[f]? = some fn) :
    false = Tryd.pinned.checked.prog.looks [] ∧ ∀ (j : Nat) t, fn.params[j]? = some t → Tryd.pinned.checked.prog.wantsStandIn t = false := by
  obtain rfl : f = 3 := Option.some.inj ((show Tryd.prog.funcNamed "coffer/cofferlaw15.ProbeTurned" = some 3 by kernel_rfl).symm.trans hf) |>.symm
  obtain rfl : fn = Tryd.f3 := (Option.some.inj (Tryd.func3.symm.trans hfn)).symm
  refine ⟨by kernel_rfl, fun j t ht => ?_⟩
  rw [Tryd.params3] at ht
  obtain rfl : t = 36 := by simpa using Array.mem_of_getElem? ht
  exact (show Tryd.prog.wantsStandIn 36 = false by kernel_rfl)
theorem proved : Rows.ProbeTurnedUptoCardSaid :=
  Claim7.holds_tied_plain_at .later [] _ _ _ _ said (fun _ h => by cases h) (by kernel_rfl) (fun _ h => by cases h) probeTurnedUpto_row_tie rfl ⟨rfl, rfl⟩ (by kernel_rfl) rfl plain (by kernel_rfl)
#print axioms proved
end Go.Proofs.YtkpgklkplmljdaaDoor.probeTurnedUpto
