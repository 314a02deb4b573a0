/- The law ProbeOrders, for every input of bulk at most 1048576: the walk of the Go text returns true; here it becomes the row. -/
import Derived.Test.YtkpgklkplmljdaaRows
import Derived.Test.YtkpgklkplmljdaaOrdersWalk
import Derived.Test.YtkpgklkplmljdaaOpens
import Derived.WalkKit
import Derived.ProofKit
import Derived.OpenShut
import Derived.ShutString
import Derived.ChangeOld
import Derived.Below
import Derived.SizedLaws
import Derived.JoinedCond
namespace Go.Proofs.Ytkpgklkplmljdaa.probeOrdersUpto
open Go.ChangeShapes Go.WideShapes Go.ChangeAt Go.RowKit Go.Proofs.Ytkpgklkplmljdaa.PProbeOrders Go.Proofs.YtkpgklkplmljdaaW.PrintWords Go.Proofs.Ytkpgklkplmljdaa.opens
set_option linter.unusedVariables false
theorem own : ownKnob Try.prog.godebug = none := by kernel_rfl
theorem laidOut : laidOutB Try.prog = true := by kernel_rfl

theorem weaken {P : Program} {α : Type} {t : TypeId} {d : Kd α} {ok ok' : α → Prop} {B B' : α → Nat} (h : Opens P t d ok B) (ho : ∀ y, ok y → ok' y) (hB : ∀ y, B' y ≤ B y) : Opens P t d ok' B' := by
  intro H enc w base sp held fuel cs x hx
  obtain ⟨y, h1, h2, h3⟩ := h H enc w base sp held fuel cs x hx
  exact ⟨y, h1, ho y h2, Nat.le_trans (hB y) h3⟩
theorem len_le_sum {α : Type} {B : α → Nat} (hB : ∀ y, 1 ≤ B y) : ∀ ys : List α, ys.length ≤ (ys.map B).sum
  | [] => by simp
  | y :: ys => by have := hB y; have := len_le_sum hB ys; simp only [List.length_cons, List.map_cons, List.sum_cons]; omega
theorem slice_len {P : Program} {α : Type} {t e : TypeId} {d : Kd α} {ok : α → Prop} {B : α → Nat} (ht : P.underlying t = some (.slice e)) (hc : P.cellsOf e = d.sz) (h : Opens P e d ok B) (hB : ∀ y, 1 ≤ B y) :
    Opens P t (Kd.slice e d) (fun _ => True) (fun ys => ys.length) :=
  weaken (opens_slice ht hc h) (fun _ _ => trivial) (fun ys => by have := len_le_sum hB ys; omega)

theorem o34 : ∃ ok B, Opens Try.prog 34 k34 ok B ∧ ∀ y, 1 ≤ B y := ⟨_, _, opens_iso (f := fun x : S34 => (x.f0, x.f1)) (g := fun y => ⟨y.1, y.2⟩) (fun _ => rfl) (opens_struct (P := Try.prog) Try.underlying34 (by kernel_rfl) (fields_cons rfl (by kernel_rfl) (opens_int Try.underlying2) (fields_one rfl (by kernel_rfl) (opens_int Try.underlying2)))), fun _ => Nat.le_add_left 1 _⟩
theorem o45 : ∃ ok B, Opens Try.prog 45 k45 ok B ∧ ∀ y, 1 ≤ B y := by
  obtain ⟨_, _, h, _⟩ := o34
  exact ⟨_, _, opens_iso (f := fun x : S45 => (x.f0, x.f1, x.f2, x.f3, x.f4, x.f5, x.f6, x.f7)) (g := fun y => ⟨y.1, y.2.1, y.2.2.1, y.2.2.2.1, y.2.2.2.2.1, y.2.2.2.2.2.1, y.2.2.2.2.2.2.1, y.2.2.2.2.2.2.2⟩) (fun _ => rfl) (opens_struct (P := Try.prog) Try.underlying45 (by kernel_rfl) (fields_cons rfl (by kernel_rfl) (opens_int Try.underlying3) (fields_cons rfl (by kernel_rfl) (opens_int Try.underlying3) (fields_cons rfl (by kernel_rfl) (opens_int Try.underlying3) (fields_cons rfl (by kernel_rfl) (opens_int Try.underlying3) (fields_cons rfl (by kernel_rfl) (opens_string Try.underlying9) (fields_cons rfl (by kernel_rfl) (opens_string Try.underlying9) (fields_cons rfl (by kernel_rfl) (opens_int Try.underlying3) (fields_one rfl (by kernel_rfl) h))))))))), fun _ => Nat.le_add_left 1 _⟩
theorem o99 : ∃ ok B, Opens Try.prog 99 k99 ok B ∧ ∀ y, 1 ≤ B y := ⟨_, _, opens_iso (f := fun x : S99 => (x.f0, x.f1, x.f2, x.f3, x.f4)) (g := fun y => ⟨y.1, y.2.1, y.2.2.1, y.2.2.2.1, y.2.2.2.2⟩) (fun _ => rfl) (opens_struct (P := Try.prog) Try.underlying99 (by kernel_rfl) (fields_cons rfl (by kernel_rfl) (opens_int Try.underlying25) (fields_cons rfl (by kernel_rfl) (opens_string Try.underlying9) (fields_cons rfl (by kernel_rfl) (opens_string Try.underlying9) (fields_cons rfl (by kernel_rfl) (opens_string Try.underlying9) (fields_one rfl (by kernel_rfl) (opens_string Try.underlying9))))))), fun _ => Nat.le_add_left 1 _⟩
theorem o101 : ∃ ok B, Opens Try.prog 101 k101 ok B ∧ ∀ y, 1 ≤ B y := ⟨_, _, opens_iso (f := fun x : S101 => (x.f0, x.f1, x.f2)) (g := fun y => ⟨y.1, y.2.1, y.2.2⟩) (fun _ => rfl) (opens_struct (P := Try.prog) Try.underlying101 (by kernel_rfl) (fields_cons rfl (by kernel_rfl) (opens_int Try.underlying25) (fields_cons rfl (by kernel_rfl) (opens_int Try.underlying25) (fields_one rfl (by kernel_rfl) (opens_int Try.underlying25))))), fun _ => Nat.le_add_left 1 _⟩
theorem o40 : Opens Try.prog 40 (Kd.slice 3 (Kd.int .i64)) (fun _ => True) (fun ys => ys.length) := slice_len Try.underlying40 (by kernel_rfl) (opens_int Try.underlying3) (fun _ => Nat.le_refl 1)
theorem o103 : ∃ ok B, Opens Try.prog 103 k103 ok B ∧ ∀ y, 1 ≤ B y := ⟨_, _, opens_iso (f := fun x : S103 => (x.f0, x.f1, x.f2, x.f3)) (g := fun y => ⟨y.1, y.2.1, y.2.2.1, y.2.2.2⟩) (fun _ => rfl) (opens_struct (P := Try.prog) Try.underlying103 (by kernel_rfl) (fields_cons rfl (by kernel_rfl) (opens_int Try.underlying3) (fields_cons rfl (by kernel_rfl) (opens_string Try.underlying9) (fields_cons rfl (by kernel_rfl) o40 (fields_one rfl (by kernel_rfl) (opens_string Try.underlying9)))))), fun _ => Nat.le_add_left 1 _⟩
theorem o30 : Opens Try.prog 30 (Kd.slice 45 k45) (fun _ => True) (fun ys => ys.length) := by
  obtain ⟨_, _, h, hb⟩ := o45
  exact slice_len Try.underlying30 (by kernel_rfl) h hb
theorem o31 : Opens Try.prog 31 (Kd.slice 99 k99) (fun _ => True) (fun ys => ys.length) := by
  obtain ⟨_, _, h, hb⟩ := o99
  exact slice_len Try.underlying31 (by kernel_rfl) h hb
theorem o32 : Opens Try.prog 32 (Kd.slice 101 k101) (fun _ => True) (fun ys => ys.length) := by
  obtain ⟨_, _, h, hb⟩ := o101
  exact slice_len Try.underlying32 (by kernel_rfl) h hb
theorem o37 : Opens Try.prog 37 (Kd.slice 103 k103) (fun _ => True) (fun ys => ys.length) := by
  obtain ⟨_, _, h, hb⟩ := o103
  exact slice_len Try.underlying37 (by kernel_rfl) h hb
abbrev shapeKd := (Kd.pair (Kd.int .i64) (Kd.pair (Kd.int .u64) (Kd.pair (Kd.int .i64) (Kd.int .i64))))
abbrev digestKd := (Kd.pair (Kd.int .i64) (Kd.pair Kd.string Kd.string))
abbrev rotKd := (Kd.pair Kd.bool (Kd.pair (Kd.int .u64) (Kd.pair (Kd.int .u64) (Kd.pair Kd.bool (Kd.pair (Kd.int .i64) (Kd.pair (Kd.int .u64) (Kd.pair (Kd.int .u64) (Kd.pair k34 (Kd.pair Kd.bool (Kd.pair (Kd.int .u64) Kd.string))))))))))
abbrev metaKd := (Kd.pair Kd.string (Kd.pair Kd.string (Kd.pair Kd.string (Kd.pair Kd.string (Kd.pair shapeKd (Kd.pair digestKd (Kd.pair (Kd.slice 45 k45) (Kd.pair (Kd.slice 99 k99) (Kd.pair (Kd.slice 101 k101) (Kd.pair rotKd (Kd.slice 103 k103)))))))))))
theorem o39 : ∃ ok B, Opens Try.prog 39 metaKd ok B ∧ ∀ y, (y.2.2.2.2.2.2.1).length ≤ B y := by
  obtain ⟨_, _, h34, _⟩ := o34
  have h27 := (opens_struct (P := Try.prog) Try.underlying27 (by kernel_rfl) (fields_cons rfl (by kernel_rfl) (opens_int Try.underlying3) (fields_cons rfl (by kernel_rfl) (opens_int Try.underlying25) (fields_cons rfl (by kernel_rfl) (opens_int Try.underlying3) (fields_one rfl (by kernel_rfl) (opens_int Try.underlying3))))))
  have h29 := (opens_struct (P := Try.prog) Try.underlying29 (by kernel_rfl) (fields_cons rfl (by kernel_rfl) (opens_int Try.underlying3) (fields_cons rfl (by kernel_rfl) (opens_string Try.underlying9) (fields_one rfl (by kernel_rfl) (opens_string Try.underlying9)))))
  have h36 := (opens_struct (P := Try.prog) Try.underlying36 (by kernel_rfl) (fields_cons rfl (by kernel_rfl) (opens_bool Try.underlying4) (fields_cons rfl (by kernel_rfl) (opens_int Try.underlying25) (fields_cons rfl (by kernel_rfl) (opens_int Try.underlying25) (fields_cons rfl (by kernel_rfl) (opens_bool Try.underlying4) (fields_cons rfl (by kernel_rfl) (opens_int Try.underlying3) (fields_cons rfl (by kernel_rfl) (opens_int Try.underlying25) (fields_cons rfl (by kernel_rfl) (opens_int Try.underlying25) (fields_cons rfl (by kernel_rfl) h34 (fields_cons rfl (by kernel_rfl) (opens_bool Try.underlying4) (fields_cons rfl (by kernel_rfl) (opens_int Try.underlying25) (fields_one rfl (by kernel_rfl) (opens_string Try.underlying9)))))))))))))
  refine ⟨_, _, (opens_struct (P := Try.prog) Try.underlying39 (by kernel_rfl) (fields_cons rfl (by kernel_rfl) (opens_string Try.underlying9) (fields_cons rfl (by kernel_rfl) (opens_string Try.underlying9) (fields_cons rfl (by kernel_rfl) (opens_string Try.underlying9) (fields_cons rfl (by kernel_rfl) (opens_string Try.underlying9) (fields_cons rfl (by kernel_rfl) h27 (fields_cons rfl (by kernel_rfl) h29 (fields_cons rfl (by kernel_rfl) o30 (fields_cons rfl (by kernel_rfl) o31 (fields_cons rfl (by kernel_rfl) o32 (fields_cons rfl (by kernel_rfl) h36 (fields_one rfl (by kernel_rfl) o37)))))))))))), fun y => ?_⟩
  omega
theorem meta_cells {w : World} {cs : List Value} {y} (h : metaKd.K w y cs) : ∃ a0_0 a0_1 a0_2 a0_3 a0_4 a0_5 a0_6 a0_7 a0_8 a0_9 a0_10 A0_11 c0_11 l0_11 A0_12 c0_12 l0_12 A0_13 c0_13 l0_13 a0_14 a0_15 a0_16 a0_17 a0_18 a0_19 a0_20 a0_21 a0_22 a0_23 a0_24 a0_25 A0_26 c0_26 l0_26, l0_11 = y.2.2.2.2.2.2.1 ∧ cs = [.string a0_0, .string a0_1, .string a0_2, .string a0_3, .int .i64 a0_4, .int .u64 a0_5, .int .i64 a0_6, .int .i64 a0_7, .int .i64 a0_8, .string a0_9, .string a0_10, .slice A0_11 l0_11.length c0_11, .slice A0_12 l0_12.length c0_12, .slice A0_13 l0_13.length c0_13, .bool a0_14, .int .u64 a0_15, .int .u64 a0_16, .bool a0_17, .int .i64 a0_18, .int .u64 a0_19, .int .u64 a0_20, .int .i64 a0_21, .int .i64 a0_22, .bool a0_23, .int .u64 a0_24, .string a0_25, .slice A0_26 l0_26.length c0_26] ∧ Kd.C k45 w A0_11 l0_11.length l0_11 ∧ l0_11.length ≤ c0_11 ∧ Kd.C k99 w A0_12 l0_12.length l0_12 ∧ l0_12.length ≤ c0_12 ∧ Kd.C k101 w A0_13 l0_13.length l0_13 ∧ l0_13.length ≤ c0_13 ∧ Kd.C k103 w A0_26 l0_26.length l0_26 ∧ l0_26.length ≤ c0_26 := by
  obtain ⟨y0, y1, y2, y3, ⟨y4, y5, y6, y7⟩, ⟨y8, y9, y10⟩, y11, y12, y13, ⟨y14, y15, y16, y17, y18, y19, y20, y21, y23, y24, y25⟩, y26⟩ := y
  obtain ⟨_, _, rfl, h0, _, _, rfl, h1, _, _, rfl, h2, _, _, rfl, h3, _, _, rfl, ⟨_, _, rfl, h4, _, _, rfl, h5, _, _, rfl, h6, h7⟩, _, _, rfl, ⟨_, _, rfl, h8, _, _, rfl, h9, h10⟩, _, _, rfl, ⟨A11, c11, rfl, s11, r11⟩, _, _, rfl, ⟨A12, c12, rfl, s12, r12⟩, _, _, rfl, ⟨A13, c13, rfl, s13, r13⟩, _, _, rfl, ⟨_, _, rfl, h14, _, _, rfl, h15, _, _, rfl, h16, _, _, rfl, h17, _, _, rfl, h18, _, _, rfl, h19, _, _, rfl, h20, _, _, rfl, h21, _, _, rfl, h23, _, _, rfl, h24, h25⟩, ⟨A26, c26, rfl, s26, r26⟩⟩ := h
  cases h0; cases h1; cases h2; cases h3; cases h4; cases h5; cases h6; cases h7; cases h8; cases h9; cases h10; cases h14; cases h15; cases h16; cases h17; cases h18; cases h19; cases h20; cases h23; cases h24; cases h25
  obtain rfl := k34_open h21
  exact ⟨_, _, _, _, _, _, _, _, _, _, _, A11, c11, y11, A12, c12, y12, A13, c13, y13, _, _, _, _, _, _, _, _, _, _, _, _, A26, c26, y26, rfl, rfl, r11, s11, r12, s12, r13, s13, r26, s26⟩

theorem walk {w : World} {cs : Array Value} {y} (h : metaKd.K w y cs.toList) (hl : (y.2.2.2.2.2.2.1).length ≤ 1048576) : Calls Try.prog 5 #[.agg cs] w fun e w' => e = .returned (.bool true) ∧ Below w.heap.size w w' := by
  obtain ⟨a0_0, a0_1, a0_2, a0_3, a0_4, a0_5, a0_6, a0_7, a0_8, a0_9, a0_10, A0_11, c0_11, l0_11, A0_12, c0_12, l0_12, A0_13, c0_13, l0_13, a0_14, a0_15, a0_16, a0_17, a0_18, a0_19, a0_20, a0_21, a0_22, a0_23, a0_24, a0_25, A0_26, c0_26, l0_26, e11, e, r11, s11, r12, s12, r13, s13, r26, s26⟩ := meta_cells h
  have hlen : l0_11.length < 1099511627776 := by rw [e11]; omega
  obtain rfl : cs = #[.string a0_0, .string a0_1, .string a0_2, .string a0_3, .int .i64 a0_4, .int .u64 a0_5, .int .i64 a0_6, .int .i64 a0_7, .int .i64 a0_8, .string a0_9, .string a0_10, .slice A0_11 l0_11.length c0_11, .slice A0_12 l0_12.length c0_12, .slice A0_13 l0_13.length c0_13, .bool a0_14, .int .u64 a0_15, .int .u64 a0_16, .bool a0_17, .int .i64 a0_18, .int .u64 a0_19, .int .u64 a0_20, .int .i64 a0_21, .int .i64 a0_22, .bool a0_23, .int .u64 a0_24, .string a0_25, .slice A0_26 l0_26.length c0_26] := by cases cs; exact congrArg _ e
  refine law_walk rfl (ordered l0_11) (by have := ordered_le l0_11; omega) w (fun w1 hb => ?_) (fun w1 hb => ?_)
  · exact probe_Order.calls a0_0 a0_1 a0_2 a0_3 a0_4 a0_5 a0_6 a0_7 a0_8 a0_9 a0_10 A0_11 c0_11 l0_11 A0_12 c0_12 l0_12 A0_13 c0_13 l0_13 a0_14 a0_15 a0_16 a0_17 a0_18 a0_19 a0_20 a0_21 a0_22 a0_23 a0_24 a0_25 A0_26 c0_26 l0_26 _ w1 (Kd.C_below r11 hb) s11 (Kd.C_below r12 hb) s12 (Kd.C_below r13 hb) s13 (Kd.C_below r26 hb) s26 (by unfold probe_Order.f; rw [if_pos hlen])
  · exact cofferref15_Order.calls a0_0 a0_1 a0_2 a0_3 a0_4 a0_5 a0_6 a0_7 a0_8 a0_9 a0_10 A0_11 c0_11 l0_11 A0_12 c0_12 l0_12 A0_13 c0_13 l0_13 a0_14 a0_15 a0_16 a0_17 a0_18 a0_19 a0_20 a0_21 a0_22 a0_23 a0_24 a0_25 A0_26 c0_26 l0_26 _ w1 (Kd.C_below r11 hb) s11 (Kd.C_below r12 hb) s12 (Kd.C_below r13 hb) s13 (Kd.C_below r26 hb) s26 (by unfold cofferref15_Order.f; rw [if_pos hlen])

theorem contract (H : Type) (enc : TypeId × Value → H) (W : World) (base : Nat) (args : Array Value) (ds gs : List (DataW H)) (before : List MemPlace)
    (hval : ∀ (j : Nat) t v, Try.f5.params[j]? = some t → args[j]? = some v → Value.okWide Try.prog W .any base t v)
    (hW : DataW.Whole enc Try.prog Try.f5.params.toList Rows.probeOrdersSpec.vars false W args.toList ds gs before) (hk : Rows.uptoSmall H (ds ++ gs) = true) :
    Calls Try.prog 5 args W fun e W' => ∃ v, e = .returned v ∧ Rows.probeOrdersSpec.post enc Try.prog Try.f5 false true false false W args v W' := by
  have hW' := hW
  obtain ⟨p, q, hA0, hV, rfl, hfz, hnd⟩ := hW
  have hA : DataW.TrodAll enc Try.prog W 0 (fun _ => true) true Try.f5.params.toList args.toList ds p := hA0
  rw [Try.params5] at hA hval
  obtain ⟨v0, vs0, d0, ds0, p0, q0, hargs, rfl, rfl, h0, r0⟩ := trodAll_cons hA
  obtain ⟨rfl, rfl, rfl⟩ := trodAll_nil r0
  obtain rfl : args = #[v0] := by cases args; simp_all
  obtain ⟨rfl, rfl⟩ := trodVars_none hV
  have k0 := h0
  have lt0 : ∀ x ∈ p0, x.block < W.heap.size := by obtain ⟨m, hm⟩ := k0; exact DataW.trod_lt m _ _ _ hm
  obtain ⟨c0, rfl⟩ : ∃ c, v0 = .agg c := by
    have := hval 0 39 v0 rfl rfl
    unfold Value.okWide at this; rw [Try.underlying39] at this
    exact ⟨_, this.choose_spec.1⟩
  obtain ⟨_, _, o, hB⟩ := o39
  obtain ⟨y0, z0, _, hb0⟩ := opened o h0
  have bulk : Rows.uptoBulkAll ([d0] ++ ([] : List (DataW H))) ≤ 1048576 := of_decide_eq_true hk
  simp only [List.cons_append, List.nil_append, Rows.uptoBulkAll] at bulk
  have hl := hB y0
  clear hA0
  refine (walk (y := y0) z0 (by omega)).mono fun e W' ⟨he, bel⟩ => ?_
  subst he
  exact ⟨_, rfl, _, _, _, [], _, [], hW', trodAll_mk1 (shut_bool Try.underlying4 _), (trodAll_cons_mk (Below.trod laidOut (by kernel_rfl) (of_decide_eq_true (by kernel_rfl)) k0 bel lt0) trodAll_mk0), rfl, bel.frame _, fun h => by cases h⟩
set_option maxRecDepth 100000 in
theorem lifted (os : Os) (started : os.Started) (H : Type) (enc : TypeId × Value → H) (F : Stop.Interp) :
    ReturnsInHanded {} Try.checked os 5 .any ((Rows.OpenSpec.upto Rows.probeOrdersSpec).pre6 enc Try.prog Try.f5 Rows.probeOrdersUptoRow.domain false) (((Rows.OpenSpec.upto Rows.probeOrdersSpec).at F).post enc Try.prog Try.f5 false true false false) := by
  refine returnsInHanded_of_cond (C := Try.checked) (s := Rows.OpenSpec.upto Rows.probeOrdersSpec) (k := Rows.uptoSmall) rfl own started (by kernel_rfl) Try.func5
    (OpenSpec.witness (enc := enc) (C := Try.checked) (s := Rows.OpenSpec.upto Rows.probeOrdersSpec) (k := Rows.uptoSmall) rfl false ⟨#[], #[.agg #[.string ByteArray.empty, .string ByteArray.empty, .string ByteArray.empty, .string ByteArray.empty, .int .i64 0, .int .u64 0, .int .i64 0, .int .i64 0, .int .i64 0, .string ByteArray.empty, .string ByteArray.empty, .slice none 0 0, .slice none 0 0, .slice none 0 0, .bool false, .int .u64 0, .int .u64 0, .bool false, .int .i64 0, .int .u64 0, .int .u64 0, .int .i64 0, .int .i64 0, .bool false, .int .u64 0, .string ByteArray.empty, .slice none 0 0]], []⟩ 8 (by kernel_rfl) (by kernel_rfl) (by kernel_rfl)
      (x := ([.agg [(.lit (.string [])), (.lit (.string [])), (.lit (.string [])), (.lit (.string [])), (.agg [(.lit (.int .i64 0)), (.lit (.int .u64 0)), (.lit (.int .i64 0)), (.lit (.int .i64 0))]), (.agg [(.lit (.int .i64 0)), (.lit (.string [])), (.lit (.string []))]), .nil, .nil, .nil, (.agg [(.lit (.bool false)), (.lit (.int .u64 0)), (.lit (.int .u64 0)), (.lit (.bool false)), (.lit (.int .i64 0)), (.lit (.int .u64 0)), (.lit (.int .u64 0)), (.agg [(.lit (.int .i64 0)), (.lit (.int .i64 0))]), (.lit (.bool false)), (.lit (.int .u64 0)), (.lit (.string []))]), .nil]], [], [])) (by kernel_rfl) rfl (by kernel_rfl)) ?_
  intro W base args ds gs before hval hW _ hk _
  exact contract H enc W base args ds gs before hval hW hk
theorem proved : Rows.ProbeOrdersUptoSaid :=
  OpenClaim.holds_of_cond 5 Try.f5 rfl rfl rfl rfl rfl rfl rfl ⟨rfl, rfl, rfl, rfl, rfl⟩ rfl rfl rfl rfl rfl (by kernel_rfl) Try.func5 (by kernel_rfl)
    (of_decide_eq_true (by kernel_rfl)) (by unfold Func.isWrapper; first | (rw [if_pos (by decide +kernel)]; kernel_rfl) | (rw [if_neg (by decide +kernel)]; exact ⟨rfl, rfl⟩))
    (fun os started H enc _ F => lifted os started H enc F)
#print axioms proved
end Go.Proofs.Ytkpgklkplmljdaa.probeOrdersUpto
