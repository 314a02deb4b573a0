/- The law: what lies on a device goes through it without a gap. (Written by glaw.py.) What the row's list of variables gives: the tables of the package. (Merged by merge.py.) -/
import Derived.Test.YtpmbfibjldnaiaaGreatDoorML
import Derived.Test.YtpmbfibjldnaiaaGreatDoorRows
import Derived.Test.YtpmbfibjldnaiaaGreatDoorMJ
import Derived.Test.YtpmbfibjldnaiaaGreatDoorShelf
import Derived.Lib.LaidTab
import Derived.Lib.LaidU8T
/-! ## LawC -/
namespace Go.Proofs.YtpmbfibjldnaiaaGreatDoor.lawc
open Go Go.RowKit Go.Proofs.YtpmbfibjldnaiaaGreatDoor.shapea Go.Proofs.YtpmbfibjldnaiaaGreatDoor.risea Go.Proofs.YtpmbfibjldnaiaaGreatDoor.slotsa Go.Proofs.YtpmbfibjldnaiaaGreatDoor.rota Go.Proofs.YtpmbfibjldnaiaaGreatDoor.rula Go.Proofs.YtpmbfibjldnaiaaGreatDoor.segb Go.Proofs.YtpmbfibjldnaiaaGreatDoor.segc Go.Proofs.YtpmbfibjldnaiaaGreatDoor.segd Go.Proofs.YtpmbfibjldnaiaaGreatDoor.metab Go.Proofs.YtpmbfibjldnaiaaGreatDoor.checka Go.Proofs.YtpmbfibjldnaiaaGreatDoor.covp Go.Proofs.YtpmbfibjldnaiaaGreatDoor.spota Go.Proofs.YtpmbfibjldnaiaaGreatDoor.spotb Go.Proofs.YtpmbfibjldnaiaaGreatDoor.spotc Go.Proofs.YtpmbfibjldnaiaaGreatDoor.spotd Go.Proofs.YtpmbfibjldnaiaaGreatDoor.covq Go.Proofs.YtpmbfibjldnaiaaGreatDoor.spote Go.Proofs.YtpmbfibjldnaiaaGreatDoor.PProbeSpots Go.Proofs.YtpmbfibjldnaiaaGreatDoorW.PrintWords Go.Proofs.YtpmbfibjldnaiaaGreatDoorW.PrintLast
set_option linter.unusedVariables false
set_option linter.unusedSimpArgs false
theorem num_call (n : Int) (w : World) : Calls Tryz.prog 6 #[.int .i64 n] w (fun e w' => e = .returned (.int .i64 n) ∧ w' = w) := by
  go_enter Tryz.func6, Tryz.ntmps6
  go_wp2_with fail
  go_ret
  exact ⟨rfl, rfl⟩
theorem spot_cells {w : World} {b g cap : Nat} {L : List Sp} (h : w.ownsRow b 44 4 (.slice (some ⟨g, 0, none⟩) L.length cap) L.length (cellsS L)) {i : Nat} (hi : i < L.length) :
    w.cell? ⟨g, i * 4, none⟩ = some (.int .i64 L[i].k) ∧ w.cell? ⟨g, i * 4 + 1, none⟩ = some (.int .u64 L[i].n) ∧ w.cell? ⟨g, i * 4 + 2, none⟩ = some (.int .u64 L[i].s) ∧ w.cell? ⟨g, i * 4 + 3, none⟩ = some (.int .u64 L[i].c) := by
  have hg : L[i]? = some L[i] := List.getElem?_eq_getElem hi
  have q := fun c v (hv : (encS L[i])[c]? = some v) => (h.cellAt (i * 4 + c) (by have : c < 4 := by { have := (List.getElem?_eq_some_iff.1 hv).1; simpa [encS] using this }; omega)).trans (cellsS_at L i L[i] c v hg hv)
  exact ⟨q 0 _ rfl, q 1 _ rfl, q 2 _ rfl, q 3 _ rfl⟩
theorem chain_le : ∀ {l : List Sp} {a b : Int}, Chain l a b → a ≤ b
  | [], a, b, h => by
    have : a = b := h
    omega
  | p :: t, a, b, h => by
    have := chain_le h.2.2.2.2
    have := h.2.1
    omega
theorem chain_len : ∀ {l : List Sp} {a b : Int}, Chain l a b → a + l.length ≤ b
  | [], a, b, h => by
    have : a = b := h
    simp
    omega
  | p :: t, a, b, h => by
    have := chain_len h.2.2.2.2
    have := h.2.1
    simp only [List.length_cons]
    omega
set_option maxHeartbeats 8000000 in
set_option maxRecDepth 100000 in
theorem law_call (A11 A12 A13 A26 : Option Addr) (c11 c12 c13 c26 : Nat) (m : MetaV) (w : World) (gs o : Nat) (hM : MetaIn w m A11 A12 A13 A26 c11 c12 c13 c26) (hB : MetaBd m) (hT : TabsAt w gs o) :
    Calls Tryz.prog 3 #[.agg (mrow m A11 A12 A13 A26 c11 c12 c13 c26)] w (fun e w' => e = .returned (.bool true) ∧ Below w.heap.size w w') := by
  have HAN := Aside0.mk (fun W (hb : Below w.heap.size w W) => check_call A11 A12 A13 A26 c11 c12 c13 c26 m W gs o (hM.below hb) hB (hT.later hb))
  have HSP := Aside0.mk (fun W (hb : Below w.heap.size w W) => spots_ans A11 A12 A13 A26 c11 c12 c13 c26 m W gs o (hM.below hb) hB (hT.later hb))
  have HGD := Aside0.mk (fun h : checkRes m = 0 => good_of hB h)
  obtain ⟨cs, hcs⟩ : ∃ cs, cs = mrow m A11 A12 A13 A26 c11 c12 c13 c26 := ⟨_, rfl⟩
  have C5 := Aside0.mk (show cs[5]? = some (.int .u64 m.c) by rw [hcs]; rfl)
  have C11 := Aside0.mk (show cs[11]? = some (.slice A11 m.slots.length c11) by rw [hcs]; rfl)
  rw [← hcs] at HAN HSP ⊢
  have h27 : cs.size = 27 := by rw [hcs]; rfl
  have HNM := Aside0.mk (blk_new w (.cells cs 36))
  have HZ := Aside0.mk (b_alloc w (.cells cs 36))
  have HRW := Aside0.mk (RowAt.new w h27)
  have HIN : Aside0 ((Tryz.prog.info? 36).map (fun i => i.size) = some cs.size) := ⟨by rw [info36, h27]⟩
  have HMB := Aside0.mk hB.c
  clear hM hB hT hcs h27
  go_enter Tryz.func3, Tryz.ntmps3
  go_wp2_with ((with_reducible refine gateL (.load 36 (.tmp 1)) rfl ?_); refine wpList_load_row rfl 36 (.tmp 1) rfl w.heap.size rfl 36 cs (0, 0) _ HNM.out Tryz.underlying36 rfl HIN.out ?_)
  refine (HSP.out _ HZ.out).mono ?_
  rintro e W1 (⟨hc, rfl, b1⟩ | ⟨hc, g, cap, L, l1, l2, rfl, o1, b1⟩)
  rotate_left
  · have HC := Aside0.mk hc
    have HB1 := Aside0.mk (Go.Proofs.YtpmbfibjldnaiaaGreatDoorW.PrintWords.below_step HZ.out b1)
    have HN1 := Aside0.mk (HRW.out.below b1)
    have HL0 := Aside0.mk l1
    have HLL := Aside0.mk l2
    have HSN := Aside0.mk (HGD.out hc).slen
    have HO0 := Aside0.mk o1
    rw [hc] at HAN
    have HCB : Aside0 (m.c ≤ 4294967296) := ⟨(secs_facts (HGD.out hc).sec HMB.out).2.2.2.2.2.2.2.1⟩
    have HMX : Aside0 (L.length ≤ 4294967296) := ⟨by have := chain_len l1; have := HCB.out; omega⟩
    clear b1 l1 l2 o1 hc
    go_wp2_with ((with_reducible refine gateL (.load 36 (.tmp 1)) rfl ?_); refine wpList_load_row rfl 36 (.tmp 1) rfl w.heap.size rfl 36 cs (0, 0) _ HN1.out.at_ Tryz.underlying36 rfl HIN.out ?_)
    refine (HAN.out _ HB1.out).mono ?_
    rintro e W2 ⟨rfl, b2⟩
    have HB2 := Aside0.mk (Go.Proofs.YtpmbfibjldnaiaaGreatDoorW.PrintWords.below_step HB1.out b2)
    have HRA := Aside0.mk (HN1.out.below b2)
    have HO : Aside0 (∀ i, (hi : i < L.length) → W2.cell? ⟨g, i * 4, none⟩ = some (.int .i64 L[i].k) ∧ W2.cell? ⟨g, i * 4 + 1, none⟩ = some (.int .u64 L[i].n) ∧ W2.cell? ⟨g, i * 4 + 2, none⟩ = some (.int .u64 L[i].s) ∧ W2.cell? ⟨g, i * 4 + 3, none⟩ = some (.int .u64 L[i].c)) := ⟨fun i hi => by
      obtain ⟨q0, q1, q2, q3⟩ := spot_cells HO0.out hi
      have mv : ∀ {a : Addr} {u : Value}, W1.cell? a = some u → W2.cell? a = some u := fun h => (b2.cell (World.block_lt_of_cell? W1 _ h)).trans h
      exact ⟨mv q0, mv q1, mv q2, mv q3⟩⟩
    clear b2
    go_wp2_with fail
    refine (num_call _ _).mono ?_
    rintro e W3 ⟨rfl, rfl⟩
    go_wp2_with fail
    go_loopg [5, 6] (L.length + 1) (fun kq s5 s6 wr => ∃ (i : Nat) (a : Int), Aside0 (s6 = .int .i64 (i : Int)) ∧ Aside0 (s5 = .int .u64 a) ∧ Aside0 (i ≤ L.length ∧ kq + i = L.length + 1) ∧ Aside0 (Chain (L.drop i) a m.c) ∧ Aside0 (0 ≤ a) ∧ Aside0 (wr = W3))
    case atStart => exact ⟨0, 0, ⟨rfl⟩, ⟨rfl⟩, ⟨by omega⟩, HL0, ⟨by omega⟩, ⟨rfl⟩⟩
    case round =>
      obtain ⟨i, a, H6, H5, HI, HCH, HA0, HW⟩ := hrel
      obtain rfl := H6.out
      obtain rfl := H5.out
      obtain ⟨hi, hk⟩ := HI.out
      have HQ := Aside0.mk hk
      clear hk
      obtain rfl := HW.out
      clear HW
      have hmx := HMX.out
      have ha0 := HA0.out
      have g0 : (0 : Int) ≤ (i : Int) := by omega
      by_cases hlt : i < L.length
      · obtain ⟨c0, c1, c2, c3⟩ := HO.out i hlt
        obtain ⟨a', d1, d2, d3, d4, d5, d6⟩ := chain_drop L i 0 m.c HL0.out hlt
        have ea : a' = a := by
          have e1 := HCH.out
          rw [List.drop_eq_getElem_cons hlt] at e1 d1
          have e2 := e1.1
          have e3 := d1.1
          omega
        subst ea
        generalize L[i] = p at *
        have le := chain_le d3
        have hcb := HCB.out
        have HD3 := Aside0.mk d3
        rw [d2] at c2
        have n1 : ¬ p.c < 1 := by omega
        have n2 : ¬ p.k < 1 := by omega
        have n3 : ¬ p.k > 6 := by omega
        have n4 : 0 ≤ p.c := by omega
        clear d1 d2 d3
        go_wp2_with fail
        all_goals first
          | (exfalso; omega)
          | skip
        all_goals go_roundg (L.length - i)
        case rel =>
          refine ⟨i + 1, a' + p.c, ⟨by go_num⟩, ⟨by go_num⟩, ⟨by omega, by omega⟩, HD3, ⟨by omega⟩, ⟨rfl⟩⟩
        case measure => have := HQ.out; omega
      · obtain rfl : i = L.length := by omega
        obtain rfl : a = m.c := by
          have e1 := HCH.out
          rw [List.drop_length] at e1
          exact e1
        have r5 := HRA.out.cell C5.out
        have r11 := HRA.out.cell C11.out
        have hll := HLL.out
        have hsn := HSN.out
        go_wp2_with (first | (go_at_call 6; refine (num_call _ _).mono ?_; rintro e W4 ⟨rfl, rfl⟩) | fail)
        all_goals go_ret
        all_goals refine ⟨ret_bool ?_, HB2.out⟩
        all_goals first
          | rfl
          | (exfalso; omega)
          | (simp; omega)
  have HB1 := Aside0.mk (Go.Proofs.YtpmbfibjldnaiaaGreatDoorW.PrintWords.below_step HZ.out b1)
  have HN1 := Aside0.mk (HRW.out.below b1)
  clear b1
  generalize checkRes m = q at *
  have HC := Aside0.mk hc
  go_wp2_with ((with_reducible refine gateL (.load 36 (.tmp 1)) rfl ?_); refine wpList_load_row rfl 36 (.tmp 1) rfl w.heap.size rfl 36 cs (0, 0) _ HN1.out.at_ Tryz.underlying36 rfl HIN.out ?_)
  refine (HAN.out _ HB1.out).mono ?_
  rintro e W2 ⟨rfl, b2⟩
  have HB2 := Aside0.mk (Go.Proofs.YtpmbfibjldnaiaaGreatDoorW.PrintWords.below_step HB1.out b2)
  have HRA := Aside0.mk (HN1.out.below b2)
  clear b2
  go_wp2_with fail
  refine (num_call _ _).mono ?_
  rintro e W3 ⟨rfl, rfl⟩
  go_wp2_with fail
  refine start_ (n := 12) (S := fun w' => RowAt w' w.heap.size cs) (ds := []) #[false, false, false, false, false, false, false, false, false, false, false, false] (by kernel_rfl) rfl rfl HRA.out.drew (fun hHeld => ?_)
  refine pure_ (i := 0) (N := some 16) (v := ?_) (a' := ?_) #[true, false, false, false, false, false, false, false, false, false, false, false] rfl rfl (by kernel_rfl) (fun _ _ _ h => h) (Or.inl ⟨by rfl, ?_⟩) ?_ ?_
  rotate_left
  · intro w'
    go_simp
    with_reducible rfl
  rotate_left
  · simp only [Act.put, List.setIfInBounds_toArray, List.set_cons_zero, List.set_cons_succ]
    rfl
  refine take_ (i := 2) (N := some 18) (v := ?_) (a' := ?_) #[true, false, true, false, false, false, false, false, false, false, false, false] rfl rfl (by kernel_rfl) (fun _ _ _ h => h) (Or.inl ⟨by rfl, ?_⟩) hHeld ?_ ?_
  rotate_left
  · intro w' hS
    refine load36_exec (.tmp 1) ?_ hS ?_
    · rfl
    · rfl
  rotate_left
  · simp only [Act.put, List.setIfInBounds_toArray, List.set_cons_zero, List.set_cons_succ]
    rfl
  refine one_ (i := 1) (N := some 17) #[true, true, true, false, false, false, false, false, false, false, false, false] rfl rfl (by kernel_rfl) (by decide) (fun K hK => ?_)
  refine call_ 6 #[.int .i64 q] (by rfl) rfl (by go_simp) ?_
  refine (num_call _ _).mono ?_
  rintro e X1 ⟨rfl, rfl⟩
  refine ⟨_, rfl, hK.out _ _ hHeld (fun hHeld1 => ?_)⟩
  clear hK K
  refine norm_ (a' := ?_) ?_ ?_
  rotate_left
  · show Act.put _ (some 17) _ = _
    simp only [Act.put, List.setIfInBounds_toArray, List.set_cons_zero, List.set_cons_succ]
    rfl
  refine one_ (i := 3) (N := some 19) #[true, true, true, true, false, false, false, false, false, false, false, false] rfl rfl (by kernel_rfl) (by decide) (fun K hK => ?_)
  refine call_ 7 #[.agg cs] (by rfl) rfl (by go_simp) ?_
  refine (HAN.out _ HB2.out.drew).mono ?_
  rintro e X2 ⟨rfl, b3⟩
  have HB3 := Aside0.mk (Go.Proofs.YtpmbfibjldnaiaaGreatDoorW.PrintWords.below_step HB2.out.drew b3)
  refine ⟨_, rfl, hK.out _ _ (hHeld1.below b3) (fun hHeld2 => ?_)⟩
  clear hK K b3
  refine norm_ (a' := ?_) ?_ ?_
  rotate_left
  · show Act.put _ (some 19) _ = _
    simp only [Act.put, List.setIfInBounds_toArray, List.set_cons_zero, List.set_cons_succ]
    rfl
  refine one_ (i := 4) (N := some 20) #[true, true, true, true, true, false, false, false, false, false, false, false] rfl rfl (by kernel_rfl) (by decide) (fun K hK => ?_)
  refine call_ 6 #[.int .i64 q] (by rfl) rfl (by go_simp) ?_
  refine (num_call _ _).mono ?_
  rintro e X3 ⟨rfl, rfl⟩
  refine ⟨_, rfl, hK.out _ _ hHeld2 (fun hHeld3 => ?_)⟩
  clear hK K
  refine norm_ (a' := ?_) ?_ ?_
  rotate_left
  · show Act.put _ (some 20) _ = _
    simp only [Act.put, List.setIfInBounds_toArray, List.set_cons_zero, List.set_cons_succ]
    rfl
  refine pure_ (i := 5) (N := some 21) (v := ?_) (a' := ?_) #[true, true, true, true, true, true, false, false, false, false, false, false] rfl rfl (by kernel_rfl) (fun _ _ _ h => h) (Or.inl ⟨by rfl, ?_⟩) ?_ ?_
  rotate_left
  · intro w'
    go_simp
    with_reducible rfl
  rotate_left
  · simp only [Act.put, List.setIfInBounds_toArray, List.set_cons_zero, List.set_cons_succ]
    rfl
  refine pure_ (i := 6) (N := some 22) (v := ?_) (a' := ?_) #[true, true, true, true, true, true, true, false, false, false, false, false] rfl rfl (by kernel_rfl) (fun _ _ _ h => h) (Or.inl ⟨by rfl, ?_⟩) ?_ ?_
  rotate_left
  · intro w'
    go_simp
    with_reducible rfl
  rotate_left
  · simp only [Act.put, List.setIfInBounds_toArray, List.set_cons_zero, List.set_cons_succ]
    rfl
  refine pure_ (i := 7) (N := some 23) (v := ?_) (a' := ?_) #[true, true, true, true, true, true, true, true, false, false, false, false] rfl rfl (by kernel_rfl) (fun _ _ _ h => h) (Or.inl ⟨by rfl, ?_⟩) ?_ ?_
  rotate_left
  · intro w'
    go_simp
    with_reducible rfl
  rotate_left
  · simp only [Act.put, List.setIfInBounds_toArray, List.set_cons_zero, List.set_cons_succ]
    rfl
  refine pure_ (i := 8) (N := some 24) (v := ?_) (a' := ?_) #[true, true, true, true, true, true, true, true, true, false, false, false] rfl rfl (by kernel_rfl) (fun _ _ _ h => h) (Or.inl ⟨by rfl, ?_⟩) ?_ ?_
  rotate_left
  · intro w'
    go_simp
    with_reducible rfl
  rotate_left
  · simp only [Act.put, List.setIfInBounds_toArray, List.set_cons_zero, List.set_cons_succ]
    rfl
  refine pure_ (i := 9) (N := some 25) (v := ?_) (a' := ?_) #[true, true, true, true, true, true, true, true, true, true, false, false] rfl rfl (by kernel_rfl) (fun _ _ _ h => h) (Or.inl ⟨by rfl, ?_⟩) ?_ ?_
  rotate_left
  · intro w'
    go_simp
    with_reducible rfl
  rotate_left
  · simp only [Act.put, List.setIfInBounds_toArray, List.set_cons_zero, List.set_cons_succ]
    rfl
  refine pure_ (i := 10) (N := some 26) (v := ?_) (a' := ?_) #[true, true, true, true, true, true, true, true, true, true, true, false] rfl rfl (by kernel_rfl) (fun _ _ _ h => h) (Or.inl ⟨by rfl, ?_⟩) ?_ ?_
  rotate_left
  · intro w'
    go_simp
    with_reducible rfl
  rotate_left
  · simp only [Act.put, List.setIfInBounds_toArray, List.set_cons_zero, List.set_cons_succ]
    rfl
  refine pure_ (i := 11) (N := some 2) (v := ?_) (a' := ?_) #[true, true, true, true, true, true, true, true, true, true, true, true] rfl rfl (by kernel_rfl) (fun _ _ _ h => h) (Or.inl ⟨by rfl, ?_⟩) ?_ ?_
  rotate_left
  · intro w'
    go_simp
    with_reducible rfl
  rotate_left
  · simp only [Act.put, List.setIfInBounds_toArray, List.set_cons_zero, List.set_cons_succ]
    rfl
  refine done_ (by kernel_rfl) ?_
  go_wp2_with fail
  go_ret
  exact ⟨rfl, HB3.out⟩
end Go.Proofs.YtpmbfibjldnaiaaGreatDoor.lawc
/-! ## TabZ -/
namespace Go.Proofs.YtpmbfibjldnaiaaGreatDoor.tabz
open Go Go.RowKit Go.Proofs.YtpmbfibjldnaiaaGreatDoor.kindsc Go.Proofs.YtpmbfibjldnaiaaGreatDoor.shapea Go.Proofs.YtpmbfibjldnaiaaGreatDoor.tokb Go.Proofs.YtpmbfibjldnaiaaGreatDoor.metab
set_option linter.unusedVariables false
set_option linter.unusedSimpArgs false
theorem g0 : Tryz.prog.globalNamed "coffer/ledger.units" = some 0 := by kernel_rfl
theorem g1 : Tryz.prog.globalNamed "coffer/tweak.sizes" = some 1 := by kernel_rfl
theorem y0 : (Tryz.prog.globals[0]?).map (·.type) = some 84 := by kernel_rfl
theorem y1 : (Tryz.prog.globals[1]?).map (·.type) = some 155 := by kernel_rfl
theorem c3 : Tryz.prog.cellsOf 3 = 1 := by kernel_rfl
theorem c84 : Tryz.prog.cellsOf 84 = 4 := by kernel_rfl
theorem c156 : Tryz.prog.cellsOf 156 = 2 := by kernel_rfl
theorem c9 : Tryz.prog.cellsOf 9 = 1 := by kernel_rfl
theorem units_of {W : World} (h : Lib.VarReads Tryz.prog W "coffer/ledger.units" Rows.laid_coffer_ledger_units) : UnitsAt W := by
  obtain ⟨g, t, cs, fuel, p, hg, hty, hvar, hd⟩ := h
  obtain rfl := Option.some.inj (g0.symm.trans hg)
  obtain rfl := Option.some.inj (y0.symm.trans hty)
  have hcs := Lib.cells_of_tab (zs := [512, 1024, 2048, 4096]) Tryz.underlying84 Tryz.underlying3 c3 c84 hd
  have hat : ∀ i (n : Int), [(512 : Int), 1024, 2048, 4096][i]? = some n → W.cell? ⟨0, i, none⟩ = some (.int .i64 n) := fun i n hn => by
    rw [World.var?_cell hg hvar i, ← Array.getElem?_toList, hcs, List.getElem?_map, hn]
    rfl
  exact ⟨hat, World.block_lt_of_cell? W _ (hat 0 _ rfl)⟩
theorem two_of {α : Type} : ∀ {l : List α}, l.length = 2 → ∃ c d, l = [c, d]
  | [c, d], _ => ⟨c, d, rfl⟩
  | [], h => by simp at h
  | [_], h => by simp at h
  | _ :: _ :: _ :: _, h => by simp at h
set_option maxRecDepth 100000 in
theorem pair_cells {W : World} {m : Nat} {ce : List Value} {s : List UInt8} {n : Int} {q : List MemPlace}
    (h : DataW.trod (fun _ => ()) Tryz.prog W 0 (fun _ => true) false m 156 ce = some (.agg [.lit (.string s), .lit (.int .i64 n)], q)) : ce = [.string ⟨s.toArray⟩, .int .i64 n] := by
  obtain ⟨xs, n', rfl, hx, hl, hxl, hall⟩ := DataW.trod_struct Tryz.underlying156 h
  have hxs : xs.map (·.1) = [.lit (.string s), .lit (.int .i64 n)] := by
    have := congrArg Prod.fst hx
    simpa using this.symm
  rw [c156] at hl
  match xs, hxs with
  | [a, b], hxs =>
    have h0 := hall 0 _ rfl
    have h1 := hall 1 _ rfl
    simp only [c9, c3, List.getElem?_cons_zero, List.getElem?_cons_succ] at h0 h1
    obtain ⟨z, hz, ez, _⟩ := DataW.trod_string Tryz.underlying9 h0
    obtain ⟨k, hk, ek, _⟩ := DataW.trod_int Tryz.underlying3 h1
    simp only [List.map_cons, List.map_nil, List.cons.injEq, and_true] at hxs
    rw [ez, ek] at hxs
    simp only [DataW.lit.injEq, Lit.string.injEq, Lit.int.injEq, true_and] at hxs
    obtain ⟨c, d, rfl⟩ := two_of hl
    have hz' : c = .string z := (List.cons.inj (show [c] = [.string z] from hz)).1
    have hk' : d = .int .i64 k := (List.cons.inj (show [d] = [.int .i64 k] from hk)).1
    rw [hz', hk', hxs.2, ← hxs.1]
theorem sizes_of {W : World} (h : Lib.VarReads Tryz.prog W "coffer/tweak.sizes" Rows.laid_coffer_tweak_sizes) : ∃ gs o, SizesAt W gs o := by
  obtain ⟨g, t, cs, fuel, p, hg, hty, hvar, hd⟩ := h
  obtain rfl := Option.some.inj (g1.symm.trans hg)
  obtain rfl := Option.some.inj (y1.symm.trans hty)
  rcases DataW.trod_slice Tryz.underlying155 hd with ⟨_, hx⟩ | ⟨a, len, cap, el, rs, m, rfl, hcs, hx, _, hlc, _, hel, helem, hsp, _⟩
  · cases hx
  have e0 := congrArg Prod.fst hx
  have eE : sizesL.map (fun s => (DataW.agg [.lit (.string s.1), .lit (.int .i64 (s.2 : Int))] : DataW Unit)) = el.map (·.1) := (DataW.slice.inj e0).1
  have hlen : len = 3 := by
    have := congrArg List.length eE
    simp [sizesL] at this
    omega
  have hcell : ∀ i (s : List UInt8 × Nat), sizesL[i]? = some s → W.cell? (a.add (i * 2)) = some (.string ⟨s.1.toArray⟩) ∧ W.cell? ((a.add (i * 2)).add 1) = some (.int .i64 (s.2 : Int)) := by
    intro i s hs
    have hi : i < 3 := (List.getElem?_eq_some_iff.1 hs).1
    have h1 := helem i (by omega)
    rw [c156] at h1
    obtain ⟨b, hb⟩ : ∃ b, el[i]? = some b := ⟨el[i]'(by omega), List.getElem?_eq_getElem (by omega)⟩
    rw [hb] at h1
    obtain ⟨ce, hce, hte⟩ := Option.bind_eq_some_iff.1 h1
    have hb1 : b.1 = .agg [.lit (.string s.1), .lit (.int .i64 (s.2 : Int))] := by
      have := congrArg (·[i]?) eE
      simp only [List.getElem?_map, hb, hs, Option.map_some, Option.some.injEq] at this
      exact this.symm
    obtain ⟨b1, b2⟩ := b
    simp only at hb1
    subst hb1
    have hcc := pair_cells hte
    obtain ⟨_, _, hc⟩ := World.cells?_some hce
    have q0 := hc 0 (by omega)
    have q1 := hc 1 (by omega)
    rw [hcc] at q0 q1
    have e1 : (a.add (i * 2)).add 0 = a.add (i * 2) := by simp [Addr.add]
    rw [e1] at q0
    exact ⟨q0, q1⟩
  obtain ⟨R, o, sR⟩ := a
  obtain rfl : sR = none := by
    have h00 := (hcell 0 _ rfl).1
    have : (Addr.add ⟨R, o, sR⟩ 0) = ⟨R, o, sR⟩ := by simp [Addr.add]
    rw [Nat.zero_mul, this] at h00
    exact Go.Proofs.cell_spot h00
  have hat : ∀ i (s : List UInt8 × Nat), sizesL[i]? = some s → W.cell? ⟨R, o + i * 2, none⟩ = some (.string ⟨s.1.toArray⟩) ∧ W.cell? ⟨R, o + i * 2 + 1, none⟩ = some (.int .i64 (s.2 : Int)) := fun i s hs => by
    have := hcell i s hs
    rw [Addr.add_lit, Addr.add_lit] at this
    exact this
  have hsl : W.cell? ⟨1, 0, none⟩ = some (.slice (some ⟨R, o, none⟩) 3 cap) := by
    rw [World.var?_cell hg hvar 0, ← Array.getElem?_toList, hcs, hlen]
    rfl
  exact ⟨R, o, ⟨cap, hsl⟩, hat, World.block_lt_of_cell? W _ hsl, World.block_lt_of_cell? W _ (hat 0 _ rfl).1⟩
theorem extra : U8Extra Tryz.prog Tryz.laysValid_ren := ⟨by kernel_rfl, by kernel_rfl, by kernel_rfl, by kernel_rfl, by kernel_rfl, by kernel_rfl, by kernel_rfl⟩
theorem u8_of {W : World} (h1 : Lib.VarReads Tryz.prog W "unicode/utf8.first" Rows.laid_unicode_utf8_first) (h2 : Lib.VarReads Tryz.prog W "unicode/utf8.acceptRanges" Rows.laid_unicode_utf8_acceptRanges) : U8At W := by
  have e1 : (Rows.laid_unicode_utf8_first : DataW Unit) = Lib.firstData := by kernel_rfl
  have e2 : (Rows.laid_unicode_utf8_acceptRanges : DataW Unit) = Lib.acceptData := by kernel_rfl
  rw [e1] at h1
  rw [e2] at h2
  exact utf8Tabs_of_readsT (U8Types.of196 Tryz.laysValid) extra h1 h2
theorem tabs_of {W : World} {l : List (String × DataW Unit)} (h : laidMet Tryz.prog l W) (m1 : ("coffer/ledger.units", Rows.laid_coffer_ledger_units) ∈ l) (m2 : ("coffer/tweak.sizes", Rows.laid_coffer_tweak_sizes) ∈ l) (m3 : ("unicode/utf8.first", Rows.laid_unicode_utf8_first) ∈ l) (m4 : ("unicode/utf8.acceptRanges", Rows.laid_unicode_utf8_acceptRanges) ∈ l) : ∃ gs o, TabsAt W gs o := by
  obtain ⟨gs, o, hs⟩ := sizes_of (Lib.laidMet.reads h m2)
  exact ⟨gs, o, units_of (Lib.laidMet.reads h m1), hs, u8_of (Lib.laidMet.reads h m3) (Lib.laidMet.reads h m4)⟩
end Go.Proofs.YtpmbfibjldnaiaaGreatDoor.tabz
