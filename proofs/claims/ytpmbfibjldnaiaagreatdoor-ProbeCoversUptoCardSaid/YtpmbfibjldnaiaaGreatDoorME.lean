/- What may be of a rotation. (Written by grot.py.) (Merged by merge.py.) -/
import Derived.Test.YtpmbfibjldnaiaaGreatDoorMD
import Derived.Test.YtpmbfibjldnaiaaGreatDoorWEqStruct
/-! ## RotA -/
namespace Go.Proofs.YtpmbfibjldnaiaaGreatDoor.rota
open Go Go.RowKit Go.Proofs.YtpmbfibjldnaiaaGreatDoor.kindsc Go.Proofs.YtpmbfibjldnaiaaGreatDoor.kindsd Go.Proofs.YtpmbfibjldnaiaaGreatDoor.shapea Go.Proofs.YtpmbfibjldnaiaaGreatDoor.risea Go.Proofs.YtpmbfibjldnaiaaGreatDoor.slotsa Go.Proofs.YtpmbfibjldnaiaaGreatDoor.PProbeSpots Go.Proofs.YtpmbfibjldnaiaaGreatDoorW.PrintWords
set_option linter.unusedVariables false
set_option linter.unusedSimpArgs false
/-- A rotation, but for whether it is on. -/
structure RotV where
  fr : Int
  nx : Int
  back : Bool
  mode : Int
  hot : Int
  dn : Int
  off : Int
  size : Int
  act : Bool
  cnt : Int
  sum : ByteArray
theorem eqA31 (d : Nat) (w : World) (x0 y0 x1 y1 : Int) :
    (Op.equalIn (d + 2) 31 (.agg #[.int .i64 x0, .int .i64 x1]) (.agg #[.int .i64 y0, .int .i64 y1])).run Tryz.prog w = .ok (x0 == y0 && x1 == y1) w := by
  refine eqA_of Tryz.underlying31 (by kernel_rfl) ?_
  refine eqf_cons (by rfl) (by go_simp; rfl) (by go_simp; rfl) (by go_simp) ?_
  exact eqf_last (by rfl) (by go_simp; rfl) (by go_simp; rfl) (by go_simp)
def rotZ (on : Bool) (r : RotV) : Bool := (on == false) && ((r.fr == 0) && ((r.nx == 0) && ((r.back == false) && ((r.mode == 0) && ((r.hot == 0) && ((r.dn == 0) && ((r.off == 0 && r.size == 0) && ((r.act == false) && ((r.cnt == 0) && (r.sum.toList == (⟨#[]⟩ : ByteArray).toList))))))))))
theorem eqA33 (d : Nat) (w : World) (on : Bool) (r : RotV) :
    (Op.equalIn (d + 4) 33 (.agg #[.bool on, .int .u64 r.fr, .int .u64 r.nx, .bool r.back, .int .i64 r.mode, .int .u64 r.hot, .int .u64 r.dn, .int .i64 r.off, .int .i64 r.size, .bool r.act, .int .u64 r.cnt, .string r.sum]) (.agg #[.bool false, .int .u64 0, .int .u64 0, .bool false, .int .i64 0, .int .u64 0, .int .u64 0, .int .i64 0, .int .i64 0, .bool false, .int .u64 0, .string ⟨#[]⟩])).run Tryz.prog w = .ok (rotZ on r) w := by
  refine eqA_of Tryz.underlying33 (by kernel_rfl) ?_
  refine eqf_cons (by rfl) (by go_simp; rfl) (by go_simp; rfl) (by go_simp) ?_
  refine eqf_cons (by rfl) (by go_simp; rfl) (by go_simp; rfl) (by go_simp) ?_
  refine eqf_cons (by rfl) (by go_simp; rfl) (by go_simp; rfl) (by go_simp) ?_
  refine eqf_cons (by rfl) (by go_simp; rfl) (by go_simp; rfl) (by go_simp) ?_
  refine eqf_cons (by rfl) (by go_simp; rfl) (by go_simp; rfl) (by go_simp) ?_
  refine eqf_cons (by rfl) (by go_simp; rfl) (by go_simp; rfl) (by go_simp) ?_
  refine eqf_cons (by rfl) (by go_simp; rfl) (by go_simp; rfl) (by go_simp) ?_
  refine eqf_cons (by rfl) (by go_simp) (by go_simp) (eqA31 _ w _ _ _ _) ?_
  refine eqf_cons (by rfl) (by go_simp; rfl) (by go_simp; rfl) (by go_simp) ?_
  refine eqf_cons (by rfl) (by go_simp; rfl) (by go_simp; rfl) (by go_simp) ?_
  exact eqf_last (by rfl) (by go_simp; rfl) (by go_simp; rfl) (by go_simp)
/-- A step in the midst; none. -/
def rotAct (n : Int) (r : RotV) : Bool := decide (r.dn < n ∧ ((r.hot ≤ n - r.dn ∧ r.cnt = r.hot) ∨ (n - r.dn < r.hot ∧ r.cnt = n - r.dn))) && ((r.sum.size : Int) == 32)
def rotIdle (r : RotV) : Bool := decide (r.cnt = 0) && r.sum.toList.isEmpty
/-- A rotation that may be, over n sectors, from one epoch to another. -/
def rotOn (n e0 e1 : Int) (r : RotV) : Bool := decide (r.fr = e0 ∧ r.nx = e1 ∧ (r.mode = 1 ∨ r.mode = 2) ∧ 1 ≤ r.hot ∧ r.hot ≤ 4096 ∧ r.dn ≤ n) && (if r.act then rotAct n r else rotIdle r)
theorem rot_bad {n e0 e1 : Int} {r : RotV} (h : ¬ (r.fr = e0 ∧ r.nx = e1 ∧ (r.mode = 1 ∨ r.mode = 2) ∧ 1 ≤ r.hot ∧ r.hot ≤ 4096 ∧ r.dn ≤ n)) : false = rotOn n e0 e1 r := by
  unfold rotOn; rw [decide_eq_false h]; rfl
theorem rot_idle {n e0 e1 : Int} {r : RotV} (h : r.fr = e0 ∧ r.nx = e1 ∧ (r.mode = 1 ∨ r.mode = 2) ∧ 1 ≤ r.hot ∧ r.hot ≤ 4096 ∧ r.dn ≤ n) (ha : (!r.act) = true) (hc : r.cnt = 0) : r.sum.toList.isEmpty = rotOn n e0 e1 r := by
  have ha' : r.act = false := by simpa using ha
  unfold rotOn rotIdle; rw [decide_eq_true h, decide_eq_true hc, ha']; simp
theorem rot_idle_no {n e0 e1 : Int} {r : RotV} (ha : (!r.act) = true) (hc : ¬ r.cnt = 0) : false = rotOn n e0 e1 r := by
  have ha' : r.act = false := by simpa using ha
  unfold rotOn rotIdle; rw [decide_eq_false hc, ha']; simp
theorem rot_act {n e0 e1 : Int} {r : RotV} (h : r.fr = e0 ∧ r.nx = e1 ∧ (r.mode = 1 ∨ r.mode = 2) ∧ 1 ≤ r.hot ∧ r.hot ≤ 4096 ∧ r.dn ≤ n) (ha : (!r.act) = false) (hc : r.dn < n ∧ ((r.hot ≤ n - r.dn ∧ r.cnt = r.hot) ∨ (n - r.dn < r.hot ∧ r.cnt = n - r.dn))) : ((r.sum.size : Int) == 32) = rotOn n e0 e1 r := by
  have ha' : r.act = true := by simpa using ha
  unfold rotOn rotAct; rw [decide_eq_true h, decide_eq_true hc, ha']; simp
theorem rot_act_no {n e0 e1 : Int} {r : RotV} (ha : (!r.act) = false) (hc : ¬ (r.dn < n ∧ ((r.hot ≤ n - r.dn ∧ r.cnt = r.hot) ∨ (n - r.dn < r.hot ∧ r.cnt = n - r.dn)))) : false = rotOn n e0 e1 r := by
  have ha' : r.act = true := by simpa using ha
  unfold rotOn rotAct; rw [decide_eq_false hc, ha']; simp
theorem ret_bool {a b : Bool} (h : a = b) : Ending.returned (.bool a) = Ending.returned (.bool b) := by rw [h]
section
attribute [local go_sem high] eqA33
set_option maxHeartbeats 4000000 in
set_option maxRecDepth 100000 in
theorem rotation_off (v0 v1 v2 v3 v8 v9 v10 v11 v13 v26 : Value) (u c h k : Int) (B : Option Addr) (cB : Nat) (eps : List S91) (r : RotV) (w : World) :
    Calls Tryz.prog 28 #[.agg #[v0, v1, v2, v3, .int .i64 u, .int .u64 c, .int .i64 h, .int .i64 k, v8, v9, v10, v11, .slice B eps.length cB, v13, .bool false, .int .u64 r.fr, .int .u64 r.nx, .bool r.back, .int .i64 r.mode, .int .u64 r.hot, .int .u64 r.dn, .int .i64 r.off, .int .i64 r.size, .bool r.act, .int .u64 r.cnt, .string r.sum, v26]] w fun e w' => e = .returned (.bool (rotZ false r)) ∧ Below w.heap.size w w' := by
  go_enter Tryz.func28, Tryz.ntmps28
  go_wp2_with fail
  go_ret
  exact ⟨rfl, by repeat (first | exact b_alloc _ _ | exact (b_alloc w _).alloc (Nat.le_of_lt (by simp)) _ | apply below_dn)⟩
end
set_option maxHeartbeats 4000000 in
set_option maxRecDepth 100000 in
theorem rotation_on (v0 v1 v2 v3 v8 v9 v10 v11 v13 v26 : Value) (u c h k : Int) (B : Option Addr) (cB : Nat) (eps : List S91) (r : RotV) (w : World) (hR : Kd.C k91 w B eps.length eps) (hl : eps.length = 2) (hc : 0 ≤ c) (hU : UnitsAt w) (b1 : 0 ≤ r.fr) (b2 : 0 ≤ r.nx) (b3 : 0 ≤ r.hot) (b4 : 0 ≤ r.dn) (b5 : 0 ≤ r.cnt) (hn0 : 0 ≤ (secsRes u c h k).1) (hn1 : (secsRes u c h k).1 ≤ 4294967296) :
    Calls Tryz.prog 28 #[.agg #[v0, v1, v2, v3, .int .i64 u, .int .u64 c, .int .i64 h, .int .i64 k, v8, v9, v10, v11, .slice B eps.length cB, v13, .bool true, .int .u64 r.fr, .int .u64 r.nx, .bool r.back, .int .i64 r.mode, .int .u64 r.hot, .int .u64 r.dn, .int .i64 r.off, .int .i64 r.size, .bool r.act, .int .u64 r.cnt, .string r.sum, v26]] w fun e w' => e = .returned (.bool (rotOn (secsRes u c h k).1 (rd_T91 eps 0).f0 (rd_T91 eps 1).f0 r)) ∧ Below w.heap.size w w' := by
  have hz : Below w.heap.size w (w.alloc (.cells #[v0, v1, v2, v3, .int .i64 u, .int .u64 c, .int .i64 h, .int .i64 k, v8, v9, v10, v11, .slice B eps.length cB, v13, .bool true, .int .u64 r.fr, .int .u64 r.nx, .bool r.back, .int .i64 r.mode, .int .u64 r.hot, .int .u64 r.dn, .int .i64 r.off, .int .i64 r.size, .bool r.act, .int .u64 r.cnt, .string r.sum, v26] 36)) := b_alloc w _
  have hz2 : Below w.heap.size w ((w.alloc (.cells #[v0, v1, v2, v3, .int .i64 u, .int .u64 c, .int .i64 h, .int .i64 k, v8, v9, v10, v11, .slice B eps.length cB, v13, .bool true, .int .u64 r.fr, .int .u64 r.nx, .bool r.back, .int .i64 r.mode, .int .u64 r.hot, .int .u64 r.dn, .int .i64 r.off, .int .i64 r.size, .bool r.act, .int .u64 r.cnt, .string r.sum, v26] 36)).alloc (.cells #[.bool true, .int .u64 r.fr, .int .u64 r.nx, .bool r.back, .int .i64 r.mode, .int .u64 r.hot, .int .u64 r.dn, .int .i64 r.off, .int .i64 r.size, .bool r.act, .int .u64 r.cnt, .string r.sum] 33)) := hz.alloc hz.size _
  have HZ := Aside0.mk hz
  have HZ2 := Aside0.mk hz2
  have hS := sectors_call u c h k hc _ (hU.later hz2)
  have hnm := blk_new w (.cells #[v0, v1, v2, v3, .int .i64 u, .int .u64 c, .int .i64 h, .int .i64 k, v8, v9, v10, v11, .slice B eps.length cB, v13, .bool true, .int .u64 r.fr, .int .u64 r.nx, .bool r.back, .int .i64 r.mode, .int .u64 r.hot, .int .u64 r.dn, .int .i64 r.off, .int .i64 r.size, .bool r.act, .int .u64 r.cnt, .string r.sum, v26] 36)
  have hnr := blk_new (w.alloc (.cells #[v0, v1, v2, v3, .int .i64 u, .int .u64 c, .int .i64 h, .int .i64 k, v8, v9, v10, v11, .slice B eps.length cB, v13, .bool true, .int .u64 r.fr, .int .u64 r.nx, .bool r.back, .int .i64 r.mode, .int .u64 r.hot, .int .u64 r.dn, .int .i64 r.off, .int .i64 r.size, .bool r.act, .int .u64 r.cnt, .string r.sum, v26] 36)) (.cells #[.bool true, .int .u64 r.fr, .int .u64 r.nx, .bool r.back, .int .i64 r.mode, .int .u64 r.hot, .int .u64 r.dn, .int .i64 r.off, .int .i64 r.size, .bool r.act, .int .u64 r.cnt, .string r.sum] 33)
  have HB1_ : ∀ {W1 : World}, Below ((w.alloc (.cells #[v0, v1, v2, v3, .int .i64 u, .int .u64 c, .int .i64 h, .int .i64 k, v8, v9, v10, v11, .slice B eps.length cB, v13, .bool true, .int .u64 r.fr, .int .u64 r.nx, .bool r.back, .int .i64 r.mode, .int .u64 r.hot, .int .u64 r.dn, .int .i64 r.off, .int .i64 r.size, .bool r.act, .int .u64 r.cnt, .string r.sum, v26] 36)).alloc (.cells #[.bool true, .int .u64 r.fr, .int .u64 r.nx, .bool r.back, .int .i64 r.mode, .int .u64 r.hot, .int .u64 r.dn, .int .i64 r.off, .int .i64 r.size, .bool r.act, .int .u64 r.cnt, .string r.sum] 33)).heap.size ((w.alloc (.cells #[v0, v1, v2, v3, .int .i64 u, .int .u64 c, .int .i64 h, .int .i64 k, v8, v9, v10, v11, .slice B eps.length cB, v13, .bool true, .int .u64 r.fr, .int .u64 r.nx, .bool r.back, .int .i64 r.mode, .int .u64 r.hot, .int .u64 r.dn, .int .i64 r.off, .int .i64 r.size, .bool r.act, .int .u64 r.cnt, .string r.sum, v26] 36)).alloc (.cells #[.bool true, .int .u64 r.fr, .int .u64 r.nx, .bool r.back, .int .i64 r.mode, .int .u64 r.hot, .int .u64 r.dn, .int .i64 r.off, .int .i64 r.size, .bool r.act, .int .u64 r.cnt, .string r.sum] 33)) W1 → Below w.heap.size w W1 := fun h => hz2.trans (h.mono hz2.size)
  have HS := Aside0.mk hS
  have hnm2 := ((b_alloc (w.alloc (.cells #[v0, v1, v2, v3, .int .i64 u, .int .u64 c, .int .i64 h, .int .i64 k, v8, v9, v10, v11, .slice B eps.length cB, v13, .bool true, .int .u64 r.fr, .int .u64 r.nx, .bool r.back, .int .i64 r.mode, .int .u64 r.hot, .int .u64 r.dn, .int .i64 r.off, .int .i64 r.size, .bool r.act, .int .u64 r.cnt, .string r.sum, v26] 36)) (.cells #[.bool true, .int .u64 r.fr, .int .u64 r.nx, .bool r.back, .int .i64 r.mode, .int .u64 r.hot, .int .u64 r.dn, .int .i64 r.off, .int .i64 r.size, .bool r.act, .int .u64 r.cnt, .string r.sum] 33)).block _ (blk_lt hnm)).trans hnm
  have HNM2 := Aside0.mk hnm2
  have HNR := Aside0.mk hnr
  obtain ⟨ad, e0, a0, x1_⟩ := at_T91 hR 0 (by omega) (by omega)
  obtain ⟨ad2, e2, c0, x2_⟩ := at_T91 hR 1 (by omega) (by omega)
  obtain rfl : ad = ad2 := Option.some.inj (e0.symm.trans e2)
  have ea : ad.add (Int.toNat 0 * 5) = ad := by simp [Addr.add]
  rw [ea] at a0
  replace c0 : w.cell? ⟨ad.block, ad.off + 5, none⟩ = some (.int .u64 (rd_T91 eps 1).f0) := c0
  have A0 := Aside0.mk a0
  have C0 := Aside0.mk c0
  have g0 : 0 < eps.length := by omega
  have g1 : 1 < eps.length := by omega
  have gi0 : (0 : Int) < (eps.length : Int) := by omega
  have gi1 : (1 : Int) < (eps.length : Int) := by omega
  clear hz hz2 hS hR hU hnm hnm2 hnr ea a0 c0 hl e2 x1_ x2_
  cases e0
  generalize hN : secsRes u c h k = N at *
  obtain ⟨n, er⟩ := N
  dsimp only at *
  clear hN
  generalize hE0 : (rd_T91 eps 0).f0 = E0 at *
  generalize hE1 : (rd_T91 eps 1).f0 = E1 at *
  clear hE0 hE1
  by_cases h1 : r.fr = E0
  · have b1 : (r.fr != E0) = false := by simpa using h1
    have H1 := Aside0.mk h1
    clear h1
    by_cases h2 : r.nx = E1
    · have b2 : (r.nx != E1) = false := by simpa using h2
      have H2 := Aside0.mk h2
      clear h2
      by_cases h3 : r.mode = 1
      · have b3' : (r.mode != 1) = false := by simpa using h3
        have H3 := Aside0.mk h3
        clear h3
        go_enter Tryz.func28, Tryz.ntmps28
        go_wp2_with fail
        refine HS.out.mono ?_
        rintro e W1 ⟨rfl, hb1⟩
        have qm := (hb1.block _ (blk_lt HNM2.out)).trans HNM2.out
        have qr := (hb1.block _ (blk_lt HNR.out)).trans HNR.out
        have m12 : W1.cell? ⟨w.heap.size, 12, none⟩ = some (.slice (some ad) eps.length cB) := (blk_cell qm 12).trans rfl
        have r1 : W1.cell? ⟨w.heap.size + 1, 1, none⟩ = some (.int .u64 r.fr) := by have := (blk_cell qr 1).trans rfl; simpa using this
        have r2 : W1.cell? ⟨w.heap.size + 1, 2, none⟩ = some (.int .u64 r.nx) := by have := (blk_cell qr 2).trans rfl; simpa using this
        have r4 : W1.cell? ⟨w.heap.size + 1, 4, none⟩ = some (.int .i64 r.mode) := by have := (blk_cell qr 4).trans rfl; simpa using this
        have r5 : W1.cell? ⟨w.heap.size + 1, 5, none⟩ = some (.int .u64 r.hot) := by have := (blk_cell qr 5).trans rfl; simpa using this
        have r6 : W1.cell? ⟨w.heap.size + 1, 6, none⟩ = some (.int .u64 r.dn) := by have := (blk_cell qr 6).trans rfl; simpa using this
        have r9 : W1.cell? ⟨w.heap.size + 1, 9, none⟩ = some (.bool r.act) := by have := (blk_cell qr 9).trans rfl; simpa using this
        have r10 : W1.cell? ⟨w.heap.size + 1, 10, none⟩ = some (.int .u64 r.cnt) := by have := (blk_cell qr 10).trans rfl; simpa using this
        have r11 : W1.cell? ⟨w.heap.size + 1, 11, none⟩ = some (.string r.sum) := by have := (blk_cell qr 11).trans rfl; simpa using this
        have a0 : W1.cell? ad = some (.int .u64 E0) := (HB1_ hb1).cell (World.block_lt_of_cell? w _ A0.out) |>.trans A0.out
        have c0 : W1.cell? ⟨ad.block, ad.off + 5, none⟩ = some (.int .u64 E1) := (HB1_ hb1).cell (World.block_lt_of_cell? w _ C0.out) |>.trans C0.out
        have HBW := Aside0.mk (HB1_ hb1)
        clear hb1 qm qr
        go_wp2_with fail
        go_quiet (fail)
        go_wp2_with fail
        all_goals go_ret
        all_goals refine ⟨ret_bool ?_, by repeat (first | exact HBW.out | apply below_dn)⟩
        all_goals (have q1 := H1.out; have q2 := H2.out; have q3 := H3.out; try have q4 := H4.out)
        all_goals first
          | exact rot_bad (by omega)
          | exact rot_idle (by omega) (by assumption) (by assumption)
          | exact rot_idle_no (by assumption) (by assumption)
          | exact rot_act (by omega) (by assumption) (by omega)
          | exact rot_act_no (by assumption) (by omega)
      · have b3' : (r.mode != 1) = true := by simpa using h3
        by_cases h4 : r.mode = 2
        · have b4' : (r.mode != 2) = false := by simpa using h4
          have H3 := Aside0.mk h3
          have H4 := Aside0.mk h4
          clear h3 h4
          go_enter Tryz.func28, Tryz.ntmps28
          go_wp2_with fail
          refine HS.out.mono ?_
          rintro e W1 ⟨rfl, hb1⟩
          have qm := (hb1.block _ (blk_lt HNM2.out)).trans HNM2.out
          have qr := (hb1.block _ (blk_lt HNR.out)).trans HNR.out
          have m12 : W1.cell? ⟨w.heap.size, 12, none⟩ = some (.slice (some ad) eps.length cB) := (blk_cell qm 12).trans rfl
          have r1 : W1.cell? ⟨w.heap.size + 1, 1, none⟩ = some (.int .u64 r.fr) := by have := (blk_cell qr 1).trans rfl; simpa using this
          have r2 : W1.cell? ⟨w.heap.size + 1, 2, none⟩ = some (.int .u64 r.nx) := by have := (blk_cell qr 2).trans rfl; simpa using this
          have r4 : W1.cell? ⟨w.heap.size + 1, 4, none⟩ = some (.int .i64 r.mode) := by have := (blk_cell qr 4).trans rfl; simpa using this
          have r5 : W1.cell? ⟨w.heap.size + 1, 5, none⟩ = some (.int .u64 r.hot) := by have := (blk_cell qr 5).trans rfl; simpa using this
          have r6 : W1.cell? ⟨w.heap.size + 1, 6, none⟩ = some (.int .u64 r.dn) := by have := (blk_cell qr 6).trans rfl; simpa using this
          have r9 : W1.cell? ⟨w.heap.size + 1, 9, none⟩ = some (.bool r.act) := by have := (blk_cell qr 9).trans rfl; simpa using this
          have r10 : W1.cell? ⟨w.heap.size + 1, 10, none⟩ = some (.int .u64 r.cnt) := by have := (blk_cell qr 10).trans rfl; simpa using this
          have r11 : W1.cell? ⟨w.heap.size + 1, 11, none⟩ = some (.string r.sum) := by have := (blk_cell qr 11).trans rfl; simpa using this
          have a0 : W1.cell? ad = some (.int .u64 E0) := (HB1_ hb1).cell (World.block_lt_of_cell? w _ A0.out) |>.trans A0.out
          have c0 : W1.cell? ⟨ad.block, ad.off + 5, none⟩ = some (.int .u64 E1) := (HB1_ hb1).cell (World.block_lt_of_cell? w _ C0.out) |>.trans C0.out
          have HBW := Aside0.mk (HB1_ hb1)
          clear hb1 qm qr
          go_wp2_with fail
          go_quiet (fail)
          go_wp2_with fail
          all_goals go_ret
          all_goals refine ⟨ret_bool ?_, by repeat (first | exact HBW.out | apply below_dn)⟩
          all_goals (have q1 := H1.out; have q2 := H2.out; have q3 := H3.out; try have q4 := H4.out)
          all_goals first
            | exact rot_bad (by omega)
            | exact rot_idle (by omega) (by assumption) (by assumption)
            | exact rot_idle_no (by assumption) (by assumption)
            | exact rot_act (by omega) (by assumption) (by omega)
            | exact rot_act_no (by assumption) (by omega)
        · have b4' : (r.mode != 2) = true := by simpa using h4
          have H3 := Aside0.mk h3
          have H4 := Aside0.mk h4
          clear h3 h4
          go_enter Tryz.func28, Tryz.ntmps28
          go_wp2_with fail
          refine HS.out.mono ?_
          rintro e W1 ⟨rfl, hb1⟩
          have qm := (hb1.block _ (blk_lt HNM2.out)).trans HNM2.out
          have qr := (hb1.block _ (blk_lt HNR.out)).trans HNR.out
          have m12 : W1.cell? ⟨w.heap.size, 12, none⟩ = some (.slice (some ad) eps.length cB) := (blk_cell qm 12).trans rfl
          have r1 : W1.cell? ⟨w.heap.size + 1, 1, none⟩ = some (.int .u64 r.fr) := by have := (blk_cell qr 1).trans rfl; simpa using this
          have r2 : W1.cell? ⟨w.heap.size + 1, 2, none⟩ = some (.int .u64 r.nx) := by have := (blk_cell qr 2).trans rfl; simpa using this
          have r4 : W1.cell? ⟨w.heap.size + 1, 4, none⟩ = some (.int .i64 r.mode) := by have := (blk_cell qr 4).trans rfl; simpa using this
          have r5 : W1.cell? ⟨w.heap.size + 1, 5, none⟩ = some (.int .u64 r.hot) := by have := (blk_cell qr 5).trans rfl; simpa using this
          have r6 : W1.cell? ⟨w.heap.size + 1, 6, none⟩ = some (.int .u64 r.dn) := by have := (blk_cell qr 6).trans rfl; simpa using this
          have r9 : W1.cell? ⟨w.heap.size + 1, 9, none⟩ = some (.bool r.act) := by have := (blk_cell qr 9).trans rfl; simpa using this
          have r10 : W1.cell? ⟨w.heap.size + 1, 10, none⟩ = some (.int .u64 r.cnt) := by have := (blk_cell qr 10).trans rfl; simpa using this
          have r11 : W1.cell? ⟨w.heap.size + 1, 11, none⟩ = some (.string r.sum) := by have := (blk_cell qr 11).trans rfl; simpa using this
          have a0 : W1.cell? ad = some (.int .u64 E0) := (HB1_ hb1).cell (World.block_lt_of_cell? w _ A0.out) |>.trans A0.out
          have c0 : W1.cell? ⟨ad.block, ad.off + 5, none⟩ = some (.int .u64 E1) := (HB1_ hb1).cell (World.block_lt_of_cell? w _ C0.out) |>.trans C0.out
          have HBW := Aside0.mk (HB1_ hb1)
          clear hb1 qm qr
          go_wp2_with fail
          go_quiet (fail)
          go_wp2_with fail
          go_ret
          exact ⟨ret_bool (rot_bad (by have q0 := H3.out; have q1 := H4.out; omega)), by repeat (first | exact HBW.out | apply below_dn)⟩
    · have b2 : (r.nx != E1) = true := by simpa using h2
      have H2 := Aside0.mk h2
      clear h2
      go_enter Tryz.func28, Tryz.ntmps28
      go_wp2_with fail
      refine HS.out.mono ?_
      rintro e W1 ⟨rfl, hb1⟩
      have qm := (hb1.block _ (blk_lt HNM2.out)).trans HNM2.out
      have qr := (hb1.block _ (blk_lt HNR.out)).trans HNR.out
      have m12 : W1.cell? ⟨w.heap.size, 12, none⟩ = some (.slice (some ad) eps.length cB) := (blk_cell qm 12).trans rfl
      have r1 : W1.cell? ⟨w.heap.size + 1, 1, none⟩ = some (.int .u64 r.fr) := by have := (blk_cell qr 1).trans rfl; simpa using this
      have r2 : W1.cell? ⟨w.heap.size + 1, 2, none⟩ = some (.int .u64 r.nx) := by have := (blk_cell qr 2).trans rfl; simpa using this
      have r4 : W1.cell? ⟨w.heap.size + 1, 4, none⟩ = some (.int .i64 r.mode) := by have := (blk_cell qr 4).trans rfl; simpa using this
      have r5 : W1.cell? ⟨w.heap.size + 1, 5, none⟩ = some (.int .u64 r.hot) := by have := (blk_cell qr 5).trans rfl; simpa using this
      have r6 : W1.cell? ⟨w.heap.size + 1, 6, none⟩ = some (.int .u64 r.dn) := by have := (blk_cell qr 6).trans rfl; simpa using this
      have r9 : W1.cell? ⟨w.heap.size + 1, 9, none⟩ = some (.bool r.act) := by have := (blk_cell qr 9).trans rfl; simpa using this
      have r10 : W1.cell? ⟨w.heap.size + 1, 10, none⟩ = some (.int .u64 r.cnt) := by have := (blk_cell qr 10).trans rfl; simpa using this
      have r11 : W1.cell? ⟨w.heap.size + 1, 11, none⟩ = some (.string r.sum) := by have := (blk_cell qr 11).trans rfl; simpa using this
      have a0 : W1.cell? ad = some (.int .u64 E0) := (HB1_ hb1).cell (World.block_lt_of_cell? w _ A0.out) |>.trans A0.out
      have c0 : W1.cell? ⟨ad.block, ad.off + 5, none⟩ = some (.int .u64 E1) := (HB1_ hb1).cell (World.block_lt_of_cell? w _ C0.out) |>.trans C0.out
      have HBW := Aside0.mk (HB1_ hb1)
      clear hb1 qm qr
      go_wp2_with fail
      go_quiet (fail)
      go_wp2_with fail
      go_ret
      exact ⟨ret_bool (rot_bad (by have q0 := H2.out; omega)), by repeat (first | exact HBW.out | apply below_dn)⟩
  · have b1 : (r.fr != E0) = true := by simpa using h1
    have H1 := Aside0.mk h1
    clear h1
    go_enter Tryz.func28, Tryz.ntmps28
    go_wp2_with fail
    refine HS.out.mono ?_
    rintro e W1 ⟨rfl, hb1⟩
    have qm := (hb1.block _ (blk_lt HNM2.out)).trans HNM2.out
    have qr := (hb1.block _ (blk_lt HNR.out)).trans HNR.out
    have m12 : W1.cell? ⟨w.heap.size, 12, none⟩ = some (.slice (some ad) eps.length cB) := (blk_cell qm 12).trans rfl
    have r1 : W1.cell? ⟨w.heap.size + 1, 1, none⟩ = some (.int .u64 r.fr) := by have := (blk_cell qr 1).trans rfl; simpa using this
    have r2 : W1.cell? ⟨w.heap.size + 1, 2, none⟩ = some (.int .u64 r.nx) := by have := (blk_cell qr 2).trans rfl; simpa using this
    have r4 : W1.cell? ⟨w.heap.size + 1, 4, none⟩ = some (.int .i64 r.mode) := by have := (blk_cell qr 4).trans rfl; simpa using this
    have r5 : W1.cell? ⟨w.heap.size + 1, 5, none⟩ = some (.int .u64 r.hot) := by have := (blk_cell qr 5).trans rfl; simpa using this
    have r6 : W1.cell? ⟨w.heap.size + 1, 6, none⟩ = some (.int .u64 r.dn) := by have := (blk_cell qr 6).trans rfl; simpa using this
    have r9 : W1.cell? ⟨w.heap.size + 1, 9, none⟩ = some (.bool r.act) := by have := (blk_cell qr 9).trans rfl; simpa using this
    have r10 : W1.cell? ⟨w.heap.size + 1, 10, none⟩ = some (.int .u64 r.cnt) := by have := (blk_cell qr 10).trans rfl; simpa using this
    have r11 : W1.cell? ⟨w.heap.size + 1, 11, none⟩ = some (.string r.sum) := by have := (blk_cell qr 11).trans rfl; simpa using this
    have a0 : W1.cell? ad = some (.int .u64 E0) := (HB1_ hb1).cell (World.block_lt_of_cell? w _ A0.out) |>.trans A0.out
    have c0 : W1.cell? ⟨ad.block, ad.off + 5, none⟩ = some (.int .u64 E1) := (HB1_ hb1).cell (World.block_lt_of_cell? w _ C0.out) |>.trans C0.out
    have HBW := Aside0.mk (HB1_ hb1)
    clear hb1 qm qr
    go_wp2_with fail
    go_quiet (fail)
    go_wp2_with fail
    go_ret
    exact ⟨ret_bool (rot_bad (by have q0 := H1.out; omega)), by repeat (first | exact HBW.out | apply below_dn)⟩
end Go.Proofs.YtpmbfibjldnaiaaGreatDoor.rota
