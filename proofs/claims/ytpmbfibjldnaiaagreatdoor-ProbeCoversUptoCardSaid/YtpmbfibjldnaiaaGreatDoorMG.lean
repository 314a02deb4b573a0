/- What a rotation makes of the data: its segments. (Written by gsegc.py.) Two lists of segments, held against each other. (Merged by merge.py.) -/
import Derived.Test.YtpmbfibjldnaiaaGreatDoorMF
import Derived.BigRegion
/-! ## SegC -/
namespace Go.Proofs.YtpmbfibjldnaiaaGreatDoor.segc
open Go Go.RowKit Go.Proofs.YtpmbfibjldnaiaaGreatDoor.shapea Go.Proofs.YtpmbfibjldnaiaaGreatDoor.risea Go.Proofs.YtpmbfibjldnaiaaGreatDoor.slotsa Go.Proofs.YtpmbfibjldnaiaaGreatDoor.rota Go.Proofs.YtpmbfibjldnaiaaGreatDoor.sega Go.Proofs.YtpmbfibjldnaiaaGreatDoor.segb Go.Proofs.YtpmbfibjldnaiaaGreatDoor.PProbeSpots Go.Proofs.YtpmbfibjldnaiaaGreatDoorW.PrintWords
set_option linter.unusedVariables false
set_option linter.unusedSimpArgs false
theorem blk_new' (w : World) (o : Obj) (g : Nat) (h : w.heap.size = g) : (w.alloc o).heap[g]? = some o := by subst h; exact blk_new w o
set_option maxHeartbeats 4000000 in
set_option maxRecDepth 100000 in
theorem segments_off (v0 v1 v2 v3 v8 v9 v10 v11 v13 v26 : Value) (u c h k : Int) (ad : Addr) (cB : Nat) (E0 : Int) (r : RotV) (w : World) (ha : w.cell? ad = some (.int .u64 E0)) (hc : 0 ≤ c) (hU : UnitsAt w) (hs : (secsRes u c h k).2 = 0) :
    Calls Tryz.prog 31 #[.agg #[v0, v1, v2, v3, .int .i64 u, .int .u64 c, .int .i64 h, .int .i64 k, v8, v9, v10, v11, .slice (some ad) 1 cB, v13, .bool false, .int .u64 r.fr, .int .u64 r.nx, .bool r.back, .int .i64 r.mode, .int .u64 r.hot, .int .u64 r.dn, .int .i64 r.off, .int .i64 r.size, .bool r.act, .int .u64 r.cnt, .string r.sum, v26]] w (SegEnd w [⟨0, (secsRes u c h k).1, E0⟩]) := by
  have hz : Below w.heap.size w (w.alloc (.cells #[v0, v1, v2, v3, .int .i64 u, .int .u64 c, .int .i64 h, .int .i64 k, v8, v9, v10, v11, .slice (some ad) 1 cB, v13, .bool false, .int .u64 r.fr, .int .u64 r.nx, .bool r.back, .int .i64 r.mode, .int .u64 r.hot, .int .u64 r.dn, .int .i64 r.off, .int .i64 r.size, .bool r.act, .int .u64 r.cnt, .string r.sum, v26] 36)) := b_alloc w _
  have HZ := Aside0.mk hz
  have hS := sectors_call u c h k hc _ (hU.later hz)
  have hnm := blk_new w (.cells #[v0, v1, v2, v3, .int .i64 u, .int .u64 c, .int .i64 h, .int .i64 k, v8, v9, v10, v11, .slice (some ad) 1 cB, v13, .bool false, .int .u64 r.fr, .int .u64 r.nx, .bool r.back, .int .i64 r.mode, .int .u64 r.hot, .int .u64 r.dn, .int .i64 r.off, .int .i64 r.size, .bool r.act, .int .u64 r.cnt, .string r.sum, v26] 36)
  have HNM := Aside0.mk hnm
  have hpe : secsRes u c h k = ((secsRes u c h k).1, 0) := by rw [← hs]
  rw [hpe] at hS
  generalize (secsRes u c h k).1 = n at *
  dsimp only at hS
  have HS := Aside0.mk hS
  have HA := Aside0.mk ha
  clear hz hS hnm hpe ha hU hs
  go_enter Tryz.func31, Tryz.ntmps31
  go_wp2_with fail
  refine HS.out.mono ?_
  rintro e W1 ⟨rfl, hb1⟩
  have qm := (hb1.block _ (blk_lt HNM.out)).trans HNM.out
  have m12 : W1.cell? ⟨w.heap.size, 12, none⟩ = some (.slice (some ad) 1 cB) := (blk_cell qm 12).trans rfl
  have m14 : W1.cell? ⟨w.heap.size, 14, none⟩ = some (.bool false) := (blk_cell qm 14).trans rfl
  have m15 : W1.cell? ⟨w.heap.size, 15, none⟩ = some (.int .u64 r.fr) := (blk_cell qm 15).trans rfl
  have m16 : W1.cell? ⟨w.heap.size, 16, none⟩ = some (.int .u64 r.nx) := (blk_cell qm 16).trans rfl
  have m17 : W1.cell? ⟨w.heap.size, 17, none⟩ = some (.bool r.back) := (blk_cell qm 17).trans rfl
  have m18 : W1.cell? ⟨w.heap.size, 18, none⟩ = some (.int .i64 r.mode) := (blk_cell qm 18).trans rfl
  have m19 : W1.cell? ⟨w.heap.size, 19, none⟩ = some (.int .u64 r.hot) := (blk_cell qm 19).trans rfl
  have m20 : W1.cell? ⟨w.heap.size, 20, none⟩ = some (.int .u64 r.dn) := (blk_cell qm 20).trans rfl
  have m21 : W1.cell? ⟨w.heap.size, 21, none⟩ = some (.int .i64 r.off) := (blk_cell qm 21).trans rfl
  have m22 : W1.cell? ⟨w.heap.size, 22, none⟩ = some (.int .i64 r.size) := (blk_cell qm 22).trans rfl
  have m23 : W1.cell? ⟨w.heap.size, 23, none⟩ = some (.bool r.act) := (blk_cell qm 23).trans rfl
  have m24 : W1.cell? ⟨w.heap.size, 24, none⟩ = some (.int .u64 r.cnt) := (blk_cell qm 24).trans rfl
  have m25 : W1.cell? ⟨w.heap.size, 25, none⟩ = some (.string r.sum) := (blk_cell qm 25).trans rfl
  have hbw := HZ.out.trans (hb1.mono HZ.out.size)
  have HBW := Aside0.mk hbw
  have hl1 : w.heap.size < W1.heap.size := by have := hb1.size; simp at this; omega
  have a0 : W1.cell? ad = some (.int .u64 E0) := (hbw.cell (World.block_lt_of_cell? w _ HA.out)).trans HA.out
  have hl2 : ad.block < W1.heap.size := World.block_lt_of_cell? W1 _ a0
  clear hb1 qm hbw
  go_wp2_with fail
  go_ret
  have q := blk_new' (W1.alloc (.cells #[.bool false, .int .u64 r.fr, .int .u64 r.nx, .bool r.back, .int .i64 r.mode, .int .u64 r.hot, .int .u64 r.dn, .int .i64 r.off, .int .i64 r.size, .bool r.act, .int .u64 r.cnt, .string r.sum] 33)) (.cells #[.int .u64 0, .int .u64 n, .int .u64 E0] 65) (W1.heap.size + 1) (by simp)
  refine ⟨some ⟨W1.heap.size + 1, 0, none⟩, 1, rfl, seg_reads (l := [(⟨0, n, E0⟩ : S65)]) (by simp) (fun i x hi => ?_), (HBW.out.alloc HBW.out.size _).alloc (by simp; have := HBW.out.size; omega) _⟩
  match i, hi with
  | 0, hi => cases hi; exact ⟨(blk_cell q 0).trans rfl, (blk_cell q 1).trans rfl, (blk_cell q 2).trans rfl⟩
/-- The segments of a rotation that is on, over n sectors. -/
def segsOn (n : Int) (r : RotV) : List S65 := if r.back then fil ⟨0, n - r.dn, r.fr⟩ ⟨n - r.dn, r.dn, r.nx⟩ else fil ⟨0, r.dn, r.nx⟩ ⟨r.dn, n - r.dn, r.fr⟩
set_option maxHeartbeats 8000000 in
set_option maxRecDepth 100000 in
theorem segments_on (v0 v1 v2 v3 v8 v9 v10 v11 v13 v26 : Value) (u c h k : Int) (ad : Addr) (cB : Nat) (r : RotV) (w : World) (hc : 0 ≤ c) (hU : UnitsAt w) (hs : (secsRes u c h k).2 = 0) (hn1 : 1 ≤ (secsRes u c h k).1) (hn2 : (secsRes u c h k).1 ≤ 4294967296) (hd0 : 0 ≤ r.dn) (hd1 : r.dn ≤ (secsRes u c h k).1) :
    Calls Tryz.prog 31 #[.agg #[v0, v1, v2, v3, .int .i64 u, .int .u64 c, .int .i64 h, .int .i64 k, v8, v9, v10, v11, .slice (some ad) 2 cB, v13, .bool true, .int .u64 r.fr, .int .u64 r.nx, .bool r.back, .int .i64 r.mode, .int .u64 r.hot, .int .u64 r.dn, .int .i64 r.off, .int .i64 r.size, .bool r.act, .int .u64 r.cnt, .string r.sum, v26]] w (SegEnd w (segsOn (secsRes u c h k).1 r)) := by
  have hz : Below w.heap.size w (w.alloc (.cells #[v0, v1, v2, v3, .int .i64 u, .int .u64 c, .int .i64 h, .int .i64 k, v8, v9, v10, v11, .slice (some ad) 2 cB, v13, .bool true, .int .u64 r.fr, .int .u64 r.nx, .bool r.back, .int .i64 r.mode, .int .u64 r.hot, .int .u64 r.dn, .int .i64 r.off, .int .i64 r.size, .bool r.act, .int .u64 r.cnt, .string r.sum, v26] 36)) := b_alloc w _
  have HZ := Aside0.mk hz
  have hS := sectors_call u c h k hc _ (hU.later hz)
  have hnm := blk_new w (.cells #[v0, v1, v2, v3, .int .i64 u, .int .u64 c, .int .i64 h, .int .i64 k, v8, v9, v10, v11, .slice (some ad) 2 cB, v13, .bool true, .int .u64 r.fr, .int .u64 r.nx, .bool r.back, .int .i64 r.mode, .int .u64 r.hot, .int .u64 r.dn, .int .i64 r.off, .int .i64 r.size, .bool r.act, .int .u64 r.cnt, .string r.sum, v26] 36)
  have HNM := Aside0.mk hnm
  have hpe : secsRes u c h k = ((secsRes u c h k).1, 0) := by rw [← hs]
  rw [hpe] at hS
  generalize (secsRes u c h k).1 = n at *
  dsimp only at hS
  have HS := Aside0.mk hS
  clear hz hS hnm hpe hU hs
  have hnd : 0 ≤ n - r.dn := by omega
  cases hbk : r.back with
  | true =>
    have e0 : segsOn n r = fil ⟨0, n - r.dn, r.fr⟩ ⟨n - r.dn, r.dn, r.nx⟩ := by unfold segsOn; rw [hbk]; rfl
    rw [e0]
    rw [hbk] at HS HNM HZ
    clear hbk e0
    go_enter Tryz.func31, Tryz.ntmps31
    go_wp2_with fail
    refine HS.out.mono ?_
    rintro e W1 ⟨rfl, hb1⟩
    have qm := (hb1.block _ (blk_lt HNM.out)).trans HNM.out
    have m12 : W1.cell? ⟨w.heap.size, 12, none⟩ = some (.slice (some ad) 2 cB) := (blk_cell qm 12).trans rfl
    have m14 : W1.cell? ⟨w.heap.size, 14, none⟩ = some (.bool true) := (blk_cell qm 14).trans rfl
    have m15 : W1.cell? ⟨w.heap.size, 15, none⟩ = some (.int .u64 r.fr) := (blk_cell qm 15).trans rfl
    have m16 : W1.cell? ⟨w.heap.size, 16, none⟩ = some (.int .u64 r.nx) := (blk_cell qm 16).trans rfl
    have m17 : W1.cell? ⟨w.heap.size, 17, none⟩ = some (.bool true) := (blk_cell qm 17).trans rfl
    have m18 : W1.cell? ⟨w.heap.size, 18, none⟩ = some (.int .i64 r.mode) := (blk_cell qm 18).trans rfl
    have m19 : W1.cell? ⟨w.heap.size, 19, none⟩ = some (.int .u64 r.hot) := (blk_cell qm 19).trans rfl
    have m20 : W1.cell? ⟨w.heap.size, 20, none⟩ = some (.int .u64 r.dn) := (blk_cell qm 20).trans rfl
    have m21 : W1.cell? ⟨w.heap.size, 21, none⟩ = some (.int .i64 r.off) := (blk_cell qm 21).trans rfl
    have m22 : W1.cell? ⟨w.heap.size, 22, none⟩ = some (.int .i64 r.size) := (blk_cell qm 22).trans rfl
    have m23 : W1.cell? ⟨w.heap.size, 23, none⟩ = some (.bool r.act) := (blk_cell qm 23).trans rfl
    have m24 : W1.cell? ⟨w.heap.size, 24, none⟩ = some (.int .u64 r.cnt) := (blk_cell qm 24).trans rfl
    have m25 : W1.cell? ⟨w.heap.size, 25, none⟩ = some (.string r.sum) := (blk_cell qm 25).trans rfl
    have hbw := HZ.out.trans (hb1.mono HZ.out.size)
    have HBW := Aside0.mk hbw
    have hl1 : w.heap.size < W1.heap.size := by have := hb1.size; simp at this; omega
    clear hb1 qm hbw
    go_wp2_with fail
    go_region
    all_goals go_wp2_with fail
    all_goals refine (filled_call _ _ ⟨0, n - r.dn, r.fr⟩ ⟨n - r.dn, r.dn, r.nx⟩ _ ?_ (by dsimp only; omega)).mono ?_
    any_goals exact blk_new' _ _ _ (by simp)
    all_goals (rintro e W2 ⟨A2, c2, rfl, d1, d2⟩; have HD := Aside0.mk (And.intro d1 d2); clear d1 d2)
    all_goals go_wp2_with fail
    all_goals go_ret
    all_goals refine ⟨_, _, rfl, HD.out.1, ?_⟩
    all_goals exact (((((HBW.out.alloc HBW.out.size _).alloc (by simp; have := HBW.out.size; omega) _).alloc (by simp; have := HBW.out.size; omega) _).alloc (by simp; have := HBW.out.size; omega) _).drew).trans (HD.out.2.mono (by simp; have := HBW.out.size; omega))
  | false =>
    have e0 : segsOn n r = fil ⟨0, r.dn, r.nx⟩ ⟨r.dn, n - r.dn, r.fr⟩ := by unfold segsOn; rw [hbk]; rfl
    rw [e0]
    rw [hbk] at HS HNM HZ
    clear hbk e0
    go_enter Tryz.func31, Tryz.ntmps31
    go_wp2_with fail
    refine HS.out.mono ?_
    rintro e W1 ⟨rfl, hb1⟩
    have qm := (hb1.block _ (blk_lt HNM.out)).trans HNM.out
    have m12 : W1.cell? ⟨w.heap.size, 12, none⟩ = some (.slice (some ad) 2 cB) := (blk_cell qm 12).trans rfl
    have m14 : W1.cell? ⟨w.heap.size, 14, none⟩ = some (.bool true) := (blk_cell qm 14).trans rfl
    have m15 : W1.cell? ⟨w.heap.size, 15, none⟩ = some (.int .u64 r.fr) := (blk_cell qm 15).trans rfl
    have m16 : W1.cell? ⟨w.heap.size, 16, none⟩ = some (.int .u64 r.nx) := (blk_cell qm 16).trans rfl
    have m17 : W1.cell? ⟨w.heap.size, 17, none⟩ = some (.bool false) := (blk_cell qm 17).trans rfl
    have m18 : W1.cell? ⟨w.heap.size, 18, none⟩ = some (.int .i64 r.mode) := (blk_cell qm 18).trans rfl
    have m19 : W1.cell? ⟨w.heap.size, 19, none⟩ = some (.int .u64 r.hot) := (blk_cell qm 19).trans rfl
    have m20 : W1.cell? ⟨w.heap.size, 20, none⟩ = some (.int .u64 r.dn) := (blk_cell qm 20).trans rfl
    have m21 : W1.cell? ⟨w.heap.size, 21, none⟩ = some (.int .i64 r.off) := (blk_cell qm 21).trans rfl
    have m22 : W1.cell? ⟨w.heap.size, 22, none⟩ = some (.int .i64 r.size) := (blk_cell qm 22).trans rfl
    have m23 : W1.cell? ⟨w.heap.size, 23, none⟩ = some (.bool r.act) := (blk_cell qm 23).trans rfl
    have m24 : W1.cell? ⟨w.heap.size, 24, none⟩ = some (.int .u64 r.cnt) := (blk_cell qm 24).trans rfl
    have m25 : W1.cell? ⟨w.heap.size, 25, none⟩ = some (.string r.sum) := (blk_cell qm 25).trans rfl
    have hbw := HZ.out.trans (hb1.mono HZ.out.size)
    have HBW := Aside0.mk hbw
    have hl1 : w.heap.size < W1.heap.size := by have := hb1.size; simp at this; omega
    clear hb1 qm hbw
    go_wp2_with fail
    go_region
    all_goals go_wp2_with fail
    all_goals refine (filled_call _ _ ⟨0, r.dn, r.nx⟩ ⟨r.dn, n - r.dn, r.fr⟩ _ ?_ (by dsimp only; omega)).mono ?_
    any_goals exact blk_new' _ _ _ (by simp)
    all_goals (rintro e W2 ⟨A2, c2, rfl, d1, d2⟩; have HD := Aside0.mk (And.intro d1 d2); clear d1 d2)
    all_goals go_wp2_with fail
    all_goals go_ret
    all_goals refine ⟨_, _, rfl, HD.out.1, ?_⟩
    all_goals exact (((((HBW.out.alloc HBW.out.size _).alloc (by simp; have := HBW.out.size; omega) _).alloc (by simp; have := HBW.out.size; omega) _).alloc (by simp; have := HBW.out.size; omega) _).drew).trans (HD.out.2.mono (by simp; have := HBW.out.size; omega))
end Go.Proofs.YtpmbfibjldnaiaaGreatDoor.segc
/-! ## SegD -/
namespace Go.Proofs.YtpmbfibjldnaiaaGreatDoor.segd
open Go Go.RowKit Go.Proofs.YtpmbfibjldnaiaaGreatDoor.shapea Go.Proofs.YtpmbfibjldnaiaaGreatDoor.risea Go.Proofs.YtpmbfibjldnaiaaGreatDoor.slotsa Go.Proofs.YtpmbfibjldnaiaaGreatDoor.rota Go.Proofs.YtpmbfibjldnaiaaGreatDoor.sega Go.Proofs.YtpmbfibjldnaiaaGreatDoor.segb Go.Proofs.YtpmbfibjldnaiaaGreatDoor.PProbeSpots Go.Proofs.YtpmbfibjldnaiaaGreatDoorW.PrintWords
set_option linter.unusedVariables false
set_option linter.unusedSimpArgs false
theorem eqA65 (d : Nat) (w : World) (x0 y0 x1 y1 x2 y2 : Int) :
    (Op.equalIn (d + 2) 65 (.agg #[.int .u64 x0, .int .u64 x1, .int .u64 x2]) (.agg #[.int .u64 y0, .int .u64 y1, .int .u64 y2])).run Tryz.prog w = .ok (x0 == y0 && (x1 == y1 && x2 == y2)) w := by
  refine eqA_of Tryz.underlying65 (by kernel_rfl) ?_
  refine eqf_cons (by rfl) (by go_simp; rfl) (by go_simp; rfl) (by go_simp) ?_
  refine eqf_cons (by rfl) (by go_simp; rfl) (by go_simp; rfl) (by go_simp) ?_
  exact eqf_last (by rfl) (by go_simp; rfl) (by go_simp; rfl) (by go_simp)
def segEq (x y : S65) : Bool := x.f0 == y.f0 && (x.f1 == y.f1 && x.f2 == y.f2)
def segsEq : List S65 → List S65 → Bool
  | [], [] => true
  | x :: s, y :: t => segEq x y && segsEq s t
  | _, _ => false
theorem segsEq_len : ∀ (l m : List S65), l.length ≠ m.length → segsEq l m = false
  | [], [], h => absurd rfl h
  | x :: s, y :: t, h => by
    have := segsEq_len s t (by simpa using h)
    simp [segsEq, this]
  | [], y :: t, _ => rfl
  | x :: s, [], _ => rfl
theorem segsEq_drop (l m : List S65) (i : Nat) (hl : i < l.length) (hm : i < m.length) : segsEq (l.drop i) (m.drop i) = (segEq l[i] m[i] && segsEq (l.drop (i + 1)) (m.drop (i + 1))) := by
  rw [List.drop_eq_getElem_cons hl, List.drop_eq_getElem_cons hm]
  rfl
theorem drew_add (w : World) (a b : Nat) : (w.drewN a).drewN b = w.drewN (a + b) := by simp [World.drewN, Nat.add_assoc]
/-- A call that answers a Bool and turns nothing. -/
def QuietEnd (w : World) (b : Bool) (e : Ending) (w' : World) : Prop := e = .returned (.bool b) ∧ ∃ n, w' = w.drewN n
section
attribute [local go_sem high] eqA65
set_option maxHeartbeats 2000000 in
set_option maxRecDepth 100000 in
theorem equal_call (A B : Option Addr) (c d : Nat) (l m : List S65) (w : World) (hA : Kd.C k65 w A l.length l) (hB : Kd.C k65 w B m.length m) (hl : l.length ≤ 4611686018427387904) :
    Calls Tryz.prog 30 #[.slice A l.length c, .slice B m.length d] w (QuietEnd w (segsEq l m)) := by
  have HA := Aside0.mk hA
  have HB := Aside0.mk hB
  clear hA hB
  by_cases hne : l.length = m.length
  · have hne' : ((l.length : Int) != (m.length : Int)) = false := by rw [bne_eq_false_iff_eq]; omega
    have HNE := Aside0.mk hne
    clear hne
    go_enter Tryz.func30, Tryz.ntmps30
    go_wp2_with fail
    go_loopg [13] (l.length + 1) (fun kq v13 wr => ∃ i q : Nat, Aside0 (v13 = .int .i64 (i : Int)) ∧ Aside0 (i ≤ l.length ∧ kq + i = l.length + 1) ∧ Aside0 (segsEq l m = segsEq (l.drop i) (m.drop i)) ∧ wr = w.drewN q)
    case atStart => exact ⟨0, 0, ⟨rfl⟩, ⟨by omega⟩, ⟨rfl⟩, rfl⟩
    case round =>
      obtain ⟨i, q, H13, HI, HF, rfl⟩ := hrel
      obtain rfl := H13.out
      obtain ⟨hi, hk⟩ := HI.out
      have HQ := Aside0.mk hk
      clear hk
      by_cases hlt : i < l.length
      · have hltm : i < m.length := by rw [← HNE.out]; exact hlt
        obtain ⟨ad, e, c0, c1, c2⟩ := at_T65 HA.out (i : Int) (by omega) (by omega)
        obtain ⟨ae, e', d0, d1, d2⟩ := at_T65 HB.out (i : Int) (by omega) (by omega)
        have hx : rd_T65 l (i : Int) = l[i] := by
          unfold rd_T65
          rw [Int.toNat_natCast, List.getD_eq_getElem?_getD, List.getElem?_eq_getElem hlt]
          rfl
        have hy : rd_T65 m (i : Int) = m[i] := by
          unfold rd_T65
          rw [Int.toNat_natCast, List.getD_eq_getElem?_getD, List.getElem?_eq_getElem hltm]
          rfl
        rw [hx] at c0 c1 c2
        rw [Int.toNat_natCast] at c0 c1 c2
        rw [hy] at d0 d1 d2
        rw [Int.toNat_natCast] at d0 d1 d2
        have HD := Aside0.mk (HF.out.trans (segsEq_drop l m i hlt hltm))
        clear hx hy
        cases e
        cases e'
        have g0 : (0 : Int) ≤ (i : Int) := by omega
        have g1 : (i : Int) < (l.length : Int) := by omega
        have g2 : (i : Int) < (m.length : Int) := by omega
        cases hq : segEq l[i] m[i] with
        | true =>
          have hq2 : (l[i].f0 == m[i].f0 && (l[i].f1 == m[i].f1 && l[i].f2 == m[i].f2)) = true := hq
          have HQ2 := Aside0.mk hq
          clear hq
          go_wp2_with fail
          go_quiet (fail)
          go_wp2_with fail
          go_roundg (l.length - i)
          case rel => exact ⟨i + 1, _, ⟨by go_num⟩, ⟨by omega, by omega⟩, ⟨by rw [HD.out, HQ2.out]; rfl⟩, rfl⟩
          case measure => have := HQ.out; omega
        | false =>
          have hq2 : (l[i].f0 == m[i].f0 && (l[i].f1 == m[i].f1 && l[i].f2 == m[i].f2)) = false := hq
          have HQ2 := Aside0.mk hq
          clear hq
          go_wp2_with fail
          go_quiet (fail)
          go_wp2_with fail
          go_ret
          exact ⟨by rw [HD.out, HQ2.out]; rfl, _, drew_add _ _ _⟩
      · obtain rfl : i = l.length := by omega
        go_wp2_with fail
        go_ret
        refine ⟨?_, _, rfl⟩
        rw [HF.out, List.drop_length, HNE.out, List.drop_length]
        rfl
  · have hne' : ((l.length : Int) != (m.length : Int)) = true := by simp; omega
    have HNE := Aside0.mk hne
    clear hne
    go_enter Tryz.func30, Tryz.ntmps30
    go_wp2_with fail
    go_ret
    exact ⟨by rw [segsEq_len l m HNE.out]; rfl, 0, rfl⟩
end
end Go.Proofs.YtpmbfibjldnaiaaGreatDoor.segd
