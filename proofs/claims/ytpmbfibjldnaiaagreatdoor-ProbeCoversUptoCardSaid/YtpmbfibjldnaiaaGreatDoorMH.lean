/- Rules: of the shape, of the digest, of the segments. (Written by grul.py.) Areas that may lie so. (Written by gar.py.) (Merged by merge.py.) -/
import Derived.Test.YtpmbfibjldnaiaaGreatDoorMG
import Derived.Test.YtpmbfibjldnaiaaGreatDoorWLast
import Derived.Laws.Rows
/-! ## RulA -/
namespace Go.Proofs.YtpmbfibjldnaiaaGreatDoor.rula
open Go Go.RowKit Go.Proofs.YtpmbfibjldnaiaaGreatDoor.shapea Go.Proofs.YtpmbfibjldnaiaaGreatDoor.risea Go.Proofs.YtpmbfibjldnaiaaGreatDoor.slotsa Go.Proofs.YtpmbfibjldnaiaaGreatDoor.rota Go.Proofs.YtpmbfibjldnaiaaGreatDoor.sega Go.Proofs.YtpmbfibjldnaiaaGreatDoor.segb Go.Proofs.YtpmbfibjldnaiaaGreatDoor.segd Go.Proofs.YtpmbfibjldnaiaaGreatDoor.PProbeSpots Go.Proofs.YtpmbfibjldnaiaaGreatDoorW.PrintWords Go.Proofs.YtpmbfibjldnaiaaGreatDoorW.PrintLast
set_option linter.unusedVariables false
set_option linter.unusedSimpArgs false
theorem below_step {w X W1 : World} (h : Below w.heap.size w X) (d : Below X.heap.size X W1) : Below w.heap.size w W1 := h.trans (d.mono h.size)
/-- A rule's end: a Bool; what was there stays. -/
def RuleEnd (w : World) (b : Bool) (e : Ending) (w' : World) : Prop := e = .returned (.bool b) ∧ Below w.heap.size w w'
set_option maxHeartbeats 2000000 in
set_option maxRecDepth 100000 in
theorem rule1_call (v0 v1 v2 v3 v8 v9 v10 v11 v12 v13 v14 v15 v16 v17 v18 v19 v20 v21 v22 v23 v24 v25 v26 : Value) (u c h k : Int) (w : World) (hc : 0 ≤ c) (hU : UnitsAt w) : Calls Tryz.prog 22 #[.agg #[v0, v1, v2, v3, .int .i64 u, .int .u64 c, .int .i64 h, .int .i64 k, v8, v9, v10, v11, v12, v13, v14, v15, v16, v17, v18, v19, v20, v21, v22, v23, v24, v25, v26]] w (RuleEnd w ((secsRes u c h k).2 == 0)) := by
  have hz : Below w.heap.size w (w.alloc (.cells #[v0, v1, v2, v3, .int .i64 u, .int .u64 c, .int .i64 h, .int .i64 k, v8, v9, v10, v11, v12, v13, v14, v15, v16, v17, v18, v19, v20, v21, v22, v23, v24, v25, v26] 36)) := b_alloc w _
  have hS := sectors_call u c h k hc _ (hU.later hz)
  have HS := Aside0.mk hS
  have HZ := Aside0.mk hz
  clear hS hz hU
  generalize secsRes u c h k = N at *
  go_enter Tryz.func22, Tryz.ntmps22
  go_wp2_with (first | (go_at_call 23; refine HS.out.mono ?_; rintro e W1 ⟨rfl, hb1⟩) | fail)
  go_ret
  exact ⟨rfl, HZ.out.trans (hb1.mono HZ.out.size)⟩
def digOk (t : Int) (s d : ByteArray) : Bool := inB t 1 1048576 && ((s.size : Int) == 32) && ((d.size : Int) == 32)
set_option maxHeartbeats 2000000 in
set_option maxRecDepth 100000 in
theorem rule2_call (v0 v1 v2 v3 v4 v5 v6 v7 v11 v12 v13 v14 v15 v16 v17 v18 v19 v20 v21 v22 v23 v24 v25 v26 : Value) (t : Int) (s d : ByteArray) (w : World) : Calls Tryz.prog 24 #[.agg #[v0, v1, v2, v3, v4, v5, v6, v7, .int .i64 t, .string s, .string d, v11, v12, v13, v14, v15, v16, v17, v18, v19, v20, v21, v22, v23, v24, v25, v26]] w (RuleEnd w (digOk t s d)) := by
  have hz : Below w.heap.size w (w.alloc (.cells #[v0, v1, v2, v3, v4, v5, v6, v7, .int .i64 t, .string s, .string d, v11, v12, v13, v14, v15, v16, v17, v18, v19, v20, v21, v22, v23, v24, v25, v26] 36)) := b_alloc w _
  have hz2 : Below w.heap.size w ((w.alloc (.cells #[v0, v1, v2, v3, v4, v5, v6, v7, .int .i64 t, .string s, .string d, v11, v12, v13, v14, v15, v16, v17, v18, v19, v20, v21, v22, v23, v24, v25, v26] 36)).alloc (.cells #[.int .i64 t, .string s, .string d] 26)) := hz.alloc hz.size _
  have HZ := Aside0.mk hz2
  clear hz hz2
  cases h1 : inB t 1 1048576 with
  | false =>
    have hW := fun W => within_call t 1 1048576 W
    rw [h1] at hW
    have HW := Aside0.mk hW
    have H1 := Aside0.mk h1
    clear hW h1
    go_enter Tryz.func24, Tryz.ntmps24
    go_wp2_with (first | (go_at_call 25; refine (HW.out _).mono ?_; rintro e w' ⟨rfl, m, rfl⟩) | fail)
    go_ret
    exact ⟨by simp [digOk, H1.out], by repeat (first | exact HZ.out | apply below_dn)⟩
  | true =>
    have hW := fun W => within_call t 1 1048576 W
    rw [h1] at hW
    have HW := Aside0.mk hW
    have H1 := Aside0.mk h1
    clear hW h1
    by_cases h2 : (s.size : Int) = 32
    · have H2 := Aside0.mk h2
      clear h2
      go_enter Tryz.func24, Tryz.ntmps24
      go_wp2_with (first | (go_at_call 25; refine (HW.out _).mono ?_; rintro e w' ⟨rfl, m, rfl⟩) | fail)
      all_goals go_ret
      all_goals refine ⟨ret_bool ?_, by repeat (first | exact HZ.out | apply below_dn)⟩
      all_goals have h2 := H2.out
      all_goals first
        | (exfalso; exact absurd h2 (by assumption))
        | simp [digOk, H1.out, h2]
    · have H2 := Aside0.mk h2
      clear h2
      go_enter Tryz.func24, Tryz.ntmps24
      go_wp2_with (first | (go_at_call 25; refine (HW.out _).mono ?_; rintro e w' ⟨rfl, m, rfl⟩) | fail)
      all_goals go_ret
      all_goals refine ⟨ret_bool ?_, by repeat (first | exact HZ.out | apply below_dn)⟩
      all_goals have h2 := H2.out
      all_goals first
        | (exfalso; exact absurd (by assumption) h2)
        | simp [digOk, H1.out, h2]
theorem info36 : (Tryz.prog.info? 36).map (fun i => i.size) = some 27 := by kernel_rfl
/-- All of a row of metadata lies in block g. -/
structure RowAt (W : World) (g : Nat) (cs : Array Value) : Prop where
  at_ : W.heap[g]? = some (.cells cs 36 (0, 0))
  sz : cs.size = 27
theorem RowAt.drewN {W : World} {g : Nat} {cs : Array Value} (h : RowAt W g cs) (n : Nat) : RowAt (W.drewN n) g cs := ⟨h.at_, h.sz⟩
theorem RowAt.drew {W : World} {g : Nat} {cs : Array Value} (h : RowAt W g cs) : RowAt W.drew g cs := ⟨h.at_, h.sz⟩
theorem RowAt.cell {W : World} {g : Nat} {cs : Array Value} (h : RowAt W g cs) {j : Nat} {v : Value} (hj : cs[j]? = some v) : W.cell? ⟨g, j, none⟩ = some v := (blk_cell h.at_ j).trans hj
theorem RowAt.below {W W1 : World} {g : Nat} {cs : Array Value} (h : RowAt W g cs) (hb : Below W.heap.size W W1) : RowAt W1 g cs := ⟨(hb.block _ (blk_lt h.at_)).trans h.at_, h.sz⟩
theorem RowAt.new (w : World) {cs : Array Value} (h : cs.size = 27) : RowAt (w.alloc (.cells cs 36)) w.heap.size cs := ⟨blk_new w _, h⟩
theorem load36_row {W : World} {g : Nat} {cs : Array Value} (h : RowAt W g cs) : (loadVar 36 ⟨g, 0, none⟩).run Tryz.prog W = .ok (.agg cs) W :=
  run_loadVar_row W g 36 36 cs (0, 0) _ h.at_ Tryz.underlying36 rfl (by rw [info36, h.sz])
theorem load36_exec {o : Oper} {a : Act} {W : World} {g : Nat} {cs : Array Value} (x : Operand) (ho : o.op = .load 36 x) (h : RowAt W g cs) (hx : a.eval x = .pointer (some ⟨g, 0, none⟩)) : (execOp a.eval o).run Tryz.prog W = .ok (.value (.agg cs)) W := by
  unfold execOp
  simp only [ho, hx, Instr.loadAt, Instr.sureAddr, Sem.run_bind, Sem.run_pure, Result.andThen_ok, load36_row h]
set_option maxHeartbeats 4000000 in
set_option maxRecDepth 100000 in
theorem rule3_call (cs : Array Value) (hcs : cs.size = 27) (A : Option Addr) (c : Nat) (l sl : List S65) (h13 : cs[13]? = some (.slice A l.length c)) (w : World) (hR : Kd.C k65 w A l.length l) (hl : l.length ≤ 4611686018427387904) (hG : ∀ W, Below w.heap.size w W → Calls Tryz.prog 31 #[.agg cs] W (SegEnd W sl)) :
    Calls Tryz.prog 29 #[.agg cs] w (RuleEnd w (segsEq l sl)) := by
  have hz : Below w.heap.size w (w.alloc (.cells cs 36)) := b_alloc w _
  have hra := RowAt.new w hcs
  have HR := Aside0.mk hR
  have HG := Aside0.mk hG
  have HZ := Aside0.mk hz
  have HRA := Aside0.mk hra
  have H13 := Aside0.mk h13
  have HCS := Aside0.mk hcs
  clear hR hG hz h13 hra hcs
  go_enter Tryz.func29, Tryz.ntmps29
  go_wp2_with fail
  refine start_ (n := 6) (S := fun w' => RowAt w' w.heap.size cs) (ds := []) #[false, false, false, false, false, false] (by kernel_rfl) rfl rfl HRA.out.drew (fun hHeld => ?_)
  refine pure_ (i := 0) (N := some 3) (v := ?_) (a' := ?_) #[true, false, false, false, false, false] rfl rfl (by kernel_rfl) (fun _ _ _ h => h) (Or.inl ⟨by rfl, ?_⟩) ?_ ?_
  rotate_left
  · intro w'
    go_simp
    with_reducible rfl
  rotate_left
  · simp only [Act.put, List.setIfInBounds_toArray, List.set_cons_zero, List.set_cons_succ]
    rfl
  refine take_ (i := 1) (N := some 4) (v := ?_) (a' := ?_) #[true, true, false, false, false, false] rfl rfl (by kernel_rfl) (fun _ _ _ h => h) (Or.inl ⟨by rfl, ?_⟩) hHeld ?_ ?_
  rotate_left
  · intro w' hS
    have hc13 := hS.cell H13.out
    go_simp
    with_reducible rfl
  rotate_left
  · simp only [Act.put, List.setIfInBounds_toArray, List.set_cons_zero, List.set_cons_succ]
    rfl
  refine take_ (i := 2) (N := some 5) (v := ?_) (a' := ?_) #[true, true, true, false, false, false] rfl rfl (by kernel_rfl) (fun _ _ _ h => h) (Or.inl ⟨by rfl, ?_⟩) hHeld ?_ ?_
  rotate_left
  · intro w' hS
    refine load36_exec (.tmp 1) ?_ hS ?_
    · rfl
    · rfl
  rotate_left
  · simp only [Act.put, List.setIfInBounds_toArray, List.set_cons_zero, List.set_cons_succ]
    rfl
  refine one_ (i := 3) (N := some 6) #[true, true, true, true, false, false] rfl rfl (by kernel_rfl) (by decide) (fun K hK => ?_)
  refine call_ 31 #[.agg cs] (by rfl) rfl (by go_simp) ?_
  refine (HG.out _ HZ.out.drew).mono ?_
  rintro e W1 ⟨A1, c1, rfl, d1, d2⟩
  have D1 := Aside0.mk d1
  have HBW := Aside0.mk (below_step HZ.out.drew d2)
  refine ⟨_, rfl, hK.out _ _ (hHeld.below d2) (fun hHeld1 => ?_)⟩
  clear hK K d1 d2
  refine norm_ (a' := ?_) ?_ ?_
  rotate_left
  · show Act.put _ (some 6) _ = _
    simp only [Act.put, List.setIfInBounds_toArray, List.set_cons_zero, List.set_cons_succ]
    rfl
  refine one_ (i := 4) (N := some 7) #[true, true, true, true, true, false] rfl rfl (by kernel_rfl) (by decide) (fun K hK => ?_)
  refine call_ 30 #[.slice A l.length c, .slice A1 sl.length c1] (by rfl) rfl (by go_simp) ?_
  refine (equal_call _ _ _ _ l sl _ (Kd.C_below HR.out HBW.out) D1.out hl).mono ?_
  rintro e W2 ⟨rfl, m, rfl⟩
  refine ⟨_, rfl, hK.out _ _ (hHeld1.drewN m) (fun hHeld2 => ?_)⟩
  clear hK K
  refine norm_ (a' := ?_) ?_ ?_
  rotate_left
  · show Act.put _ (some 7) _ = _
    simp only [Act.put, List.setIfInBounds_toArray, List.set_cons_zero, List.set_cons_succ]
    rfl
  refine pure_ (i := 5) (N := some 2) (v := ?_) (a' := ?_) #[true, true, true, true, true, true] rfl rfl (by kernel_rfl) (fun _ _ _ h => h) (Or.inl ⟨by rfl, ?_⟩) ?_ ?_
  rotate_left
  · intro w'
    go_simp
    with_reducible rfl
  rotate_left
  · simp only [Act.put, List.setIfInBounds_toArray, List.set_cons_zero, List.set_cons_succ]
    rfl
  refine done_ (by kernel_rfl) ?_
  go_wp2_with fail
  go_ret
  exact ⟨rfl, below_dn HBW.out m⟩
end Go.Proofs.YtpmbfibjldnaiaaGreatDoor.rula
/-! ## ArA -/
namespace Go.Proofs.YtpmbfibjldnaiaaGreatDoor.ara
open Go Go.RowKit Go.Proofs.YtpmbfibjldnaiaaGreatDoor.shapea Go.Proofs.YtpmbfibjldnaiaaGreatDoor.shapeb Go.Proofs.YtpmbfibjldnaiaaGreatDoor.risea Go.Proofs.YtpmbfibjldnaiaaGreatDoor.slotsa Go.Proofs.YtpmbfibjldnaiaaGreatDoor.rota Go.Proofs.YtpmbfibjldnaiaaGreatDoor.sega Go.Proofs.YtpmbfibjldnaiaaGreatDoor.segc Go.Proofs.YtpmbfibjldnaiaaGreatDoor.segd Go.Proofs.YtpmbfibjldnaiaaGreatDoor.rula Go.Proofs.YtpmbfibjldnaiaaGreatDoor.PProbeSpots Go.Proofs.YtpmbfibjldnaiaaGreatDoorW.PrintWords
set_option linter.unusedVariables false
set_option linter.unusedSimpArgs false
def cellsA (al : List (Int × Int)) : List Value := al.flatMap fun a => [.int .i64 a.1, .int .i64 a.2]
theorem cellsA_len : ∀ al : List (Int × Int), (cellsA al).length = al.length * 2
  | [] => rfl
  | a :: t => by
    have := cellsA_len t
    simp only [cellsA, List.flatMap_cons, List.length_append, List.length_cons, List.length_nil] at this ⊢
    omega
theorem cellsA_at : ∀ (al : List (Int × Int)) (i : Nat) (a : Int × Int), al[i]? = some a → (cellsA al)[i * 2]? = some (.int .i64 a.1) ∧ (cellsA al)[i * 2 + 1]? = some (.int .i64 a.2)
  | b :: t, 0, a, h => by cases h; exact ⟨rfl, rfl⟩
  | b :: t, i + 1, a, h => by
    have := cellsA_at t i a (by simpa using h)
    rw [Nat.add_mul]
    exact this
theorem cellsA_snoc (al : List (Int × Int)) (a : Int × Int) : cellsA (al ++ [a]) = cellsA al ++ [.int .i64 a.1, .int .i64 a.2] := by
  simp [cellsA]
def slA (s : S53) : Int × Int := (s.f7.f0, s.f7.f1)
def szOk (s : S53) : Bool := s.f7.f1 == slotSize s.f6
theorem take_snoc' {α : Type} (l : List α) (i : Nat) (h : i < l.length) : l.take (i + 1) = l.take i ++ [l[i]] := by
  rw [List.take_succ_eq_append_getElem h]
/-- May an area lie there? Do two meet? -/
def okA (F E : Int) (a : Int × Int) : Bool := decide (a.1 % 4096 = 0 ∧ a.2 % 4096 = 0 ∧ F ≤ a.1 ∧ a.1 ≤ E ∧ a.2 ≤ E - a.1)
def meetsB (a b : Int × Int) : Bool := decide (a.1 < b.1 + b.2) && decide (b.1 < a.1 + a.2)
def chkA (F E : Int) : List (Int × Int) → List (Int × Int) → Bool
  | _, [] => true
  | dn, a :: t => okA F E a && !(dn.any (meetsB a)) && chkA F E (dn ++ [a]) t
def areasL (on : Bool) (l : List S53) (r : RotV) : List (Int × Int) := l.map slA ++ (if on then [(r.off, r.size)] else [])
def areasB (on : Bool) (u h k : Int) (l : List S53) (r : RotV) : Bool := l.all szOk && (!on || decide (journalSize r.mode r.hot u ≤ r.size)) && chkA (2 * h) (2 * h + k) [] (areasL on l r)
theorem info31 : (Tryz.prog.info? 31).map (fun i => (i.zero, i.size, i.bytes)) = some (some (.agg #[.int .i64 0, .int .i64 0]), 2, 16) := by kernel_rfl
theorem one2 {a b : Int} : ∀ u ∈ [Value.int .i64 a, Value.int .i64 b], u.oneCell' = true := fun u hu => by
  simp at hu
  rcases hu with rfl | rfl <;> rfl
theorem szOk_nn {s : S53} (h : szOk s = true) : 0 ≤ (slA s).2 := by
  unfold szOk at h
  have e : s.f7.f1 = slotSize s.f6 := by simpa using h
  show 0 ≤ s.f7.f1
  rw [e]
  unfold slotSize upv
  split
  · omega
  · split <;> omega
set_option maxHeartbeats 16000000 in
set_option maxRecDepth 100000 in
theorem areas_off (v0 v1 v2 v3 v5 v8 v9 v10 v12 v13 v26 : Value) (u h k : Int) (A : Option Addr) (c : Nat) (l : List S53) (r : RotV) (w : World) (hR : Kd.C k53 w A l.length l) (hl0 : 1 ≤ l.length) (hl : l.length ≤ 1000000) (h1 : 16384 ≤ h) (h2 : h ≤ 4194304) (k1 : 4096 ≤ k) (k2 : k ≤ 134217728) :
    Calls Tryz.prog 32 #[.agg #[v0, v1, v2, v3, .int .i64 u, v5, .int .i64 h, .int .i64 k, v8, v9, v10, .slice A l.length c, v12, v13, .bool false, .int .u64 r.fr, .int .u64 r.nx, .bool r.back, .int .i64 r.mode, .int .u64 r.hot, .int .u64 r.dn, .int .i64 r.off, .int .i64 r.size, .bool r.act, .int .u64 r.cnt, .string r.sum, v26]] w (RuleEnd w (areasB false u h k l r)) := by
  have hz : Below w.heap.size w (w.alloc (.cells #[v0, v1, v2, v3, .int .i64 u, v5, .int .i64 h, .int .i64 k, v8, v9, v10, .slice A l.length c, v12, v13, .bool false, .int .u64 r.fr, .int .u64 r.nx, .bool r.back, .int .i64 r.mode, .int .u64 r.hot, .int .u64 r.dn, .int .i64 r.off, .int .i64 r.size, .bool r.act, .int .u64 r.cnt, .string r.sum, v26] 36)) := b_alloc w _
  have HNM := Aside0.mk (blk_new w (.cells #[v0, v1, v2, v3, .int .i64 u, v5, .int .i64 h, .int .i64 k, v8, v9, v10, .slice A l.length c, v12, v13, .bool false, .int .u64 r.fr, .int .u64 r.nx, .bool r.back, .int .i64 r.mode, .int .u64 r.hot, .int .u64 r.dn, .int .i64 r.off, .int .i64 r.size, .bool r.act, .int .u64 r.cnt, .string r.sum, v26] 36))
  obtain ⟨i0, hi0, hz0, hs0, hb0⟩ := info_parts info31
  have HR := Aside0.mk hR
  have HZ := Aside0.mk hz
  clear hR hz
  go_enter Tryz.func32, Tryz.ntmps32
  go_wp2_with fail
  go_loopg [3, 16] (l.length + 1) (fun kq s3 s16 wr => ∃ i : Nat, Aside0 (s16 = .int .i64 (i : Int)) ∧ Aside0 (i ≤ l.length ∧ kq + i = l.length + 1) ∧ Aside0 ((l.take i).all szOk = true) ∧ Aside0 (wr.ownsRow (w.heap.size + 1) 31 2 s3 i (cellsA ((l.take i).map slA))) ∧ Aside0 (Below (w.heap.size + 1) (w.alloc (.cells #[v0, v1, v2, v3, .int .i64 u, v5, .int .i64 h, .int .i64 k, v8, v9, v10, .slice A l.length c, v12, v13, .bool false, .int .u64 r.fr, .int .u64 r.nx, .bool r.back, .int .i64 r.mode, .int .u64 r.hot, .int .u64 r.dn, .int .i64 r.off, .int .i64 r.size, .bool r.act, .int .u64 r.cnt, .string r.sum, v26] 36)) wr))
  case atStart => exact ⟨0, ⟨rfl⟩, ⟨by omega⟩, ⟨rfl⟩, ⟨World.ownsRow_nil _ _ _ _⟩, ⟨Below.refl _ _⟩⟩
  case round =>
    obtain ⟨i, H16, HI, HF, HO, HB⟩ := hrel
    obtain rfl := H16.out
    obtain ⟨hi, hk⟩ := HI.out
    have HQ := Aside0.mk hk
    clear hk
    have hbs : w.heap.size + 1 ≤ wr.heap.size := by have := HB.out.size; simp at this; omega
    by_cases hlt : i < l.length
    · obtain ⟨ad, e, c0, c1, c2, c3, c4, c5, c6, c7, c8⟩ := at_T53 HR.out (i : Int) (by omega) (by omega)
      have hx : rd_T53 l (i : Int) = l[i] := by
        unfold rd_T53
        rw [Int.toNat_natCast, List.getD_eq_getElem?_getD, List.getElem?_eq_getElem hlt]
        rfl
      rw [hx] at c0 c1 c2 c3 c4 c5 c6 c7 c8
      rw [Int.toNat_natCast] at c0 c1 c2 c3 c4 c5 c6 c7 c8
      have mv : ∀ {a : Addr} {u : Value}, w.cell? a = some u → wr.cell? a = some u := fun h => (HB.out.cell (by have := World.block_lt_of_cell? w _ h; omega)).trans ((HZ.out.cell (World.block_lt_of_cell? w _ h)).trans h)
      replace c0 := mv c0
      replace c1 := mv c1
      replace c2 := mv c2
      replace c3 := mv c3
      replace c4 := mv c4
      replace c5 := mv c5
      replace c6 := mv c6
      replace c7 := mv c7
      replace c8 := mv c8
      clear mv hx
      cases e
      cases hsz : (l[i].f7.f1 != slotSize l[i].f6) with
      | true =>
        have HSZ := Aside0.mk hsz
        go_wp2_with fail
        go_quiet ((go_at_call 52; exact Calls.quiet_of (slotSize_call _ _)))
        go_wp2_with fail
        go_ret
        refine ⟨?_, ?_⟩
        · have h1 : szOk l[i] = false := by unfold szOk; simpa using HSZ.out
          have h2 : l.all szOk = false := by rw [List.all_eq_false]; exact ⟨l[i], List.getElem_mem hlt, by simp [h1]⟩
          rw [show areasB false u h k l r = false by simp [areasB, h2]]
          rfl
        · exact below_dn (((HZ.out.trans (HB.out.mono (Nat.le_succ _)))).alloc (by omega) _) _
      | false =>
        have HSZ := Aside0.mk hsz
        have hm0 : (l.length : Int) ≤ 4611686018427387904 := by omega
        go_wp2_with fail
        go_quiet ((go_at_call 52; exact Calls.quiet_of (slotSize_call _ _)))
        go_wp2_with (at_builtin; refine wpList_append_lies _ rfl (.tmp 27) (.tmp 30) 93 rfl (w.heap.size + 1) 31 i0 _ 2 16 Tryz.underlying93 hi0 hz0 hs0 hb0 rfl (by decide) _ i _ rfl ((HO.out.alloc _).alloc _) ⟨wr.heap.size + 1, 0, none⟩ 1 1 [.int .i64 l[i].f7.f0, .int .i64 l[i].f7.f1] rfl rfl (World.news_of_block (blk_new' _ _ _ (by simp))) one2 (by decide) (by unfold maxLen; omega) (by omega) (by simp; omega) _ rfl ?_; intro g' cap w1 h1 h2 h3 h4; have H1 := Aside0.mk h1; have H2 := Aside0.mk h2; clear h1 h2 h3)
        go_roundg (l.length - i)
        case rel =>
          refine ⟨i + 1, ⟨by go_num⟩, ⟨by omega, by omega⟩, ⟨?_⟩, ⟨?_⟩, ⟨?_⟩⟩
          · rw [take_snoc' l i hlt, List.all_append, HF.out]
            have h1 : szOk l[i] = true := by unfold szOk; simpa using HSZ.out
            simp [h1]
          · rw [take_snoc' l i hlt, List.map_append, List.map_cons, List.map_nil, cellsA_snoc]
            exact H1.out
          · exact ((below_dn (HB.out.alloc hbs _) _).alloc (by simp; omega) _).grown H2.out (by simp; omega) (fun q hq => (HO.out.lt q hq).1)
        case measure => have := HQ.out; omega
    · obtain rfl : i = l.length := by omega
      obtain ⟨g, cap, hv, hg1, hg2⟩ := HO.out.form (by omega)
      subst hv
      have hcaps : l.length ≤ cap ∧ cap ≤ maxLen := by
        rcases HO.out.2 with ⟨q, _⟩ | ⟨g2, cap2, cur, q, _, _, q3, q4, _⟩
        · cases q
        · cases q
          exact ⟨q3, q4⟩
      obtain ⟨hcap, hcapm⟩ := hcaps
      have hcc := HO.out.cells (g := g) rfl
      have HCC : Aside0 (∀ (i : Nat) (a : Int × Int), (l.map slA)[i]? = some a → wr.cell? ⟨g, i * 2, none⟩ = some (.int .i64 a.1) ∧ wr.cell? ⟨g, i * 2 + 1, none⟩ = some (.int .i64 a.2)) := ⟨fun i a hi => by
        have ea : ∀ m, (⟨g, 0, none⟩ : Addr).add m = ⟨g, m, none⟩ := fun m => by unfold Addr.add; split <;> simp_all
        obtain ⟨q1, q2⟩ := cellsA_at _ i a hi
        exact ⟨by rw [← ea]; exact hcc _ _ (by simpa using q1), by rw [← ea]; exact hcc _ _ (by simpa using q2)⟩⟩
      clear hcc
      have hlt1 : w.heap.size < wr.heap.size := by omega
      have hmm := (HB.out.block _ (Nat.lt_succ_self _)).trans HNM.out
      have m4 : wr.cell? ⟨w.heap.size, 4, none⟩ = some (.int .i64 u) := (blk_cell hmm 4).trans rfl
      have m6 : wr.cell? ⟨w.heap.size, 6, none⟩ = some (.int .i64 h) := (blk_cell hmm 6).trans rfl
      have m7 : wr.cell? ⟨w.heap.size, 7, none⟩ = some (.int .i64 k) := (blk_cell hmm 7).trans rfl
      have m14 : wr.cell? ⟨w.heap.size, 14, none⟩ = some (.bool false) := (blk_cell hmm 14).trans rfl
      have m15 : wr.cell? ⟨w.heap.size, 15, none⟩ = some (.int .u64 r.fr) := (blk_cell hmm 15).trans rfl
      have m16 : wr.cell? ⟨w.heap.size, 16, none⟩ = some (.int .u64 r.nx) := (blk_cell hmm 16).trans rfl
      have m17 : wr.cell? ⟨w.heap.size, 17, none⟩ = some (.bool r.back) := (blk_cell hmm 17).trans rfl
      have m18 : wr.cell? ⟨w.heap.size, 18, none⟩ = some (.int .i64 r.mode) := (blk_cell hmm 18).trans rfl
      have m19 : wr.cell? ⟨w.heap.size, 19, none⟩ = some (.int .u64 r.hot) := (blk_cell hmm 19).trans rfl
      have m20 : wr.cell? ⟨w.heap.size, 20, none⟩ = some (.int .u64 r.dn) := (blk_cell hmm 20).trans rfl
      have m21 : wr.cell? ⟨w.heap.size, 21, none⟩ = some (.int .i64 r.off) := (blk_cell hmm 21).trans rfl
      have m22 : wr.cell? ⟨w.heap.size, 22, none⟩ = some (.int .i64 r.size) := (blk_cell hmm 22).trans rfl
      have m23 : wr.cell? ⟨w.heap.size, 23, none⟩ = some (.bool r.act) := (blk_cell hmm 23).trans rfl
      have m24 : wr.cell? ⟨w.heap.size, 24, none⟩ = some (.int .u64 r.cnt) := (blk_cell hmm 24).trans rfl
      have m25 : wr.cell? ⟨w.heap.size, 25, none⟩ = some (.string r.sum) := (blk_cell hmm 25).trans rfl
      clear hmm
      have HWR : Aside0 (Below w.heap.size w wr) := ⟨HZ.out.trans (HB.out.mono (Nat.le_succ _))⟩
      obtain ⟨wo, rfl⟩ : ∃ wo : World, wo = wr := ⟨_, rfl⟩
      obtain ⟨al, hal⟩ : ∃ al, al = l.map slA := ⟨_, rfl⟩
      rw [← hal] at HCC
      have HLN : Aside0 (al.length = l.length) := ⟨by rw [hal]; simp⟩
      have HAB : Aside0 (areasB false u h k l r = chkA (2 * h) (2 * h + k) [] al) := ⟨by
        rw [hal]
        have hall := HF.out
        rw [List.take_length] at hall
        simp [areasB, areasL, hall]⟩
      have HNN : Aside0 (∀ a ∈ al, 0 ≤ a.2) := ⟨by
        intro a ha
        rw [hal] at ha
        have hall := HF.out
        rw [List.take_length] at hall
        obtain ⟨s, hs, rfl⟩ := List.mem_map.1 ha
        exact szOk_nn (List.all_eq_true.1 hall s hs)⟩
      clear hal
      go_wp2_with fail
      have hbz : wo.heap.size ≤ (wo.alloc (.cells #[.bool false, .int .u64 r.fr, .int .u64 r.nx, .bool r.back, .int .i64 r.mode, .int .u64 r.hot, .int .u64 r.dn, .int .i64 r.off, .int .i64 r.size, .bool r.act, .int .u64 r.cnt, .string r.sum] 33)).heap.size := by simp
      go_loopg [65] (l.length + 1) (fun kq s65 wr => ∃ i : Nat, Aside0 (s65 = .int .i64 (i : Int)) ∧ Aside0 (i ≤ l.length ∧ kq + i = l.length + 1) ∧ Aside0 (chkA (2 * h) (2 * h + k) [] al = chkA (2 * h) (2 * h + k) (al.take i) (al.drop i)) ∧ Aside0 (∀ a ∈ al.take i, okA (2 * h) (2 * h + k) a = true) ∧ Aside0 (Below wo.heap.size wo wr))
      case atStart => exact ⟨0, ⟨rfl⟩, ⟨by omega⟩, ⟨rfl⟩, ⟨fun a ha => by simp at ha⟩, ⟨b_alloc wo _⟩⟩
      case round =>
        obtain ⟨i, H65, HI, HF2, HK, HB2⟩ := hrel
        obtain rfl := H65.out
        obtain ⟨hi, hk⟩ := HI.out
        have HQ := Aside0.mk hk
        clear hk
        have hbs2 : wo.heap.size ≤ wr.heap.size := HB2.out.size
        by_cases hlt : i < l.length
        · have hlt2 : i < al.length := by rw [HLN.out]; exact hlt
          obtain ⟨⟨x, y⟩, hxy⟩ : ∃ p : Int × Int, al[i] = p := ⟨_, rfl⟩
          have hsm : al[i]? = some (x, y) := by rw [List.getElem?_eq_getElem hlt2, hxy]
          obtain ⟨c0, c1⟩ := HCC.out i (x, y) hsm
          replace c0 := (HB2.out.cell (World.block_lt_of_cell? _ _ c0)).trans c0
          replace c1 := (HB2.out.cell (World.block_lt_of_cell? _ _ c1)).trans c1
          dsimp only at c0 c1
          have hy0 : 0 ≤ y := HNN.out (x, y) (List.mem_of_getElem? hsm)
          have HD : Aside0 (areasB false u h k l r = (okA (2 * h) (2 * h + k) (x, y) && !((al.take i).any (meetsB (x, y))) && chkA (2 * h) (2 * h + k) (al.take i ++ [(x, y)]) (al.drop (i + 1)))) := ⟨by
            rw [HAB.out, HF2.out, List.drop_eq_getElem_cons hlt2, hxy]
            rfl⟩
          have HTK : Aside0 (al.take (i + 1) = al.take i ++ [(x, y)]) := ⟨by rw [take_snoc' al i hlt2, hxy]⟩
          clear hsm hxy
          have g0 : (0 : Int) ≤ (i : Int) := by omega
          cases hok : okA (2 * h) (2 * h + k) (x, y) with
          | false =>
            have HNO : Aside0 (areasB false u h k l r = false) := ⟨by rw [HD.out, hok]; rfl⟩
            have HOK := Aside0.mk hok
            clear hok
            by_cases hneg : x < 0
            · have hx1 : decide (x < 2 * h) = true := decide_eq_true (by omega)
              go_wp2_with fail
              all_goals go_ret
              all_goals exact ⟨by rw [HNO.out]; rfl, (HWR.out.trans (HB2.out.mono HWR.out.size)).alloc (by have := HWR.out.size; omega) _⟩
            · have hx0 : 0 ≤ x := by omega
              have hno : ¬ (x % 4096 = 0 ∧ y % 4096 = 0 ∧ 2 * h ≤ x ∧ x ≤ 2 * h + k ∧ y ≤ 2 * h + k - x) := by
                have := HOK.out
                unfold okA at this
                simpa using this
              have HNO2 := Aside0.mk hno
              clear hno hneg
              go_wp2_with fail
              all_goals try (
                go_ret
                exact ⟨by rw [HNO.out]; rfl, (HWR.out.trans (HB2.out.mono HWR.out.size)).alloc (by have := HWR.out.size; omega) _⟩)
              all_goals (exfalso; have := HNO2.out; omega)
          | true =>
            have hyes : x % 4096 = 0 ∧ y % 4096 = 0 ∧ 2 * h ≤ x ∧ x ≤ 2 * h + k ∧ y ≤ 2 * h + k - x := by
              unfold okA at hok
              simpa using hok
            have HOK := Aside0.mk hok
            obtain ⟨y1, y2, y3, y4, y5⟩ := hyes
            have t1 : (x % 4096 != 0) = false := by simp [y1]
            have t2 : (y % 4096 != 0) = false := by simp [y2]
            have t3 : decide (x < 2 * h) = false := decide_eq_false (by omega)
            have t4 : decide (2 * h + k < x) = false := decide_eq_false (by omega)
            have t5 : decide (2 * h + k - x < y) = false := decide_eq_false (by omega)
            have hx0 : 0 ≤ x := by omega
            clear hok y1 y2
            have e1 : 0 ≤ x + y := by omega
            have e2 : x + y ≤ 2 * h + k := by omega
            have hic : i ≤ cap := Nat.le_trans (by omega) hcap
            have hicz : (i : Int) ≤ (cap : Int) := by omega
            have hcz : (cap : Int) ≤ 9223372036854775807 := by have := hcapm; unfold maxLen at this; omega
            go_wp2_with fail
            obtain ⟨wp, rfl⟩ : ∃ wp : World, wp = wr := ⟨_, rfl⟩
            go_loopg [105] (i + 1) (fun kq s105 w3 => ∃ j : Nat, Aside0 (s105 = .int .i64 (j : Int)) ∧ Aside0 (j ≤ i ∧ kq + j = i + 1) ∧ Aside0 ((al.take j).any (meetsB (x, y)) = false) ∧ Aside0 (Below (wp.heap.size + 1) (wp.alloc (.cells #[.int .i64 x, .int .i64 y] 31)) w3))
            case atStart => exact ⟨0, ⟨rfl⟩, ⟨by omega⟩, ⟨rfl⟩, ⟨Below.refl _ _⟩⟩
            case round =>
              obtain ⟨j, H105, HJ, HM, HB3⟩ := hrel
              obtain rfl := H105.out
              obtain ⟨hj, hkj⟩ := HJ.out
              have HQJ := Aside0.mk hkj
              clear hkj
              have hbs3 : wp.heap.size + 1 ≤ wr.heap.size := by have := HB3.out.size; simp at this; omega
              have qx := (HB3.out.block _ (Nat.lt_succ_self _)).trans (blk_new wp (.cells #[.int .i64 x, .int .i64 y] 31))
              have qx0 : wr.cell? ⟨wp.heap.size, 0, none⟩ = some (.int .i64 x) := (blk_cell qx 0).trans rfl
              have qx1 : wr.cell? ⟨wp.heap.size, 1, none⟩ = some (.int .i64 y) := (blk_cell qx 1).trans rfl
              have hltp : wp.heap.size < wr.heap.size := by omega
              clear qx
              by_cases hjl : j < i
              · have hj2 : j < al.length := by omega
                obtain ⟨⟨p, q⟩, hpq⟩ : ∃ z : Int × Int, al[j] = z := ⟨_, rfl⟩
                have hsj : al[j]? = some (p, q) := by rw [List.getElem?_eq_getElem hj2, hpq]
                obtain ⟨d0, d1⟩ := HCC.out j (p, q) hsj
                replace d0 := (HB3.out.cell (by have := World.block_lt_of_cell? _ _ d0; omega)).trans (((b_alloc wp _).cell (by have := World.block_lt_of_cell? _ _ d0; omega)).trans ((HB2.out.cell (World.block_lt_of_cell? _ _ d0)).trans d0))
                replace d1 := (HB3.out.cell (by have := World.block_lt_of_cell? _ _ d1; omega)).trans (((b_alloc wp _).cell (by have := World.block_lt_of_cell? _ _ d1; omega)).trans ((HB2.out.cell (World.block_lt_of_cell? _ _ d1)).trans d1))
                dsimp only at d0 d1
                have hq0 : 0 ≤ q := HNN.out (p, q) (List.mem_of_getElem? hsj)
                have hmem : (p, q) ∈ al.take i := by
                  rw [List.mem_take_iff_getElem]
                  exact ⟨j, by omega, hpq⟩
                have hpok := HK.out (p, q) hmem
                unfold okA at hpok
                obtain ⟨p1, p2, p3, p4, p5⟩ := of_decide_eq_true hpok
                dsimp only at p3 p4 p5
                have HMJ : Aside0 ((al.take (j + 1)).any (meetsB (x, y)) = meetsB (x, y) (p, q)) := ⟨by rw [take_snoc' al j hj2, hpq, List.any_append, HM.out]; simp⟩
                have HMI : Aside0 (meetsB (x, y) (p, q) = true → (al.take i).any (meetsB (x, y)) = true) := ⟨fun hm => List.any_eq_true.2 ⟨(p, q), hmem, hm⟩⟩
                have s0 : 0 ≤ p + q := by omega
                have s1 : p + q ≤ 2 * h + k := by omega
                have gj : (0 : Int) ≤ (j : Int) := by omega
                clear hsj hpq hmem hpok p1 p2
                by_cases m1 : x < p + q
                · by_cases m2 : p < x + y
                  · have HMT : Aside0 (areasB false u h k l r = false) := ⟨by
                      have := HMI.out (by simp [meetsB, m1, m2])
                      rw [HD.out, this]
                      simp⟩
                    go_wp2_with fail
                    go_ret
                    exact ⟨by rw [HMT.out]; rfl, (HWR.out.trans ((HB2.out.alloc hbs2 _).mono HWR.out.size)).trans ((HB3.out.mono (by have := HWR.out.size; omega)).alloc (by have := HWR.out.size; omega) _)⟩
                  · have HMF : Aside0 (meetsB (x, y) (p, q) = false) := ⟨by simp [meetsB, m2]⟩
                    go_wp2_with fail
                    go_roundg (i - j)
                    case rel => exact ⟨j + 1, ⟨by go_num⟩, ⟨by omega, by omega⟩, ⟨by rw [HMJ.out, HMF.out]⟩, ⟨HB3.out.alloc hbs3 _⟩⟩
                    case measure => have := HQJ.out; omega
                · have HMF : Aside0 (meetsB (x, y) (p, q) = false) := ⟨by simp [meetsB, m1]⟩
                  go_wp2_with fail
                  go_roundg (i - j)
                  case rel => exact ⟨j + 1, ⟨by go_num⟩, ⟨by omega, by omega⟩, ⟨by rw [HMJ.out, HMF.out]⟩, ⟨HB3.out.alloc hbs3 _⟩⟩
                  case measure => have := HQJ.out; omega
              · obtain rfl : j = i := by omega
                go_wp2_with fail
                go_roundg (l.length - j)
                case rel =>
                  refine ⟨j + 1, ⟨by go_num⟩, ⟨by omega, by have := HQ.out; omega⟩, ⟨?_⟩, ⟨?_⟩, ⟨?_⟩⟩
                  · have := HD.out
                    rw [HAB.out, HOK.out, HM.out] at this
                    rw [this, HTK.out]
                    simp
                  · intro a ha
                    rw [HTK.out] at ha
                    rcases List.mem_append.1 ha with ha | ha
                    · exact HK.out a ha
                    · rw [List.mem_singleton.1 ha]
                      exact HOK.out
                  · exact (HB2.out.alloc hbs2 _).trans (HB3.out.mono (by omega))
                case measure => have := HQ.out; omega
        · obtain rfl : i = l.length := by omega
          go_wp2_with fail
          go_ret
          refine ⟨?_, HWR.out.trans (HB2.out.mono HWR.out.size)⟩
          rw [HAB.out, HF2.out, List.drop_of_length_le (by rw [HLN.out]; exact Nat.le_refl _)]
          rfl
theorem journalSize_nn (mode hot u : Int) (hh : 0 ≤ hot) : 0 ≤ journalSize mode hot u := by
  unfold journalSize upv
  by_cases h0 : hot < 1 ∨ hot > 4096 ∨ isUnit u = false
  · rw [if_pos h0]
    omega
  · rw [if_neg h0]
    have hu : isUnit u = true := by
      cases hq : isUnit u with
      | true => rfl
      | false => exact absurd (.inr (.inr hq)) h0
    have hb := isUnit_bd hu
    have hm : 0 ≤ hot * u := Int.mul_nonneg hh (by omega)
    split
    · omega
    · split <;> omega
set_option maxHeartbeats 16000000 in
set_option maxRecDepth 100000 in
theorem areas_on (v0 v1 v2 v3 v5 v8 v9 v10 v12 v13 v26 : Value) (u h k : Int) (A : Option Addr) (c : Nat) (l : List S53) (r : RotV) (w : World) (hR : Kd.C k53 w A l.length l) (hl0 : 1 ≤ l.length) (hl : l.length ≤ 1000000) (h1 : 16384 ≤ h) (h2 : h ≤ 4194304) (k1 : 4096 ≤ k) (k2 : k ≤ 134217728) (hhot : 0 ≤ r.hot) (hU : UnitsAt w) :
    Calls Tryz.prog 32 #[.agg #[v0, v1, v2, v3, .int .i64 u, v5, .int .i64 h, .int .i64 k, v8, v9, v10, .slice A l.length c, v12, v13, .bool true, .int .u64 r.fr, .int .u64 r.nx, .bool r.back, .int .i64 r.mode, .int .u64 r.hot, .int .u64 r.dn, .int .i64 r.off, .int .i64 r.size, .bool r.act, .int .u64 r.cnt, .string r.sum, v26]] w (RuleEnd w (areasB true u h k l r)) := by
  have hz : Below w.heap.size w (w.alloc (.cells #[v0, v1, v2, v3, .int .i64 u, v5, .int .i64 h, .int .i64 k, v8, v9, v10, .slice A l.length c, v12, v13, .bool true, .int .u64 r.fr, .int .u64 r.nx, .bool r.back, .int .i64 r.mode, .int .u64 r.hot, .int .u64 r.dn, .int .i64 r.off, .int .i64 r.size, .bool r.act, .int .u64 r.cnt, .string r.sum, v26] 36)) := b_alloc w _
  have HNM := Aside0.mk (blk_new w (.cells #[v0, v1, v2, v3, .int .i64 u, v5, .int .i64 h, .int .i64 k, v8, v9, v10, .slice A l.length c, v12, v13, .bool true, .int .u64 r.fr, .int .u64 r.nx, .bool r.back, .int .i64 r.mode, .int .u64 r.hot, .int .u64 r.dn, .int .i64 r.off, .int .i64 r.size, .bool r.act, .int .u64 r.cnt, .string r.sum, v26] 36))
  obtain ⟨i0, hi0, hz0, hs0, hb0⟩ := info_parts info31
  have HR := Aside0.mk hR
  have HZ := Aside0.mk hz
  clear hR hz
  have HU := Aside0.mk hU
  clear hU
  go_enter Tryz.func32, Tryz.ntmps32
  go_wp2_with fail
  go_loopg [3, 16] (l.length + 1) (fun kq s3 s16 wr => ∃ i : Nat, Aside0 (s16 = .int .i64 (i : Int)) ∧ Aside0 (i ≤ l.length ∧ kq + i = l.length + 1) ∧ Aside0 ((l.take i).all szOk = true) ∧ Aside0 (wr.ownsRow (w.heap.size + 1) 31 2 s3 i (cellsA ((l.take i).map slA))) ∧ Aside0 (Below (w.heap.size + 1) (w.alloc (.cells #[v0, v1, v2, v3, .int .i64 u, v5, .int .i64 h, .int .i64 k, v8, v9, v10, .slice A l.length c, v12, v13, .bool true, .int .u64 r.fr, .int .u64 r.nx, .bool r.back, .int .i64 r.mode, .int .u64 r.hot, .int .u64 r.dn, .int .i64 r.off, .int .i64 r.size, .bool r.act, .int .u64 r.cnt, .string r.sum, v26] 36)) wr))
  case atStart => exact ⟨0, ⟨rfl⟩, ⟨by omega⟩, ⟨rfl⟩, ⟨World.ownsRow_nil _ _ _ _⟩, ⟨Below.refl _ _⟩⟩
  case round =>
    obtain ⟨i, H16, HI, HF, HO, HB⟩ := hrel
    obtain rfl := H16.out
    obtain ⟨hi, hk⟩ := HI.out
    have HQ := Aside0.mk hk
    clear hk
    have hbs : w.heap.size + 1 ≤ wr.heap.size := by have := HB.out.size; simp at this; omega
    by_cases hlt : i < l.length
    · obtain ⟨ad, e, c0, c1, c2, c3, c4, c5, c6, c7, c8⟩ := at_T53 HR.out (i : Int) (by omega) (by omega)
      have hx : rd_T53 l (i : Int) = l[i] := by
        unfold rd_T53
        rw [Int.toNat_natCast, List.getD_eq_getElem?_getD, List.getElem?_eq_getElem hlt]
        rfl
      rw [hx] at c0 c1 c2 c3 c4 c5 c6 c7 c8
      rw [Int.toNat_natCast] at c0 c1 c2 c3 c4 c5 c6 c7 c8
      have mv : ∀ {a : Addr} {u : Value}, w.cell? a = some u → wr.cell? a = some u := fun h => (HB.out.cell (by have := World.block_lt_of_cell? w _ h; omega)).trans ((HZ.out.cell (World.block_lt_of_cell? w _ h)).trans h)
      replace c0 := mv c0
      replace c1 := mv c1
      replace c2 := mv c2
      replace c3 := mv c3
      replace c4 := mv c4
      replace c5 := mv c5
      replace c6 := mv c6
      replace c7 := mv c7
      replace c8 := mv c8
      clear mv hx
      cases e
      cases hsz : (l[i].f7.f1 != slotSize l[i].f6) with
      | true =>
        have HSZ := Aside0.mk hsz
        go_wp2_with fail
        go_quiet ((go_at_call 52; exact Calls.quiet_of (slotSize_call _ _)))
        go_wp2_with fail
        go_ret
        refine ⟨?_, ?_⟩
        · have h1 : szOk l[i] = false := by unfold szOk; simpa using HSZ.out
          have h2 : l.all szOk = false := by rw [List.all_eq_false]; exact ⟨l[i], List.getElem_mem hlt, by simp [h1]⟩
          rw [show areasB true u h k l r = false by simp [areasB, h2]]
          rfl
        · exact below_dn (((HZ.out.trans (HB.out.mono (Nat.le_succ _)))).alloc (by omega) _) _
      | false =>
        have HSZ := Aside0.mk hsz
        have hm0 : (l.length : Int) ≤ 4611686018427387904 := by omega
        go_wp2_with fail
        go_quiet ((go_at_call 52; exact Calls.quiet_of (slotSize_call _ _)))
        go_wp2_with (at_builtin; refine wpList_append_lies _ rfl (.tmp 27) (.tmp 30) 93 rfl (w.heap.size + 1) 31 i0 _ 2 16 Tryz.underlying93 hi0 hz0 hs0 hb0 rfl (by decide) _ i _ rfl ((HO.out.alloc _).alloc _) ⟨wr.heap.size + 1, 0, none⟩ 1 1 [.int .i64 l[i].f7.f0, .int .i64 l[i].f7.f1] rfl rfl (World.news_of_block (blk_new' _ _ _ (by simp))) one2 (by decide) (by unfold maxLen; omega) (by omega) (by simp; omega) _ rfl ?_; intro g' cap w1 h1 h2 h3 h4; have H1 := Aside0.mk h1; have H2 := Aside0.mk h2; clear h1 h2 h3)
        go_roundg (l.length - i)
        case rel =>
          refine ⟨i + 1, ⟨by go_num⟩, ⟨by omega, by omega⟩, ⟨?_⟩, ⟨?_⟩, ⟨?_⟩⟩
          · rw [take_snoc' l i hlt, List.all_append, HF.out]
            have h1 : szOk l[i] = true := by unfold szOk; simpa using HSZ.out
            simp [h1]
          · rw [take_snoc' l i hlt, List.map_append, List.map_cons, List.map_nil, cellsA_snoc]
            exact H1.out
          · exact ((below_dn (HB.out.alloc hbs _) _).alloc (by simp; omega) _).grown H2.out (by simp; omega) (fun q hq => (HO.out.lt q hq).1)
        case measure => have := HQ.out; omega
    · obtain rfl : i = l.length := by omega
      obtain ⟨g, capo, hv, hg1, hg2⟩ := HO.out.form (by omega)
      subst hv
      have hmm := (HB.out.block _ (Nat.lt_succ_self _)).trans HNM.out
      have m4 : wr.cell? ⟨w.heap.size, 4, none⟩ = some (.int .i64 u) := (blk_cell hmm 4).trans rfl
      have m6 : wr.cell? ⟨w.heap.size, 6, none⟩ = some (.int .i64 h) := (blk_cell hmm 6).trans rfl
      have m7 : wr.cell? ⟨w.heap.size, 7, none⟩ = some (.int .i64 k) := (blk_cell hmm 7).trans rfl
      have m14 : wr.cell? ⟨w.heap.size, 14, none⟩ = some (.bool true) := (blk_cell hmm 14).trans rfl
      have m15 : wr.cell? ⟨w.heap.size, 15, none⟩ = some (.int .u64 r.fr) := (blk_cell hmm 15).trans rfl
      have m16 : wr.cell? ⟨w.heap.size, 16, none⟩ = some (.int .u64 r.nx) := (blk_cell hmm 16).trans rfl
      have m17 : wr.cell? ⟨w.heap.size, 17, none⟩ = some (.bool r.back) := (blk_cell hmm 17).trans rfl
      have m18 : wr.cell? ⟨w.heap.size, 18, none⟩ = some (.int .i64 r.mode) := (blk_cell hmm 18).trans rfl
      have m19 : wr.cell? ⟨w.heap.size, 19, none⟩ = some (.int .u64 r.hot) := (blk_cell hmm 19).trans rfl
      have m20 : wr.cell? ⟨w.heap.size, 20, none⟩ = some (.int .u64 r.dn) := (blk_cell hmm 20).trans rfl
      have m21 : wr.cell? ⟨w.heap.size, 21, none⟩ = some (.int .i64 r.off) := (blk_cell hmm 21).trans rfl
      have m22 : wr.cell? ⟨w.heap.size, 22, none⟩ = some (.int .i64 r.size) := (blk_cell hmm 22).trans rfl
      have m23 : wr.cell? ⟨w.heap.size, 23, none⟩ = some (.bool r.act) := (blk_cell hmm 23).trans rfl
      have m24 : wr.cell? ⟨w.heap.size, 24, none⟩ = some (.int .u64 r.cnt) := (blk_cell hmm 24).trans rfl
      have m25 : wr.cell? ⟨w.heap.size, 25, none⟩ = some (.string r.sum) := (blk_cell hmm 25).trans rfl
      clear hmm
      have HWR : Aside0 (Below w.heap.size w wr) := ⟨HZ.out.trans (HB.out.mono (Nat.le_succ _))⟩
      have hlt1 : w.heap.size < wr.heap.size := by omega
      have HUW : Aside0 (UnitsAt (wr.alloc (.cells #[.bool true, .int .u64 r.fr, .int .u64 r.nx, .bool r.back, .int .i64 r.mode, .int .u64 r.hot, .int .u64 r.dn, .int .i64 r.off, .int .i64 r.size, .bool r.act, .int .u64 r.cnt, .string r.sum] 33))) := ⟨HU.out.later (HWR.out.alloc HWR.out.size _)⟩
      obtain ⟨wz, rfl⟩ : ∃ wz : World, wz = wr := ⟨_, rfl⟩
      have hm0 : (l.length : Int) ≤ 4611686018427387904 := by omega
      cases hjs : decide (r.size < journalSize r.mode r.hot u) with
      | true =>
        have HJS := Aside0.mk hjs
        go_wp2_with fail
        go_quiet ((go_at_call 53; exact Calls.quiet_of (journalSize_call _ _ _ hhot _ (UnitsAt.drewN HUW.out _))))
        go_wp2_with fail
        go_ret
        refine ⟨?_, ?_⟩
        · have h1 : decide (journalSize r.mode r.hot u ≤ r.size) = false := by
            have := HJS.out
            simp at this ⊢
            omega
          rw [show areasB true u h k l r = false by simp only [areasB, h1]; simp]
          rfl
        · exact below_dn (HWR.out.alloc HWR.out.size _) _
      | false =>
        have HJS := Aside0.mk hjs
        go_wp2_with fail
        go_quiet ((go_at_call 53; exact Calls.quiet_of (journalSize_call _ _ _ hhot _ (UnitsAt.drewN HUW.out _))))
        have hlt2 : w.heap.size < wz.heap.size + 1 := by omega
        have HRL : Aside0 (((wz.alloc (.cells #[.bool true, .int .u64 r.fr, .int .u64 r.nx, .bool r.back, .int .i64 r.mode, .int .u64 r.hot, .int .u64 r.dn, .int .i64 r.off, .int .i64 r.size, .bool r.act, .int .u64 r.cnt, .string r.sum] 33)).heap)[w.heap.size]? = some (.cells #[v0, v1, v2, v3, .int .i64 u, v5, .int .i64 h, .int .i64 k, v8, v9, v10, .slice A l.length c, v12, v13, .bool true, .int .u64 r.fr, .int .u64 r.nx, .bool r.back, .int .i64 r.mode, .int .u64 r.hot, .int .u64 r.dn, .int .i64 r.off, .int .i64 r.size, .bool r.act, .int .u64 r.cnt, .string r.sum, v26] 36 (0, 0))) := ⟨((b_alloc wz _).block _ (by omega)).trans ((HB.out.block _ (Nat.lt_succ_self _)).trans HNM.out)⟩
        go_wp2_with (at_builtin; refine wpList_append_lies _ rfl (.tmp 49) (.tmp 52) 93 rfl (w.heap.size + 1) 31 i0 _ 2 16 Tryz.underlying93 hi0 hz0 hs0 hb0 rfl (by decide) _ l.length _ rfl ((HO.out.alloc _).alloc _) ⟨wz.heap.size + 1, 0, none⟩ 1 1 [.int .i64 r.off, .int .i64 r.size] rfl rfl (World.news_of_block (blk_new' _ _ _ (by simp))) one2 (by decide) (by unfold maxLen; omega) (by omega) (by simp; omega) _ rfl ?_; intro g' cap w1 q1 q2 q3 q4; have HOW := Aside0.mk q1; have hbw1 := ((below_dn (HB.out.alloc hbs _) _).alloc (by simp; omega) _).grown q2 (by simp; omega) (fun q hq => (HO.out.lt q hq).1); have qm := (hbw1.block _ (Nat.lt_succ_self _)).trans HNM.out; have n4 : w1.cell? ⟨w.heap.size, 4, none⟩ = some (.int .i64 u) := (blk_cell qm 4).trans rfl; have n6 : w1.cell? ⟨w.heap.size, 6, none⟩ = some (.int .i64 h) := (blk_cell qm 6).trans rfl; have n7 : w1.cell? ⟨w.heap.size, 7, none⟩ = some (.int .i64 k) := (blk_cell qm 7).trans rfl; have HBW1 := Aside0.mk hbw1; clear q1 q2 q3 q4 qm hbw1; generalize hN : l.length + 1 = N at *; have HNQ := Aside0.mk hN; clear hN)
        obtain ⟨wr, rfl⟩ : ∃ wr : World, wr = w1 := ⟨_, rfl⟩
        have hN := HNQ.out
        have hcaps : N ≤ cap ∧ cap ≤ maxLen := by
          rcases HOW.out.2 with ⟨q, _⟩ | ⟨g2, cap2, cur, q, _, _, q3, q4, _⟩
          · cases q
          · cases q
            exact ⟨q3, q4⟩
        obtain ⟨hcap, hcapm⟩ := hcaps
        have hcc := HOW.out.cells (g := g') rfl
        have HCC : Aside0 (∀ (i : Nat) (a : Int × Int), (l.map slA ++ [(r.off, r.size)])[i]? = some a → wr.cell? ⟨g', i * 2, none⟩ = some (.int .i64 a.1) ∧ wr.cell? ⟨g', i * 2 + 1, none⟩ = some (.int .i64 a.2)) := ⟨fun i a hi => by
          have ea : ∀ m, (⟨g', 0, none⟩ : Addr).add m = ⟨g', m, none⟩ := fun m => by unfold Addr.add; split <;> simp_all
          obtain ⟨q1, q2⟩ := cellsA_at _ i a hi
          rw [cellsA_snoc] at q1 q2
          exact ⟨by rw [← ea]; exact hcc _ _ (by simpa using q1), by rw [← ea]; exact hcc _ _ (by simpa using q2)⟩⟩
        clear hcc
        have HWR1 : Aside0 (Below w.heap.size w wr) := ⟨HZ.out.trans (HBW1.out.mono (Nat.le_succ _))⟩
        have hlw : w.heap.size < wr.heap.size := by have := HBW1.out.size; simp at this; omega
        obtain ⟨wo, rfl⟩ : ∃ wo : World, wo = wr := ⟨_, rfl⟩
        obtain ⟨al, hal⟩ : ∃ al, al = l.map slA ++ [(r.off, r.size)] := ⟨_, rfl⟩
        rw [← hal] at HCC
        have HLN : Aside0 (al.length = N) := ⟨by rw [hal, ← HNQ.out]; simp⟩
        have HAB : Aside0 (areasB true u h k l r = chkA (2 * h) (2 * h + k) [] al) := ⟨by
          rw [hal]
          have hall := HF.out
          rw [List.take_length] at hall
          have hj : decide (journalSize r.mode r.hot u ≤ r.size) = true := by have := HJS.out; simp at this ⊢; omega
          simp [areasB, areasL, hall, hj]⟩
        have HNN : Aside0 (∀ a ∈ al, 0 ≤ a.2) := ⟨by
          intro a ha
          rw [hal] at ha
          have hall := HF.out
          rw [List.take_length] at hall
          rcases List.mem_append.1 ha with ha | ha
          · obtain ⟨s, hs, rfl⟩ := List.mem_map.1 ha
            exact szOk_nn (List.all_eq_true.1 hall s hs)
          · rw [List.mem_singleton.1 ha]
            have hj := HJS.out
            simp at hj
            have := journalSize_nn r.mode r.hot u hhot
            show 0 ≤ r.size
            omega⟩
        clear hal
        go_wp2_with fail
        have hbz : wo.heap.size ≤ (wo).heap.size := by simp
        go_loopg [65] (N + 1) (fun kq s65 wr => ∃ i : Nat, Aside0 (s65 = .int .i64 (i : Int)) ∧ Aside0 (i ≤ N ∧ kq + i = N + 1) ∧ Aside0 (chkA (2 * h) (2 * h + k) [] al = chkA (2 * h) (2 * h + k) (al.take i) (al.drop i)) ∧ Aside0 (∀ a ∈ al.take i, okA (2 * h) (2 * h + k) a = true) ∧ Aside0 (Below wo.heap.size wo wr))
        case atStart => exact ⟨0, ⟨rfl⟩, ⟨by omega⟩, ⟨rfl⟩, ⟨fun a ha => by simp at ha⟩, ⟨Below.refl _ _⟩⟩
        case round =>
          obtain ⟨i, H65, HI, HF2, HK, HB2⟩ := hrel
          obtain rfl := H65.out
          obtain ⟨hi, hk⟩ := HI.out
          have HQ := Aside0.mk hk
          clear hk
          have hbs2 : wo.heap.size ≤ wr.heap.size := HB2.out.size
          by_cases hlt : i < N
          · have hlt2 : i < al.length := by rw [HLN.out]; exact hlt
            obtain ⟨⟨x, y⟩, hxy⟩ : ∃ p : Int × Int, al[i] = p := ⟨_, rfl⟩
            have hsm : al[i]? = some (x, y) := by rw [List.getElem?_eq_getElem hlt2, hxy]
            obtain ⟨c0, c1⟩ := HCC.out i (x, y) hsm
            replace c0 := (HB2.out.cell (World.block_lt_of_cell? _ _ c0)).trans c0
            replace c1 := (HB2.out.cell (World.block_lt_of_cell? _ _ c1)).trans c1
            dsimp only at c0 c1
            have hy0 : 0 ≤ y := HNN.out (x, y) (List.mem_of_getElem? hsm)
            have HD : Aside0 (areasB true u h k l r = (okA (2 * h) (2 * h + k) (x, y) && !((al.take i).any (meetsB (x, y))) && chkA (2 * h) (2 * h + k) (al.take i ++ [(x, y)]) (al.drop (i + 1)))) := ⟨by
              rw [HAB.out, HF2.out, List.drop_eq_getElem_cons hlt2, hxy]
              rfl⟩
            have HTK : Aside0 (al.take (i + 1) = al.take i ++ [(x, y)]) := ⟨by rw [take_snoc' al i hlt2, hxy]⟩
            clear hsm hxy
            have g0 : (0 : Int) ≤ (i : Int) := by omega
            cases hok : okA (2 * h) (2 * h + k) (x, y) with
            | false =>
              have HNO : Aside0 (areasB true u h k l r = false) := ⟨by rw [HD.out, hok]; rfl⟩
              have HOK := Aside0.mk hok
              clear hok
              by_cases hneg : x < 0
              · have hx1 : decide (x < 2 * h) = true := decide_eq_true (by omega)
                go_wp2_with fail
                all_goals go_ret
                all_goals exact ⟨by rw [HNO.out]; rfl, (HWR1.out.trans (HB2.out.mono HWR1.out.size)).alloc (by have := HWR1.out.size; omega) _⟩
              · have hx0 : 0 ≤ x := by omega
                have hno : ¬ (x % 4096 = 0 ∧ y % 4096 = 0 ∧ 2 * h ≤ x ∧ x ≤ 2 * h + k ∧ y ≤ 2 * h + k - x) := by
                  have := HOK.out
                  unfold okA at this
                  simpa using this
                have HNO2 := Aside0.mk hno
                clear hno hneg
                go_wp2_with fail
                all_goals try (
                  go_ret
                  exact ⟨by rw [HNO.out]; rfl, (HWR1.out.trans (HB2.out.mono HWR1.out.size)).alloc (by have := HWR1.out.size; omega) _⟩)
                all_goals (exfalso; have := HNO2.out; omega)
            | true =>
              have hyes : x % 4096 = 0 ∧ y % 4096 = 0 ∧ 2 * h ≤ x ∧ x ≤ 2 * h + k ∧ y ≤ 2 * h + k - x := by
                unfold okA at hok
                simpa using hok
              have HOK := Aside0.mk hok
              obtain ⟨y1, y2, y3, y4, y5⟩ := hyes
              have t1 : (x % 4096 != 0) = false := by simp [y1]
              have t2 : (y % 4096 != 0) = false := by simp [y2]
              have t3 : decide (x < 2 * h) = false := decide_eq_false (by omega)
              have t4 : decide (2 * h + k < x) = false := decide_eq_false (by omega)
              have t5 : decide (2 * h + k - x < y) = false := decide_eq_false (by omega)
              have hx0 : 0 ≤ x := by omega
              clear hok y1 y2
              have e1 : 0 ≤ x + y := by omega
              have e2 : x + y ≤ 2 * h + k := by omega
              have hic : i ≤ cap := Nat.le_trans (by omega) hcap
              have hicz : (i : Int) ≤ (cap : Int) := by omega
              have hcz : (cap : Int) ≤ 9223372036854775807 := by have := hcapm; unfold maxLen at this; omega
              go_wp2_with fail
              obtain ⟨wp, rfl⟩ : ∃ wp : World, wp = wr := ⟨_, rfl⟩
              go_loopg [105] (i + 1) (fun kq s105 w3 => ∃ j : Nat, Aside0 (s105 = .int .i64 (j : Int)) ∧ Aside0 (j ≤ i ∧ kq + j = i + 1) ∧ Aside0 ((al.take j).any (meetsB (x, y)) = false) ∧ Aside0 (Below (wp.heap.size + 1) (wp.alloc (.cells #[.int .i64 x, .int .i64 y] 31)) w3))
              case atStart => exact ⟨0, ⟨rfl⟩, ⟨by omega⟩, ⟨rfl⟩, ⟨Below.refl _ _⟩⟩
              case round =>
                obtain ⟨j, H105, HJ, HM, HB3⟩ := hrel
                obtain rfl := H105.out
                obtain ⟨hj, hkj⟩ := HJ.out
                have HQJ := Aside0.mk hkj
                clear hkj
                have hbs3 : wp.heap.size + 1 ≤ wr.heap.size := by have := HB3.out.size; simp at this; omega
                have qx := (HB3.out.block _ (Nat.lt_succ_self _)).trans (blk_new wp (.cells #[.int .i64 x, .int .i64 y] 31))
                have qx0 : wr.cell? ⟨wp.heap.size, 0, none⟩ = some (.int .i64 x) := (blk_cell qx 0).trans rfl
                have qx1 : wr.cell? ⟨wp.heap.size, 1, none⟩ = some (.int .i64 y) := (blk_cell qx 1).trans rfl
                have hltp : wp.heap.size < wr.heap.size := by omega
                clear qx
                by_cases hjl : j < i
                · have hj2 : j < al.length := by omega
                  obtain ⟨⟨p, q⟩, hpq⟩ : ∃ z : Int × Int, al[j] = z := ⟨_, rfl⟩
                  have hsj : al[j]? = some (p, q) := by rw [List.getElem?_eq_getElem hj2, hpq]
                  obtain ⟨d0, d1⟩ := HCC.out j (p, q) hsj
                  replace d0 := (HB3.out.cell (by have := World.block_lt_of_cell? _ _ d0; omega)).trans (((b_alloc wp _).cell (by have := World.block_lt_of_cell? _ _ d0; omega)).trans ((HB2.out.cell (World.block_lt_of_cell? _ _ d0)).trans d0))
                  replace d1 := (HB3.out.cell (by have := World.block_lt_of_cell? _ _ d1; omega)).trans (((b_alloc wp _).cell (by have := World.block_lt_of_cell? _ _ d1; omega)).trans ((HB2.out.cell (World.block_lt_of_cell? _ _ d1)).trans d1))
                  dsimp only at d0 d1
                  have hq0 : 0 ≤ q := HNN.out (p, q) (List.mem_of_getElem? hsj)
                  have hmem : (p, q) ∈ al.take i := by
                    rw [List.mem_take_iff_getElem]
                    exact ⟨j, by omega, hpq⟩
                  have hpok := HK.out (p, q) hmem
                  unfold okA at hpok
                  obtain ⟨p1, p2, p3, p4, p5⟩ := of_decide_eq_true hpok
                  dsimp only at p3 p4 p5
                  have HMJ : Aside0 ((al.take (j + 1)).any (meetsB (x, y)) = meetsB (x, y) (p, q)) := ⟨by rw [take_snoc' al j hj2, hpq, List.any_append, HM.out]; simp⟩
                  have HMI : Aside0 (meetsB (x, y) (p, q) = true → (al.take i).any (meetsB (x, y)) = true) := ⟨fun hm => List.any_eq_true.2 ⟨(p, q), hmem, hm⟩⟩
                  have s0 : 0 ≤ p + q := by omega
                  have s1 : p + q ≤ 2 * h + k := by omega
                  have gj : (0 : Int) ≤ (j : Int) := by omega
                  clear hsj hpq hmem hpok p1 p2
                  by_cases m1 : x < p + q
                  · by_cases m2 : p < x + y
                    · have HMT : Aside0 (areasB true u h k l r = false) := ⟨by
                        have := HMI.out (by simp [meetsB, m1, m2])
                        rw [HD.out, this]
                        simp⟩
                      go_wp2_with fail
                      go_ret
                      exact ⟨by rw [HMT.out]; rfl, (HWR1.out.trans ((HB2.out.alloc hbs2 _).mono HWR1.out.size)).trans ((HB3.out.mono (by have := HWR1.out.size; omega)).alloc (by have := HWR1.out.size; omega) _)⟩
                    · have HMF : Aside0 (meetsB (x, y) (p, q) = false) := ⟨by simp [meetsB, m2]⟩
                      go_wp2_with fail
                      go_roundg (i - j)
                      case rel => exact ⟨j + 1, ⟨by go_num⟩, ⟨by omega, by omega⟩, ⟨by rw [HMJ.out, HMF.out]⟩, ⟨HB3.out.alloc hbs3 _⟩⟩
                      case measure => have := HQJ.out; omega
                  · have HMF : Aside0 (meetsB (x, y) (p, q) = false) := ⟨by simp [meetsB, m1]⟩
                    go_wp2_with fail
                    go_roundg (i - j)
                    case rel => exact ⟨j + 1, ⟨by go_num⟩, ⟨by omega, by omega⟩, ⟨by rw [HMJ.out, HMF.out]⟩, ⟨HB3.out.alloc hbs3 _⟩⟩
                    case measure => have := HQJ.out; omega
                · obtain rfl : j = i := by omega
                  go_wp2_with fail
                  go_roundg (N - j)
                  case rel =>
                    refine ⟨j + 1, ⟨by go_num⟩, ⟨by omega, by have := HQ.out; omega⟩, ⟨?_⟩, ⟨?_⟩, ⟨?_⟩⟩
                    · have := HD.out
                      rw [HAB.out, HOK.out, HM.out] at this
                      rw [this, HTK.out]
                      simp
                    · intro a ha
                      rw [HTK.out] at ha
                      rcases List.mem_append.1 ha with ha | ha
                      · exact HK.out a ha
                      · rw [List.mem_singleton.1 ha]
                        exact HOK.out
                    · exact (HB2.out.alloc hbs2 _).trans (HB3.out.mono (by omega))
                  case measure => have := HQ.out; omega
          · obtain rfl : i = N := by omega
            go_wp2_with fail
            go_ret
            refine ⟨?_, HWR1.out.trans (HB2.out.mono HWR1.out.size)⟩
            rw [HAB.out, HF2.out, List.drop_of_length_le (by rw [HLN.out]; exact Nat.le_refl _)]
            rfl
end Go.Proofs.YtpmbfibjldnaiaaGreatDoor.ara
