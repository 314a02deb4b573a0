/- Segments that have sectors: the search, the copy. Segments that have sectors: two of them. (Written by gsegb.py.) (Merged by merge.py.) -/
import Derived.Test.YtpmbfibjldnaiaaGreatDoorME
import Derived.Deep.AppendLies
import Derived.Lib.SliceRun
/-! ## SegA -/
namespace Go.Proofs.YtpmbfibjldnaiaaGreatDoor.sega
open Go Go.RowKit Go.Proofs.YtpmbfibjldnaiaaGreatDoor.shapea Go.Proofs.YtpmbfibjldnaiaaGreatDoor.risea Go.Proofs.YtpmbfibjldnaiaaGreatDoor.slotsa Go.Proofs.YtpmbfibjldnaiaaGreatDoor.rota Go.Proofs.YtpmbfibjldnaiaaGreatDoor.PProbeSpots Go.Proofs.YtpmbfibjldnaiaaGreatDoorW.PrintWords
set_option linter.unusedVariables false
set_option linter.unusedSimpArgs false
set_option maxHeartbeats 1000000 in
set_option maxRecDepth 100000 in
theorem none_call (a b c : Int) (w : World) : Calls Tryz.prog 88 #[.agg #[.int .u64 a, .int .u64 b, .int .u64 c]] w fun e w' => e = .returned (.bool (b == 0)) ∧ Below w.heap.size w w' := by
  go_enter Tryz.func88, Tryz.ntmps88
  go_wp2_with fail
  go_ret
  exact ⟨rfl, b_alloc w _⟩
/-- Where the first one without sectors lies. -/
def firstZ : List S65 → Nat → Int
  | [], _ => -1
  | x :: t, i => if x.f1 = 0 then (i : Int) else firstZ t (i + 1)
set_option maxHeartbeats 2000000 in
set_option maxRecDepth 100000 in
theorem indexZ_call (A : Option Addr) (c : Nat) (l : List S65) (w : World) (hR : Kd.C k65 w A l.length l) (hl : l.length ≤ 4611686018427387904) :
    Calls Tryz.prog 112 #[.slice A l.length c, .func (.func 88) #[] #[]] w fun e w' => e = .returned (.int .i64 (firstZ l 0)) ∧ Below w.heap.size w w' := by
  have HR := Aside0.mk hR
  clear hR
  go_enter Tryz.func112, Tryz.ntmps112
  go_wp2_with fail
  go_loopg [8] (l.length + 1) (fun kq v8 wr => ∃ i : Nat, Aside0 (v8 = .int .i64 (i : Int)) ∧ Aside0 (i ≤ l.length ∧ kq + i = l.length + 1) ∧ Aside0 (firstZ l 0 = firstZ (l.drop i) i) ∧ Aside0 (Below w.heap.size w wr))
  case atStart => exact ⟨0, ⟨rfl⟩, ⟨by omega⟩, ⟨rfl⟩, ⟨Below.refl _ _⟩⟩
  case round =>
    obtain ⟨i, H8, HI, HF, HB⟩ := hrel
    obtain rfl := H8.out
    obtain ⟨hi, hk⟩ := HI.out
    have HQ := Aside0.mk hk
    clear hk
    by_cases hlt : i < l.length
    · obtain ⟨ad, e, c0, c1, c2⟩ := at_T65 HR.out (i : Int) (by omega) (by omega)
      have hx : rd_T65 l (i : Int) = l[i] := by
        unfold rd_T65
        rw [Int.toNat_natCast, List.getD_eq_getElem?_getD, List.getElem?_eq_getElem hlt]
        rfl
      rw [hx] at c0 c1 c2
      rw [Int.toNat_natCast] at c0 c1 c2
      have mv : ∀ {a : Addr} {u : Value}, w.cell? a = some u → wr.cell? a = some u := fun h => (HB.out.cell (World.block_lt_of_cell? w _ h)).trans h
      replace c0 := mv c0
      replace c1 := mv c1
      replace c2 := mv c2
      clear mv hx
      have HD : Aside0 (firstZ l 0 = if l[i].f1 = 0 then (i : Int) else firstZ (l.drop (i + 1)) (i + 1)) := ⟨by
        rw [HF.out, List.drop_eq_getElem_cons hlt]
        rfl⟩
      cases e
      go_wp2_with (first | (go_at_call 88; refine (none_call _ _ _ _).mono ?_; rintro e W1 ⟨rfl, hb1⟩) | fail)
      all_goals have hbw : Below w.heap.size w W1 := HB.out.trans (hb1.mono HB.out.size)
      · have h0 : l[i].f1 = 0 := by simpa using (by assumption : (l[i].f1 == 0) = true)
        go_ret
        exact ⟨by rw [HD.out, if_pos h0]; rfl, hbw⟩
      · have h0 : ¬ l[i].f1 = 0 := by simpa using (by assumption : (l[i].f1 == 0) = false)
        go_roundg (l.length - i)
        case rel => exact ⟨i + 1, ⟨by go_num⟩, ⟨by omega, by omega⟩, ⟨by rw [HD.out, if_neg h0]⟩, ⟨hbw⟩⟩
        case measure => have := HQ.out; omega
    · obtain rfl : i = l.length := by omega
      go_wp2_with fail
      go_ret
      refine ⟨?_, HB.out⟩
      rw [HF.out, List.drop_length]
      rfl
/-- The cells of two segments. -/
def six (a b : S65) : List Value := [.int .u64 a.f0, .int .u64 a.f1, .int .u64 a.f2, .int .u64 b.f0, .int .u64 b.f1, .int .u64 b.f2]
theorem info_parts {i : Option TypeInfo} {z : Value} {n m : Nat} (h : i.map (fun i => (i.zero, i.size, i.bytes)) = some (some z, n, m)) : ∃ x, i = some x ∧ x.zero = some z ∧ x.size = n ∧ x.bytes = m := by
  cases i with
  | none => cases h
  | some x =>
    simp only [Option.map_some, Option.some.injEq, Prod.mk.injEq] at h
    exact ⟨x, rfl, h.1, h.2.1, h.2.2⟩
theorem infoSeg : (Tryz.prog.info? 65).map (fun i => (i.zero, i.size, i.bytes)) = some (some (.agg #[.int .u64 0, .int .u64 0, .int .u64 0]), 3, 24) := by kernel_rfl
set_option maxHeartbeats 2000000 in
set_option maxRecDepth 100000 in
theorem clone_call (g c : Nat) (a b : S65) (w : World) (hb : w.heap[g]? = some (.cells (six a b).toArray 65 (0, 0))) :
    Calls Tryz.prog 87 #[.slice (some ⟨g, 0, none⟩) 2 c] w fun e w' => ∃ (g' cap : Nat) (cur : Array Value), e = .returned (.slice (some ⟨g', 0, none⟩) 2 cap) ∧ w.heap.size ≤ g' ∧ w'.heap[g']? = some (.cells cur 65 (0, 0)) ∧ cur.size = cap * 3 ∧ 2 ≤ cap ∧ cap ≤ maxLen ∧ cur.toList.take 6 = six a b ∧ Below w.heap.size w w' := by
  obtain ⟨i0, hi0, hz0, hs0, hb0⟩ := info_parts infoSeg
  have hnews := World.news_of_block hb
  have hown := World.ownsRow_made (base := w.heap.size) (e := 65) (size := 3) w #[] 0 (Nat.le_refl _) (by unfold maxLen; omega) rfl
  have hq := fun w => Lib.run_eql_slice_nil (P := Tryz.prog) w 29 65 (some ⟨g, 0, none⟩) 2 c 0 0 Tryz.underlying29
  have HB := Aside0.mk hb
  have HN := Aside0.mk hnews
  have HO := Aside0.mk hown
  have hlt := blk_lt hb
  clear hb hnews hown
  have hcl : ∀ j u, (six a b)[j]? = some u → (w.alloc (.cells #[] 65)).cell? ((⟨g, 0, none⟩ : Addr).add j) = some u := fun j u hj =>
    ((b_alloc w _).cell (p := (⟨g, 0, none⟩ : Addr).add j) (by unfold Addr.add; split <;> exact hlt)).trans (HN.out j u (by simpa using hj))
  have HCL := Aside0.mk hcl
  clear hcl
  have h1s : ∀ u ∈ six a b, u.oneCell' = true := fun u hu => by
    simp [six] at hu
    rcases hu with rfl | rfl | rfl | rfl | rfl | rfl <;> rfl
  have H1S := Aside0.mk h1s
  clear h1s
  go_enter Tryz.func87, Tryz.ntmps87
  go_wp2_with (at_builtin; refine wpList_append_lies _ rfl (.tmp 5) (.tmp 6) 29 rfl w.heap.size 65 i0 _ 3 24 Tryz.underlying29 hi0 hz0 hs0 hb0 rfl (by decide) _ 0 [] rfl HO.out ⟨g, 0, none⟩ 2 c (six a b) rfl rfl HCL.out H1S.out (by decide) (by unfold maxLen; omega) (by omega) (by simp) _ rfl ?_; intro g' cap w1 h1 h2 h3 h4; have H1 := Aside0.mk h1; have H2 := Aside0.mk h2; clear h1 h2 h3)
  go_ret
  obtain ⟨q1, q2⟩ := H1.out
  rcases q2 with ⟨q2, _⟩ | ⟨g2, cap2, cur, q2, q3, q4, q5, q6, q7, q8⟩
  · cases q2
  · cases q2
    exact ⟨g', cap, rfl, q3, cur, q4, q7, by simpa using q5, q6, by simpa using q8, (b_alloc w _).grown H2.out (by simp) (fun k hk => by cases hk; exact Nat.le_refl _)⟩
end Go.Proofs.YtpmbfibjldnaiaaGreatDoor.sega
/-! ## SegB -/
namespace Go.Proofs.YtpmbfibjldnaiaaGreatDoor.segb
open Go Go.RowKit Go.Proofs.YtpmbfibjldnaiaaGreatDoor.shapea Go.Proofs.YtpmbfibjldnaiaaGreatDoor.risea Go.Proofs.YtpmbfibjldnaiaaGreatDoor.slotsa Go.Proofs.YtpmbfibjldnaiaaGreatDoor.rota Go.Proofs.YtpmbfibjldnaiaaGreatDoor.sega Go.Proofs.YtpmbfibjldnaiaaGreatDoor.PProbeSpots Go.Proofs.YtpmbfibjldnaiaaGreatDoorW.PrintWords
set_option linter.unusedVariables false
set_option linter.unusedSimpArgs false
/-- Segments in a block. -/
theorem seg_reads {w : World} {g : Nat} {l : List S65} (hn : l.length ≤ 9223372036854775807) (h : ∀ i x, l[i]? = some x → w.cell? ⟨g, i * 3, none⟩ = some (.int .u64 x.f0) ∧ w.cell? ⟨g, i * 3 + 1, none⟩ = some (.int .u64 x.f1) ∧ w.cell? ⟨g, i * 3 + 2, none⟩ = some (.int .u64 x.f2)) : Kd.C k65 w (some ⟨g, 0, none⟩) l.length l := by
  refine ⟨rfl, hn, fun _ => ⟨_, rfl, fun j p hp => ⟨_, rfl, k65_mk w p, ?_⟩⟩⟩
  obtain ⟨h0, h1, h2⟩ := h j p hp
  have ea : ∀ m, (⟨g, 0, none⟩ : Addr).add m = ⟨g, m, none⟩ := fun m => by unfold Addr.add; split <;> simp_all
  intro i u hu
  rw [ea]
  match i, hu with
  | 0, hu => cases hu; exact h0
  | 1, hu => cases hu; exact h1
  | 2, hu => cases hu; exact h2
/-- The block of two segments, with room behind them. -/
structure TwoAt (w : World) (g : Nat) (xs : List Value) : Prop where
  at_ : ∃ cur : Array Value, w.heap[g]? = some (.cells cur 65 (0, 0)) ∧ cur.toList.take 6 = xs ∧ 6 ≤ cur.size
theorem TwoAt.cell {w : World} {g : Nat} {xs : List Value} (h : TwoAt w g xs) {j : Nat} {u : Value} (hj : xs[j]? = some u) (h6 : j < 6) : w.cell? ⟨g, j, none⟩ = some u := by
  obtain ⟨cur, h1, h2, h3⟩ := h.at_
  rw [blk_cell h1, ← Array.getElem?_toList]
  rw [← h2, List.getElem?_take] at hj
  rwa [if_pos h6] at hj
theorem TwoAt.free {w : World} {g : Nat} {xs : List Value} (h : TwoAt w g xs) (j : Nat) : w.frozen? ⟨g, j, none⟩ = false := by
  obtain ⟨cur, h1, _⟩ := h.at_
  exact blk_frozen h1 j
theorem TwoAt.below {w w' : World} {g B : Nat} {xs : List Value} (h : TwoAt w g xs) (hb : Below B w w') (hg : g < B) : TwoAt w' g xs := by
  obtain ⟨cur, h1, r⟩ := h.at_
  exact ⟨cur, (hb.block g hg).trans h1, r⟩
theorem TwoAt.lt {w : World} {g : Nat} {xs : List Value} (h : TwoAt w g xs) : g < w.heap.size := by
  obtain ⟨cur, h1, _⟩ := h.at_
  exact blk_lt h1
theorem TwoAt.puts {w : World} {g o : Nat} {xs vs : List Value} (h : TwoAt w g xs) (ho : o + vs.length ≤ 6) : TwoAt (w.setCells g o vs) g (xs.take o ++ vs ++ xs.drop (o + vs.length)) := by
  obtain ⟨cur, h1, h2, h3⟩ := h.at_
  obtain ⟨cur', k1, k2, k3⟩ := setCells_row vs o w cur h1 (by omega)
  refine ⟨cur', k1, ?_, by omega⟩
  have hcl : cur.toList.length = cur.size := Array.length_toList
  rw [k3, ← h2]
  apply List.ext_getElem?
  intro i
  simp only [List.getElem?_take, List.getElem?_append, List.length_append, List.length_take, List.getElem?_drop]
  repeat' split
  all_goals first | rfl | omega | (congr 1; omega)
theorem below_cells {B : Nat} {w0 w : World} (h : Below B w0 w) {g : Nat} (hg : B ≤ g) (o : Nat) (vs : List Value) : Below B w0 (w.setCells g o vs) := by
  obtain ⟨a, b, c, d⟩ := setCells_same g vs o w
  exact ⟨a.trans h.os, b.trans h.tape, c.trans h.output, by rw [d]; exact h.size, fun k hk => (setCells_far vs o k (by omega)).trans (h.block k hk)⟩
theorem zeroSeg (w : World) : (zeroValue 65).run Tryz.prog w = .ok (.agg #[.int .u64 0, .int .u64 0, .int .u64 0]) w := by kernel_rfl
/-- 'clear' over one or two segments. -/
theorem clear_seg (w : World) (ty : TypeId) (g o n c : Nat) (hn : 0 < n) (hc : ∀ j, j < n * 3 → (w.cell? ⟨g, o + j, none⟩).isSome = true) (hf : ∀ j, j < n * 3 → w.frozen? ⟨g, o + j, none⟩ = false) :
    (Builtin.clear_ #[29] ty #[.slice (some ⟨g, o, none⟩) n c]).run Tryz.prog w = .ok (.tuple #[]) (w.setCells g o (List.replicate (n * 3) (.int .u64 0))) := by
  have hzc : (Builtin.zeroCells (Value.agg #[.int .u64 0, .int .u64 0, .int .u64 0]).cells n).toList = List.replicate (n * 3) (.int .u64 0) := by
    have e : (Value.agg #[.int .u64 0, .int .u64 0, .int .u64 0]).cells = #[.int .u64 0, .int .u64 0, .int .u64 0] := by rfl
    rw [e]
    unfold Builtin.zeroCells
    apply List.ext_getElem
    · simp
    · intro i h1 h2
      simp only [Array.toList_map, List.getElem_map, List.getElem_replicate]
      have : ∀ m, m < 3 → (#[Value.int .u64 0, .int .u64 0, .int .u64 0] : Array Value)[m]! = .int .u64 0 := fun m hm => by
        match m, hm with
        | 0, _ => rfl
        | 1, _ => rfl
        | 2, _ => rfl
      exact this _ (Nat.mod_lt _ (by decide))
  have hst := run_storeCells_cells (P := Tryz.prog) g o (List.replicate (n * 3) (.int .u64 0)) 0 w (by simpa using hc) (by simpa using hf) (by intro v hv; rw [List.eq_of_mem_replicate hv]; rfl)
  simp only [Nat.add_zero] at hst
  obtain ⟨m, rfl⟩ : ∃ m, n = m + 1 := ⟨n - 1, by omega⟩
  have hu := run_underlying Tryz.underlying29
  simp [Builtin.clear_, hu, zeroSeg, hzc, hst]
/-- Those that have sectors. -/
def fil (a b : S65) : List S65 := if a.f1 = 0 then (if b.f1 = 0 then [] else [b]) else if b.f1 = 0 then [a] else [a, b]
def DelEnd (w : World) (g cap : Nat) (l : List S65) (e : Ending) (w' : World) : Prop := e = .returned (.slice (some ⟨g, 0, none⟩) l.length cap) ∧ Kd.C k65 w' (some ⟨g, 0, none⟩) l.length l ∧ Below g w w'
theorem two_reads {w : World} {g : Nat} {a b : S65} {xs : List Value} (h : TwoAt w g xs) {l : List S65} (hl : l.length ≤ 2) (hx : ∀ i x, l[i]? = some x → xs[i * 3]? = some (.int .u64 x.f0) ∧ xs[i * 3 + 1]? = some (.int .u64 x.f1) ∧ xs[i * 3 + 2]? = some (.int .u64 x.f2)) : Kd.C k65 w (some ⟨g, 0, none⟩) l.length l :=
  seg_reads (by omega) fun i x hi => by
    obtain ⟨h0, h1, h2⟩ := hx i x hi
    have : i < l.length := (List.getElem?_eq_some_iff.1 hi).1
    exact ⟨h.cell h0 (by omega), h.cell h1 (by omega), h.cell h2 (by omega)⟩
theorem two_reads2 {w : World} {g : Nat} {a b : S65} (h : TwoAt w g (six a b)) : Kd.C k65 w (some ⟨g, 0, none⟩) 2 [a, b] := two_reads (a := a) (b := b) h (l := [a, b]) (by simp) fun i x hi => by
  match i, hi with
  | 0, hi => cases hi; exact ⟨rfl, rfl, rfl⟩
  | 1, hi => cases hi; exact ⟨rfl, rfl, rfl⟩
theorem two_reads1 {w : World} {g : Nat} {a : S65} {u v z : Value} (h : TwoAt w g [.int .u64 a.f0, .int .u64 a.f1, .int .u64 a.f2, u, v, z]) : Kd.C k65 w (some ⟨g, 0, none⟩) 1 [a] := two_reads (a := a) (b := a) h (l := [a]) (by simp) fun i x hi => by
  match i, hi with
  | 0, hi => cases hi; exact ⟨rfl, rfl, rfl⟩
def VS : Value := .func (.func 88) #[] #[]
set_option maxHeartbeats 2000000 in
set_option maxRecDepth 100000 in
theorem delete_both (g cap : Nat) (a b : S65) (w : World) (hT : TwoAt w g (six a b)) (ha : a.f1 ≠ 0) (hb : b.f1 ≠ 0) :
    Calls Tryz.prog 86 #[.slice (some ⟨g, 0, none⟩) 2 cap, .func (.func 88) #[] #[]] w (DelEnd w g cap [a, b]) := by
  have hi := indexZ_call (some ⟨g, 0, none⟩) cap [a, b] w (two_reads2 hT) (by simp)
  have e : firstZ [a, b] 0 = -1 := by simp [firstZ, ha, hb]
  rw [e] at hi
  have HI := Aside0.mk hi
  have HT := Aside0.mk hT
  clear hi hT ha hb e
  go_enter Tryz.func86, Tryz.ntmps86
  go_wp2_with (first | (go_at_call 112; refine (HI.out).mono ?_; rintro e W1 ⟨rfl, hb1⟩; have HB1 := Aside0.mk hb1; clear hb1) | fail)
  go_ret
  exact ⟨rfl, two_reads2 (HT.out.below HB1.out HT.out.lt), HB1.out.mono (Nat.le_of_lt HT.out.lt)⟩
set_option maxHeartbeats 2000000 in
set_option maxRecDepth 100000 in
theorem delete_first (g cap : Nat) (a b : S65) (w : World) (hT : TwoAt w g (six a b)) (h2 : 2 ≤ cap) (hm : cap ≤ 9223372036854775807) (ha : a.f1 = 0) (hb : b.f1 ≠ 0) :
    Calls Tryz.prog 86 #[.slice (some ⟨g, 0, none⟩) 2 cap, .func (.func 88) #[] #[]] w (DelEnd w g cap [b]) := by
  have hi := indexZ_call (some ⟨g, 0, none⟩) cap [a, b] w (two_reads2 hT) (by simp)
  have e : firstZ [a, b] 0 = 0 := by simp [firstZ, ha]
  rw [e] at hi
  have HI := Aside0.mk hi
  have HT := Aside0.mk hT
  have hb' : (b.f1 == 0) = false := by simpa using hb
  clear hi hT ha hb e
  go_enter Tryz.func86, Tryz.ntmps86
  go_wp2_with (first | (go_at_call 112; refine (HI.out).mono ?_; rintro e W1 ⟨rfl, hb1⟩; have HB1 := Aside0.mk hb1; clear hb1) | fail)
  go_loopg [5, 6] 2 (fun kq v5 v6 wr => Aside0 (Below g w wr) ∧ ((Aside0 (kq = 2 ∧ v5 = .int .i64 0 ∧ v6 = .int .i64 1) ∧ Aside0 (TwoAt wr g (six a b))) ∨ (Aside0 (kq = 1 ∧ v5 = .int .i64 1 ∧ v6 = .int .i64 2) ∧ Aside0 (TwoAt wr g (six b b)))))
  case atStart => exact ⟨⟨HB1.out.mono (Nat.le_of_lt HT.out.lt)⟩, .inl ⟨⟨rfl, rfl, rfl⟩, ⟨HT.out.below HB1.out HT.out.lt⟩⟩⟩
  case round =>
    obtain ⟨HB, ⟨HV, HX⟩ | ⟨HV, HX⟩⟩ := hrel
    · obtain ⟨hk, rfl, rfl⟩ := HV.out
      subst hk
      have k3 := HX.out.cell (j := 3) (u := .int .u64 b.f0) rfl (by omega)
      have k4 := HX.out.cell (j := 4) (u := .int .u64 b.f1) rfl (by omega)
      have k5 := HX.out.cell (j := 5) (u := .int .u64 b.f2) rfl (by omega)
      have hlt := HX.out.lt
      go_wp2_with (first | (go_at_call 88; refine (none_call _ _ _ _).mono ?_; rintro e W2 ⟨rfl, hb2⟩; have q := (hb2.block _ (blk_lt (blk_new wr (.cells #[.int .u64 b.f0, .int .u64 b.f1, .int .u64 b.f2] 65)))).trans (blk_new wr _); have q0 : W2.cell? ⟨wr.heap.size, 0, none⟩ = some (.int .u64 b.f0) := (blk_cell q 0).trans rfl; have q1 : W2.cell? ⟨wr.heap.size, 1, none⟩ = some (.int .u64 b.f1) := (blk_cell q 1).trans rfl; have q2 : W2.cell? ⟨wr.heap.size, 2, none⟩ = some (.int .u64 b.f2) := (blk_cell q 2).trans rfl; have hx2 := HX.out.below ((b_alloc wr (.cells #[.int .u64 b.f0, .int .u64 b.f1, .int .u64 b.f2] 65)).trans (hb2.mono (by simp))) hlt; have k0 := hx2.cell (j := 0) (u := .int .u64 a.f0) rfl (by omega); have k1 := hx2.cell (j := 1) (u := .int .u64 a.f1) rfl (by omega); have k2 := hx2.cell (j := 2) (u := .int .u64 a.f2) rfl (by omega); have f0 := hx2.free 0; have f1 := hx2.free 1; have f2 := hx2.free 2; have HX2 := Aside0.mk hx2; have HB2 := Aside0.mk hb2; clear hb2 q hx2) | fail)
      have hbw : Below g w W2 := (HB.out.trans (((b_alloc wr (.cells #[.int .u64 b.f0, .int .u64 b.f1, .int .u64 b.f2] 65)).mono (Nat.le_of_lt hlt)).trans (HB2.out.mono (by simp; omega))))
      go_roundg 1
      case rel => exact ⟨⟨below_cells hbw (Nat.le_refl g) 0 [.int .u64 b.f0, .int .u64 b.f1, .int .u64 b.f2]⟩, .inr ⟨⟨rfl, rfl, rfl⟩, ⟨HX2.out.puts (o := 0) (vs := [.int .u64 b.f0, .int .u64 b.f1, .int .u64 b.f2]) (by simp)⟩⟩⟩
      case measure => omega
    · obtain ⟨hk, rfl, rfl⟩ := HV.out
      subst hk
      have hcl : ∀ ty c, (Builtin.clear_ #[29] ty #[.slice (some ⟨g, 3, none⟩) 1 c]).run Tryz.prog wr = .ok (.tuple #[]) (wr.setCells g 3 [.int .u64 0, .int .u64 0, .int .u64 0]) := fun ty c =>
        clear_seg wr ty g 3 1 c (by omega) (fun j hj => by
          match j, hj with
          | 0, _ => rw [HX.out.cell (j := 3) (u := .int .u64 b.f0) rfl (by omega)]; rfl
          | 1, _ => rw [HX.out.cell (j := 4) (u := .int .u64 b.f1) rfl (by omega)]; rfl
          | 2, _ => rw [HX.out.cell (j := 5) (u := .int .u64 b.f2) rfl (by omega)]; rfl) (fun j hj => HX.out.free _)
      have hc1 : (1 : Int) ≤ (cap : Int) := by omega
      have hc2 : (2 : Int) ≤ (cap : Int) := by omega
      go_wp2_with fail
      go_ret
      exact ⟨rfl, two_reads1 (HX.out.puts (o := 3) (vs := [.int .u64 0, .int .u64 0, .int .u64 0]) (by simp)), below_cells HB.out (Nat.le_refl g) 3 _⟩
set_option maxHeartbeats 2000000 in
set_option maxRecDepth 100000 in
theorem delete_second (g cap : Nat) (a b : S65) (w : World) (hT : TwoAt w g (six a b)) (h2 : 2 ≤ cap) (hm : cap ≤ 9223372036854775807) (ha : a.f1 ≠ 0) (hb : b.f1 = 0) :
    Calls Tryz.prog 86 #[.slice (some ⟨g, 0, none⟩) 2 cap, .func (.func 88) #[] #[]] w (DelEnd w g cap [a]) := by
  have hi := indexZ_call (some ⟨g, 0, none⟩) cap [a, b] w (two_reads2 hT) (by simp)
  have e : firstZ [a, b] 0 = 1 := by simp [firstZ, ha, hb]
  rw [e] at hi
  have HI := Aside0.mk hi
  have HT := Aside0.mk hT
  clear hi hT ha hb e
  go_enter Tryz.func86, Tryz.ntmps86
  go_wp2_with (first | (go_at_call 112; refine (HI.out).mono ?_; rintro e W1 ⟨rfl, hb1⟩; have HB1 := Aside0.mk hb1; clear hb1) | fail)
  go_loopg [5, 6] 1 (fun kq v5 v6 wr => Aside0 (Below g w wr) ∧ Aside0 (v5 = .int .i64 1 ∧ v6 = .int .i64 2) ∧ Aside0 (TwoAt wr g (six a b)))
  case atStart => exact ⟨⟨HB1.out.mono (Nat.le_of_lt HT.out.lt)⟩, ⟨rfl, rfl⟩, ⟨HT.out.below HB1.out HT.out.lt⟩⟩
  case round =>
    obtain ⟨HB, HV, HX⟩ := hrel
    obtain ⟨rfl, rfl⟩ := HV.out
    have hcl : ∀ ty c, (Builtin.clear_ #[29] ty #[.slice (some ⟨g, 3, none⟩) 1 c]).run Tryz.prog wr = .ok (.tuple #[]) (wr.setCells g 3 [.int .u64 0, .int .u64 0, .int .u64 0]) := fun ty c =>
      clear_seg wr ty g 3 1 c (by omega) (fun j hj => by
        match j, hj with
        | 0, _ => rw [HX.out.cell (j := 3) (u := .int .u64 b.f0) rfl (by omega)]; rfl
        | 1, _ => rw [HX.out.cell (j := 4) (u := .int .u64 b.f1) rfl (by omega)]; rfl
        | 2, _ => rw [HX.out.cell (j := 5) (u := .int .u64 b.f2) rfl (by omega)]; rfl) (fun j hj => HX.out.free _)
    have hc1 : (1 : Int) ≤ (cap : Int) := by omega
    have hc2 : (2 : Int) ≤ (cap : Int) := by omega
    go_wp2_with fail
    go_ret
    exact ⟨rfl, two_reads1 (HX.out.puts (o := 3) (vs := [.int .u64 0, .int .u64 0, .int .u64 0]) (by simp)), below_cells HB.out (Nat.le_refl g) 3 _⟩
theorem delete_call (g cap : Nat) (a b : S65) (w : World) (hT : TwoAt w g (six a b)) (h2 : 2 ≤ cap) (hm : cap ≤ 9223372036854775807) (h0 : a.f1 ≠ 0 ∨ b.f1 ≠ 0) :
    Calls Tryz.prog 86 #[.slice (some ⟨g, 0, none⟩) 2 cap, .func (.func 88) #[] #[]] w (DelEnd w g cap (fil a b)) := by
  unfold fil
  by_cases ha : a.f1 = 0
  · rw [if_pos ha, if_neg (by omega)]
    exact delete_first g cap a b w hT h2 hm ha (by omega)
  · rw [if_neg ha]
    by_cases hb : b.f1 = 0
    · rw [if_pos hb]
      exact delete_second g cap a b w hT h2 hm ha hb
    · rw [if_neg hb]
      exact delete_both g cap a b w hT ha hb
set_option maxHeartbeats 2000000 in
set_option maxRecDepth 100000 in
theorem clip_call (g n cap : Nat) (w : World) (h : n ≤ cap) (hm : cap ≤ 9223372036854775807) :
    Calls Tryz.prog 85 #[.slice (some ⟨g, 0, none⟩) n cap] w fun e w' => e = .returned (.slice (some ⟨g, 0, none⟩) n n) ∧ w = w' := by
  have h1 : (n : Int) ≤ (cap : Int) := by omega
  have h2 : (0 : Int) ≤ (n : Int) := by omega
  go_enter Tryz.func85, Tryz.ntmps85
  go_wp2_with fail
  go_ret
  exact ⟨rfl, rfl⟩
/-- A row of segments of the call's own. -/
def SegEnd (w : World) (l : List S65) (e : Ending) (w' : World) : Prop := ∃ A c, e = .returned (.slice A l.length c) ∧ Kd.C k65 w' A l.length l ∧ Below w.heap.size w w'
theorem fil_le (a b : S65) : (fil a b).length ≤ 2 := by unfold fil; split <;> split <;> simp
set_option maxHeartbeats 2000000 in
set_option maxRecDepth 100000 in
theorem filled_call (g c : Nat) (a b : S65) (w : World) (hb : w.heap[g]? = some (.cells (six a b).toArray 65 (0, 0))) (h0 : a.f1 ≠ 0 ∨ b.f1 ≠ 0) :
    Calls Tryz.prog 51 #[.slice (some ⟨g, 0, none⟩) 2 c] w (SegEnd w (fil a b)) := by
  have hc := clone_call g c a b w hb
  have HC := Aside0.mk hc
  have H0 := Aside0.mk h0
  have hfl := fil_le a b
  clear hc hb h0
  go_enter Tryz.func51, Tryz.ntmps51
  go_wp2_with fail
  refine HC.out.mono ?_
  rintro e W1 ⟨g', cap, cur, rfl, a1, a2, a3, a4, a5, a6, a7⟩
  have ht : TwoAt W1 g' (six a b) := ⟨cur, a2, a6, by omega⟩
  have HB1 := Aside0.mk (And.intro a1 a7)
  unfold maxLen at a5
  have hd := delete_call g' cap a b W1 ht a4 (by omega) H0.out
  have HD := Aside0.mk hd
  have hcc := fun W => clip_call g' (fil a b).length cap W (by omega) (by omega)
  have HCC := Aside0.mk hcc
  clear a1 a2 a3 a6 a7 ht hd hcc
  go_wp2_with (first | (go_at_call 86; refine HD.out.mono ?_; rintro e W2 ⟨rfl, d1, d2⟩; have HD2 := Aside0.mk (And.intro d1 d2); clear d1 d2) | (go_at_call 85; refine (HCC.out _).mono ?_; rintro e W3 ⟨rfl, rfl⟩) | fail)
  go_ret
  exact ⟨_, _, rfl, HD2.out.1, HB1.out.2.trans (HD2.out.2.mono HB1.out.1)⟩
end Go.Proofs.YtpmbfibjldnaiaaGreatDoor.segb
