/- digest.big: a word's four bytes behind a row of the caller's own. (Written by gen72.py.) digest.state.end where what was fed are whole blocks. (Written by gen61.py.) digest.Sum at 256 of parts of whole blocks. (Written by gen40.py.) header.sumOf: the digest of a copy's bytes. (Written by gen27.py.) (Merged by merge.py.) -/
import Derived.Test.YtglcapkmeecknaaDoorMN
import Derived.Test.YtglcapkmeecknaaDoorME
import Derived.Test.YtglcapkmeecknaaDoorMB
import Derived.Deep.RegionWith
/-! ## B72 -/
namespace Go.Proofs.YtglcapkmeecknaaDoor.b72
open Go Go.RowKit Go.Proofs.YtglcapkmeecknaaDoor.sha Go.Proofs.YtglcapkmeecknaaDoor.mem Go.Proofs.YtglcapkmeecknaaDoorW.PrintWords Go.Proofs.YtglcapkmeecknaaDoorW.PrintLast Go.Proofs.YtglcapkmeecknaaDoorW.PrintMore
set_option linter.unusedVariables false
set_option linter.unusedSimpArgs false
attribute [local go_sem] nn_mod nn_wrap nn_wrap64 nn_mod64
set_option maxHeartbeats 2000000 in
set_option maxRecDepth 100000 in
theorem big_call (x : BitVec 32) (w0 w : World) (G : Nat) (o : Obj) (v : Value) (L : List Int) (n : Nat) (hL : L.length = n) (hn : n ≤ 1000) (hB : Below w0.heap.size w0 w) (ho : Kd.R (Kd.int .u8) 5 w w0.heap.size (fun k_ => k_ ≠ G) v L) (hG : w.heap[G]? = some o) :
    Calls Tryd.prog 72 #[v, .int .u64 (nn x), .int .i64 4] w fun e w' => ∃ v', e = .returned v' ∧ Kd.R (Kd.int .u8) 5 w' w0.heap.size (fun k_ => k_ ≠ G) v' (L ++ wbytes x) ∧ w'.heap[G]? = some o ∧ Below w0.heap.size w0 w' := by
  have hlen0 := Aside0.mk hL
  clear hL
  obtain ⟨L0, hL0⟩ : ∃ L', Aside0 (L' = L) := ⟨_, ⟨rfl⟩⟩
  rw [← hL0.out] at hlen0 ho ⊢
  clear hL0
  have HO0 := ho
  obtain ⟨A0, c0, eo0⟩ := Kd.R_slice HO0
  subst eo0
  have BG0 := hG
  have BS0 : G < w.heap.size := blk_lt hG
  have HB0 := hB
  clear ho hG hB
  go_enter Tryd.func72, Tryd.ntmps72
  go_wp2_with fail
  refine wp_loop_rounds 5 ?_
  rw [rounds_succ]
  have hn0 : 0 ≤ nn x / 16777216 := Int.ediv_nonneg (nn_lo x) (by omega)
  go_wp2_with ((with_reducible refine gate_builtin (b := .append) (xs := #[.tmp 14, .tmp 20]) rfl ?_); at_builtin; refine Kd.R_append (Kd.int .u8) (w0 := w0) w0.heap.size rfl (.tmp 14) (.tmp 20) 25 5 (.int .u8 0) 1 rfl Tryd.underlying25 n44.info5 rfl (by decide) (by omega) (.slice A0 L0.length c0) L0 (nn x / 16777216 % 256) [.int .u8 (nn x / 16777216 % 256)] (fun k_ => k_ ≠ G) (fun _ => False) rfl rfl ?aP (fun _ hk => hk.elim) ?aF ?aO ?aB ?aS ?aL ?_; (case aP => exact rfl); (case aF => exact (fun k_ hk => by omega)); (case aO => exact HO0); (case aB => exact HB0); (case aS => exact HB0.size); (case aL => rw [hlen0.out]; omega); intro v0 V1 ho0 hb0 hg0 hat0)
  have BG1 := blk_grown BG0 hg0 (fun e => HO0.1 _ e.symm rfl)
  have BS1 : G < V1.heap.size := Nat.lt_of_lt_of_le BS0 hg0.size
  have HB1 := hb0
  obtain ⟨L1, hL1⟩ : ∃ L', Aside0 (L' = L0 ++ [nn x / 16777216 % 256]) := ⟨_, ⟨rfl⟩⟩
  have hlen1 : Aside0 (L1.length = n + 1) := ⟨by rw [hL1.out, List.length_append, hlen0.out]; rfl⟩
  rw [← hL1.out] at ho0
  have HO1 := ho0
  obtain ⟨A1, c1, eo1⟩ := Kd.R_slice HO1
  subst eo1
  clear HO0 BG0 BS0 HB0 ho0 hb0 hg0 hat0
  rw [rounds_succ]
  have hn1 : 0 ≤ nn x / 65536 := Int.ediv_nonneg (nn_lo x) (by omega)
  go_wp2_with ((with_reducible refine gate_builtin (b := .append) (xs := #[.tmp 14, .tmp 20]) rfl ?_); at_builtin; refine Kd.R_append (Kd.int .u8) (w0 := w0) w0.heap.size rfl (.tmp 14) (.tmp 20) 25 5 (.int .u8 0) 1 rfl Tryd.underlying25 n44.info5 rfl (by decide) (by omega) (.slice A1 L1.length c1) L1 (nn x / 65536 % 256) [.int .u8 (nn x / 65536 % 256)] (fun k_ => k_ ≠ G) (fun _ => False) rfl rfl ?aP (fun _ hk => hk.elim) ?aF ?aO ?aB ?aS ?aL ?_; (case aP => exact rfl); (case aF => exact (fun k_ hk => by omega)); (case aO => exact HO1); (case aB => exact HB1); (case aS => exact HB1.size); (case aL => rw [hlen1.out]; omega); intro v1 V2 ho1 hb1 hg1 hat1)
  have BG2 := blk_grown BG1 hg1 (fun e => HO1.1 _ e.symm rfl)
  have BS2 : G < V2.heap.size := Nat.lt_of_lt_of_le BS1 hg1.size
  have HB2 := hb1
  obtain ⟨L2, hL2⟩ : ∃ L', Aside0 (L' = L1 ++ [nn x / 65536 % 256]) := ⟨_, ⟨rfl⟩⟩
  have hlen2 : Aside0 (L2.length = n + 2) := ⟨by rw [hL2.out, List.length_append, hlen1.out]; rfl⟩
  rw [← hL2.out] at ho1
  have HO2 := ho1
  obtain ⟨A2, c2, eo2⟩ := Kd.R_slice HO2
  subst eo2
  clear HO1 BG1 BS1 HB1 ho1 hb1 hg1 hat1
  rw [rounds_succ]
  have hn2 : 0 ≤ nn x / 256 := Int.ediv_nonneg (nn_lo x) (by omega)
  go_wp2_with ((with_reducible refine gate_builtin (b := .append) (xs := #[.tmp 14, .tmp 20]) rfl ?_); at_builtin; refine Kd.R_append (Kd.int .u8) (w0 := w0) w0.heap.size rfl (.tmp 14) (.tmp 20) 25 5 (.int .u8 0) 1 rfl Tryd.underlying25 n44.info5 rfl (by decide) (by omega) (.slice A2 L2.length c2) L2 (nn x / 256 % 256) [.int .u8 (nn x / 256 % 256)] (fun k_ => k_ ≠ G) (fun _ => False) rfl rfl ?aP (fun _ hk => hk.elim) ?aF ?aO ?aB ?aS ?aL ?_; (case aP => exact rfl); (case aF => exact (fun k_ hk => by omega)); (case aO => exact HO2); (case aB => exact HB2); (case aS => exact HB2.size); (case aL => rw [hlen2.out]; omega); intro v2 V3 ho2 hb2 hg2 hat2)
  have BG3 := blk_grown BG2 hg2 (fun e => HO2.1 _ e.symm rfl)
  have BS3 : G < V3.heap.size := Nat.lt_of_lt_of_le BS2 hg2.size
  have HB3 := hb2
  obtain ⟨L3, hL3⟩ : ∃ L', Aside0 (L' = L2 ++ [nn x / 256 % 256]) := ⟨_, ⟨rfl⟩⟩
  have hlen3 : Aside0 (L3.length = n + 3) := ⟨by rw [hL3.out, List.length_append, hlen2.out]; rfl⟩
  rw [← hL3.out] at ho2
  have HO3 := ho2
  obtain ⟨A3, c3, eo3⟩ := Kd.R_slice HO3
  subst eo3
  clear HO2 BG2 BS2 HB2 ho2 hb2 hg2 hat2
  rw [rounds_succ]
  have hn3 : 0 ≤ nn x / 1 := Int.ediv_nonneg (nn_lo x) (by omega)
  go_wp2_with ((with_reducible refine gate_builtin (b := .append) (xs := #[.tmp 14, .tmp 20]) rfl ?_); at_builtin; refine Kd.R_append (Kd.int .u8) (w0 := w0) w0.heap.size rfl (.tmp 14) (.tmp 20) 25 5 (.int .u8 0) 1 rfl Tryd.underlying25 n44.info5 rfl (by decide) (by omega) (.slice A3 L3.length c3) L3 (nn x % 256) [.int .u8 (nn x % 256)] (fun k_ => k_ ≠ G) (fun _ => False) rfl rfl ?aP (fun _ hk => hk.elim) ?aF ?aO ?aB ?aS ?aL ?_; (case aP => exact rfl); (case aF => exact (fun k_ hk => by omega)); (case aO => exact HO3); (case aB => exact HB3); (case aS => exact HB3.size); (case aL => rw [hlen3.out]; omega); intro v3 V4 ho3 hb3 hg3 hat3)
  have BG4 := blk_grown BG3 hg3 (fun e => HO3.1 _ e.symm rfl)
  have BS4 : G < V4.heap.size := Nat.lt_of_lt_of_le BS3 hg3.size
  have HB4 := hb3
  obtain ⟨L4, hL4⟩ : ∃ L', Aside0 (L' = L3 ++ [nn x % 256]) := ⟨_, ⟨rfl⟩⟩
  have hlen4 : Aside0 (L4.length = n + 4) := ⟨by rw [hL4.out, List.length_append, hlen3.out]; rfl⟩
  rw [← hL4.out] at ho3
  have HO4 := ho3
  obtain ⟨A4, c4, eo4⟩ := Kd.R_slice HO4
  subst eo4
  clear HO3 BG3 BS3 HB3 ho3 hb3 hg3 hat3
  rw [rounds_succ]
  go_wp2
  go_ret
  refine ⟨.slice A4 L4.length c4, rfl, ?_, BG4, HB4⟩
  have e : L4 = L0 ++ wbytes x := by
    rw [hL4.out, hL3.out, hL2.out, hL1.out]
    simp only [List.append_assoc, List.cons_append, List.nil_append, wbytes]
  rw [← e]
  exact HO4
end Go.Proofs.YtglcapkmeecknaaDoor.b72
/-! ## E61 -/
namespace Go.Proofs.YtglcapkmeecknaaDoor.e61
open Go Go.RowKit Go.Proofs.YtglcapkmeecknaaDoor.sha Go.Proofs.YtglcapkmeecknaaDoor.mem Go.Proofs.YtglcapkmeecknaaDoor.k70 Go.Proofs.YtglcapkmeecknaaDoor.b58 Go.Proofs.YtglcapkmeecknaaDoorW.PrintWords Go.Proofs.YtglcapkmeecknaaDoorW.PrintLast Go.Proofs.YtglcapkmeecknaaDoorW.PrintMore
set_option linter.unusedVariables false
set_option linter.unusedSimpArgs false
attribute [local go_sem] nn_mod nn_wrap nn_wrap64 nn_mod64
/-- What stands behind so many whole blocks: one block more; its first k bytes from the end. -/
def padAt (bits : Int) (k q : Nat) : Int := if q = 0 then 128 else if 64 ≤ q + k then bits / (2 : Int) ^ (8 * (63 - q)) % 256 else 0
def padOf (bits : Int) : List Int := (List.range 64).map (padAt bits 8)
theorem padOf_len (bits : Int) : (padOf bits).length = 64 := by simp [padOf]
theorem padOf_rng (bits : Int) : ∀ x ∈ padOf bits, 0 ≤ x ∧ x < 256 := by
  intro x hx
  obtain ⟨q, _, rfl⟩ := List.mem_map.1 hx
  unfold padAt
  split
  · omega
  · split
    · omega
    · omega
theorem C_of_cells {w : World} {g o : Nat} {xs : List Int} (hl : xs.length ≤ 9223372036854775807) (h : ∀ j, j < xs.length → w.cell? ⟨g, o + j, none⟩ = some (.int .u8 (xs.getD j 0))) : Kd.C (Kd.int .u8) w (some ⟨g, o, none⟩) xs.length xs :=
  Kd.C_of_reads (enc := Value.int .u8) (h1 := fun _ => rfl) (d := (0 : Int)) ⟨rfl, hl, fun _ => ⟨_, rfl, fun j hj => by
    rw [show (⟨g, o, none⟩ : Addr).add j = ⟨g, o + j, none⟩ by unfold Addr.add; split <;> simp_all]
    exact h j hj⟩⟩
theorem info22 : (Tryd.prog.info? 22).map (fun i => i.size) = some 1 := by kernel_rfl
theorem index73 (xs : Array Value) (k : Nat) (x : BitVec 32) (hk : k < 8) (hv : xs[k]? = some (.int .u64 (nn x))) : ∀ W : World, (Instr.index 73 (.agg xs) (.int .i64 (k : Int))).run Tryd.prog W = .ok (.int .u64 (nn x)) W := by
  intro W
  obtain ⟨i, hi, hs⟩ : ∃ i, Tryd.prog.info? 22 = some i ∧ i.size = 1 := by
    have h := info22
    cases e : Tryd.prog.info? 22 with
    | none => rw [e] at h; cases h
    | some i => rw [e] at h; exact ⟨i, rfl, Option.some.inj h⟩
  have h1 : (0 : Int) ≤ (k : Int) := by omega
  simp [Instr.index, run_underlying Tryd.underlying73, asIntOf, h1, sizeOf, typeInfo, hi, hs, go_sem, hv, part]
  intro h
  omega
structure PadTo (bits : Int) (k : Nat) (L : Array Value) : Prop where
  size : L.size = 256
  at_ : ∀ q, q < 64 → L[q]? = some (.int .u8 (padAt bits k q))
theorem zero115 : Tryd.zeroCells115 = Array.replicate 256 (.int .u8 0) := by kernel_rfl
theorem pad_zero (bits : Int) : PadTo bits 0 (Tryd.zeroCells115.setIfInBounds 0 (.int .u8 128)) := by
  rw [zero115]
  refine ⟨by simp, fun q hq => ?_⟩
  rw [Array.getElem?_setIfInBounds]
  by_cases e : 0 = q
  · subst e; simp [padAt]
  · rw [if_neg e, Array.getElem?_replicate, if_pos (by omega)]
    unfold padAt
    rw [if_neg (by omega), if_neg (by omega)]
theorem pad_step {bits : Int} {k : Nat} {L : Array Value} (h : PadTo bits k L) (hk : k < 8) {x : Int} (hx : x = bits / (2 : Int) ^ (8 * k) % 256) : PadTo bits (k + 1) (L.setIfInBounds (63 - k) (.int .u8 x)) := by
  refine ⟨by rw [Array.size_setIfInBounds, h.size], fun q hq => ?_⟩
  rw [Array.getElem?_setIfInBounds]
  by_cases e : 63 - k = q
  · subst e
    rw [if_pos rfl, if_pos (by rw [h.size]; omega), hx]
    unfold padAt
    rw [if_neg (by omega), if_pos (by omega), show 63 - (63 - k) = k by omega]
  · rw [if_neg e, h.at_ q hq]
    unfold padAt
    by_cases h0 : q = 0
    · rw [if_pos h0, if_pos h0]
    · rw [if_neg h0, if_neg h0]
      by_cases h1 : 64 ≤ q + k
      · rw [if_pos h1, if_pos (by omega)]
      · rw [if_neg h1, if_neg (by omega)]
set_option maxHeartbeats 2000000 in
set_option maxRecDepth 100000 in
theorem end_call (kf : Nat → BitVec 32) (cub : Nat → Int) (hcub : ∀ t, t < 64 → 0 ≤ cub t ∧ cub t < 18446744073709551616 ∧ cub t / 4294967296 = nn (kf t)) (s : St) (half : List Value) (hh : half.length = 128)
    (count : Int) (hc0 : 0 ≤ count) (hc1 : count < 1099511627776) (hcm : count % 64 = 0)
    (w : World) (hg5 : 5 < w.heap.size) (htab : ∀ t, t < 64 → w.cell? ⟨5, t, none⟩ = some (.int .u64 (cub t))) :
    Calls Tryd.prog 61 #[.agg (stateCells count s half)] w fun e w' => ∃ a c, e = .returned (.slice (some a) 32 c) ∧ w.heap.size ≤ a.block ∧ 32 ≤ c ∧ Kd.C (Kd.int .u8) w' (some a) 32 (dig (taken kf s (padOf (count * 8)))) ∧ Below w.heap.size w w' := by
  have hsz : (stateCells count s half).size = 142 := by rw [state_size, hh]
  obtain ⟨cs, hcs⟩ : ∃ cs, Aside0 (cs = stateCells count s half) := ⟨_, ⟨rfl⟩⟩
  rw [← hcs.out] at hsz ⊢
  go_enter Tryd.func61, Tryd.ntmps61
  go_wp2_with (first | ((with_reducible refine gate_dst (N := 1) rfl ?_); refine box_event ?hg (N := 1) ?hd (cs := cs) (t := 102) ?hr ?_; (case hd => rfl); (case hg => rfl); (case hr => first | (go_simp; done) | (go_simp; rfl)); intro g hg W1 BG hb1; subst hg; generalize hn : w.heap.size = n at *; have HN := Aside0.mk hn; clear hn; have c1 : W1.cell? ⟨n, 1, none⟩ = some (.int .i64 64) := (blk_cell BG 1).trans (by rw [hcs.out, state_at]; rfl); have c5 : W1.cell? ⟨n, 5, none⟩ = some (.int .u64 count) := (blk_cell BG 5).trans (by rw [hcs.out, state_at]; rfl); have c2 : W1.cell? ⟨n, 2, none⟩ = some (.int .i64 4) := (blk_cell BG 2).trans (by rw [hcs.out, state_at]; rfl)) | fail)
  have BP : (W1.alloc (.cells (Tryd.zeroCells115.setIfInBounds 0 (.int .u8 128)) 115)).heap[W1.heap.size]? = some (.cells (Tryd.zeroCells115.setIfInBounds 0 (.int .u8 128)) 115 (0, 0)) := blk_new W1 _
  have BG1 := blk_alloc BG (.cells (Tryd.zeroCells115.setIfInBounds 0 (.int .u8 128)) 115)
  have hnV : n < W1.heap.size := blk_lt BG
  have HB1 := hb1.alloc (by omega) (.cells (Tryd.zeroCells115.setIfInBounds 0 (.int .u8 128)) 115)
  have SZ : W1.heap.size < (W1.alloc (.cells (Tryd.zeroCells115.setIfInBounds 0 (.int .u8 128)) 115)).heap.size := by simp
  have hp := pad_zero (count * 8)
  clear c1 c2 c5 hb1 BG
  generalize Tryd.zeroCells115.setIfInBounds 0 (.int .u8 128) = L at *
  generalize W1.heap.size = V at *
  generalize W1.alloc (.cells L 115) = W2 at *
  go_loopw [5] (fun v5 wr => ∃ j : Nat, 1 ≤ j ∧ j ≤ 56 ∧ v5 = .int .i64 j ∧ Below W2.heap.size W2 wr) (fun v5 _ => 56 - (intOf v5).toNat)
  case atStart => exact ⟨1, by omega, by omega, rfl, Below.refl _ _⟩
  case round =>
    obtain ⟨j, hj1, hj, rfl, HW⟩ := hrel
    have BG2 := blk_below BG1 HW
    have c1 : wr.cell? ⟨n, 1, none⟩ = some (.int .i64 64) := (blk_cell BG2 1).trans (by rw [hcs.out, state_at]; rfl)
    have c5 : wr.cell? ⟨n, 5, none⟩ = some (.int .u64 count) := (blk_cell BG2 5).trans (by rw [hcs.out, state_at]; rfl)
    have c2 : wr.cell? ⟨n, 2, none⟩ = some (.int .i64 4) := (blk_cell BG2 2).trans (by rw [hcs.out, state_at]; rfl)
    have e1 : IntKind.i64.wrap (j : Int) = (j : Int) := IntWalk.i64_in _ (by omega)
    have e2 : IntKind.i64.wrap ((j : Int) + 8) = (j : Int) + 8 := IntWalk.i64_in _ (by omega)
    have j0 : (0 : Int) ≤ (j : Int) := by omega
    rcases Nat.lt_or_ge j 56 with hjl | hjl
    · have e3 : ((j : Int) + 8).tmod 64 = (j : Int) + 8 := by rw [Int.tmod_eq_emod_of_nonneg (by omega)]; omega
      have e4 : (((j : Int) + 8) == 0) = false := by simp; omega
      go_wp2
      go_quiet (fail)
      go_wp2_with fail
      exact ⟨⟨j + 1, by omega, by omega, by go_num, below_drewN_ HW _⟩, by simp [intOf]; omega⟩
    · obtain rfl : j = 56 := by omega
      go_wp2
      go_quiet (fail)
      go_wp2_with fail
      have HB3 : Below n w (wr.drewN nq) := HB1.trans ((below_drewN_ HW nq).mono (by rw [← HN.out]; exact HB1.size))
      have BG3 := blk_drewN BG2 nq
      have BP3 := blk_drewN (blk_below BP HW) nq
      have SZ3 : V < (wr.drewN nq).heap.size := Nat.lt_of_lt_of_le SZ HW.size
      clear c1 c2 c5 BG2 HW BG1 BP HB1 SZ e1 e2 j0
      generalize wr.drewN nq = W3 at *
      rw [show ((56 : Nat) : Int) = (56 : Int) from rfl]
      go_loopw [42] (fun v42 wr => ∃ (k : Nat) (L' : Array Value), k ≤ 8 ∧ v42 = .int .i64 k ∧ PadTo (count * 8) k L' ∧ wr.heap[V]? = some (.cells L' 115 (0, 0)) ∧ Turn V W3 wr) (fun v42 _ => 8 - (intOf v42).toNat)
      case atStart => exact ⟨0, L, by omega, rfl, hp, BP3, Turn.refl _ _⟩
      case round =>
        clear hp BP3
        obtain ⟨k, L', hk, rfl, hp, BP, hT⟩ := hrel
        rcases Nat.lt_or_ge k 8 with hkl | hkl
        · have k0 : (0 : Int) ≤ (k : Int) := by omega
          have k8 : (k : Int) < 8 := by omega
          have i0 : (0 : Int) ≤ 63 - (k : Int) := by omega
          have i1 : 63 - (k : Int) < 256 := by omega
          have i2 : (63 - (k : Int)).toNat = 63 - k := by omega
          have hlt : decide ((k : Int) < 8) = true := by simp; omega
          have f3 : wr.frozen? ⟨V, 63 - k, none⟩ = false := blk_frozen BP (63 - k)
          have w3 : wr.cell? ⟨V, 63 - k, none⟩ = some (.int .u8 (padAt (count * 8) k (63 - k))) := (blk_cell BP (63 - k)).trans (hp.at_ _ (by omega))
          go_wp2
          exact ⟨⟨k + 1, _, by omega, by go_num, pad_step hp hkl rfl, blk_set BP _ _, hT.setCell _ _⟩, by simp [intOf]; omega⟩
        · obtain rfl : k = 8 := by omega
          rw [show ((8 : Nat) : Int) = (8 : Int) from rfl]
          have hlt : decide ((8 : Int) < 8) = false := by simp
          have BG4 := hT.blk BG3 (by omega)
          have HB4 : Below n w wr := Turn.below HB3 hT (by omega) (by omega)
          have SZ4 : V < wr.heap.size := Nat.lt_of_lt_of_le SZ3 hT.size
          clear hT BG3 HB3 SZ3 hk hkl
          obtain ⟨W4, hW4⟩ : ∃ W4 : World, W4 = wr := ⟨_, rfl⟩
          rw [← hW4] at BP BG4 HB4 SZ4 ⊢
          clear hW4
          go_wp2_with fail
          have hsrc : Src n W4 (some ⟨V, 0, none⟩) 256 (padOf (count * 8)) :=
            ⟨by rw [padOf_len]; omega, C_of_cells (by rw [padOf_len]; omega) (fun j hj => by
              rw [padOf_len] at hj
              rw [Nat.zero_add]
              refine ((blk_cell BP j).trans (hp.at_ j hj)).trans ?_
              unfold padOf
              rw [List.getD_eq_getElem?_getD, List.getElem?_map, List.getElem?_range hj]
              rfl), fun ad e => by cases e; show V ≠ n; omega, padOf_rng _⟩
          have hcall := t60.take_call kf cub hcub s half hh n 102 count hc0 hc1 hcm (some ⟨V, 0, none⟩) 256 (padOf (count * 8)) 1 (padOf_len _) (by omega) W4 hsrc hg5 (by rw [← hcs.out]; exact BG4) (fun t ht => (HB4.cell (p := ⟨5, t, none⟩) (by show 5 < n; omega)).trans (htab t ht))
          rw [padOf_len] at hcall
          refine hcall.mono ?_
          rintro e W5 ⟨⟨v5, rfl⟩, T5, BG5⟩
          have hup : upto kf s (padOf (count * 8)) 1 = taken kf s (padOf (count * 8)) := by
            show taken kf s (((padOf (count * 8)).take 64).drop 0) = _
            rw [List.take_of_length_le (by rw [padOf_len]; omega), List.drop_zero]
          rw [hup] at BG5
          clear hcall hsrc hup BP BG4 hp
          have HB5 : Below n w W5 := Turn.below HB4 T5 (Nat.le_refl _) (by omega)
          have SZ5 : V < W5.heap.size := Nat.lt_of_lt_of_le SZ4 T5.size
          clear HB4 SZ4 T5
          obtain ⟨s', hs'⟩ : ∃ s', Aside0 (s' = taken kf s (padOf (count * 8))) := ⟨_, ⟨rfl⟩⟩
          rw [← hs'.out] at BG5
          generalize hcc : count + 64 * ((1 : Nat) : Int) = count' at *
          clear hcc
          obtain ⟨i5, hi5, hz5, hs5, hb5⟩ := info_parts n78.info5
          obtain ⟨W6, hmk, hown, hgr⟩ := run_make_own (P := Tryd.prog) W5 n 25 5 i5 (.int .u8 0) 1 Tryd.underlying25 hi5 hz5 hs5 .i64 .i64 64 (by rw [hb5]; decide) (by decide) (by omega)
          rw [show ((64 : Nat) : Int) = (64 : Int) from rfl] at hmk
          have BG6 := blk_grown BG5 hgr (by simp)
          have HB6 : Below n w W6 := pw_below_grown HB5 none (by omega) hgr (by simp)
          have HO : Kd.R (Kd.int .u8) 5 W6 n (fun k_ => k_ ≠ n) (.slice (some ⟨W5.heap.size, 0, none⟩) 0 64) ([] : List Int) :=
            ⟨fun k hk => by
              have : W5.heap.size = k := by simpa [Value.ownBlock] using hk
              omega, [], hown, Reps.none _ _⟩
          have hVo : n < W5.heap.size := by omega
          clear BG5 HB5 hgr hown
          generalize W5.heap.size = O at *
          have hcnt : W6.rangeAt n 6 (stCells64 s').toList := fun j v hv => by
            have hj : j < 8 := by have := (List.getElem?_eq_some_iff.1 hv).1; simpa [stCells64] using this
            rw [(blk_cell BG6 (6 + j)), state_word _ _ _ j hj, ← hv, Array.getElem?_toList, stCells64_word s' j hj]
          go_wp2_with (first | ((with_reducible refine gate_ (.load 73 (.tmp 60)) rfl ?_); refine wpList_load_mid rfl 73 (.tmp 60) rfl n 6 rfl (stCells64 s').toList _ hcnt Tryd.underlying73 rfl (by kernel_rfl) ?_; rw [Array.toArray_toList]) | fail)
          clear hcnt hmk
          have hxw := stCells64_word s'
          generalize stCells64 s' = xs at *
          go_loopw [7, 62] (fun v7 v62 wr => ∃ i : Nat, i ≤ 8 ∧ v62 = .int .i64 i ∧ Kd.R (Kd.int .u8) 5 wr n (fun k_ => k_ ≠ n) v7 (digTo s' i) ∧ wr.heap[n]? = some (.cells (stateCells count' s' half) 102 (0, 0)) ∧ Below n w wr) (fun _ v62 _ => 8 - (intOf v62).toNat)
          case atStart => exact ⟨0, by omega, rfl, HO, BG6, HB6⟩
          case round =>
            clear HO BG6 HB6
            obtain ⟨i, hi, rfl, HO, BG, HB⟩ := hrel
            obtain ⟨Ao, co, eo⟩ := Kd.R_slice HO
            subst eo
            rcases Nat.lt_or_ge i 8 with hil | hil
            · have hlt : decide ((i : Int) < 8) = true := by simp; omega
              have c2 : wr.cell? ⟨n, 2, none⟩ = some (.int .i64 4) := (blk_cell BG 2).trans (by rw [state_at]; rfl)
              have hix := index73 xs i (stf s' i) hil (hxw i hil)
              have hcall := b72.big_call (stf s' i) w wr n _ _ (digTo s' i) (4 * i) (digTo_len s' i) (by omega) (by rw [HN.out]; exact HB) (by rw [HN.out]; exact HO) BG
              rw [HN.out, ← digTo_succ] at hcall
              go_wp2_with fail
              refine hcall.mono ?_
              rintro e U1 ⟨v7', rfl, HO1, BG1, HB1⟩
              go_wp2
              exact ⟨⟨i + 1, by omega, by go_num, HO1, BG1, HB1⟩, by simp [intOf]; omega⟩
            · obtain rfl : i = 8 := by omega
              rw [show ((8 : Nat) : Int) = (8 : Int) from rfl]
              have hlt : decide ((8 : Int) < 8) = false := by simp
              have c0 : wr.cell? ⟨n, 0, none⟩ = some (.int .i64 32) := (blk_cell BG 0).trans (by rw [state_at]; rfl)
              have hl32 : (digTo s' 8).length = 32 := digTo_len s' 8
              obtain ⟨_, lo, ro⟩ := Kd.R_reads' HO
              rw [hl32] at lo ro ⊢
              have hbase := Kd.R_base HO
              obtain ⟨ad, eA, _⟩ := Kd.at_int ro 0 (by omega) (by omega)
              subst eA
              go_wp2
              go_ret
              refine ⟨ad, 32, rfl, ?_, Nat.le_refl _, ?_, by rw [HN.out]; exact HB⟩
              · rw [HN.out]; exact hbase _ rfl
              · rw [← hs'.out]; exact ro
end Go.Proofs.YtglcapkmeecknaaDoor.e61
/-! ## D40 -/
namespace Go.Proofs.YtglcapkmeecknaaDoor.d40
open Go Go.RowKit Go.Proofs.YtglcapkmeecknaaDoor.PHeaderPacks Go.Proofs.YtglcapkmeecknaaDoor.sha Go.Proofs.YtglcapkmeecknaaDoor.mem Go.Proofs.YtglcapkmeecknaaDoor.k70 Go.Proofs.YtglcapkmeecknaaDoor.b58 Go.Proofs.YtglcapkmeecknaaDoor.e61 Go.Proofs.YtglcapkmeecknaaDoorW.PrintWords Go.Proofs.YtglcapkmeecknaaDoorW.PrintLast Go.Proofs.YtglcapkmeecknaaDoorW.PrintMore
set_option linter.unusedVariables false
set_option linter.unusedSimpArgs false
/-- What the program's tables hold: the first words, the constants. -/
structure DigTab (kf : Nat → BitVec 32) (x : St) (w : World) : Prop where
  sq : ∃ sq : Nat → Int, (∀ t, t < 8 → 0 ≤ sq t ∧ sq t < 18446744073709551616 ∧ sq t / 4294967296 = nn (stf x t)) ∧ ∀ t, t < 8 → w.cell? ⟨4, t, none⟩ = some (.int .u64 (sq t))
  cub : ∃ cub : Nat → Int, (∀ t, t < 64 → 0 ≤ cub t ∧ cub t < 18446744073709551616 ∧ cub t / 4294967296 = nn (kf t)) ∧ ∀ t, t < 64 → w.cell? ⟨5, t, none⟩ = some (.int .u64 (cub t))
  size : 5 < w.heap.size
theorem DigTab.below {kf : Nat → BitVec 32} {x : St} {w w' : World} (h : DigTab kf x w) (hb : Below w.heap.size w w') : DigTab kf x w' := by
  obtain ⟨⟨sq, s1, s2⟩, ⟨cub, c1, c2⟩, hs⟩ := h
  exact ⟨⟨sq, s1, fun t ht => (hb.cell (by show 4 < w.heap.size; omega)).trans (s2 t ht)⟩, ⟨cub, c1, fun t ht => (hb.cell (by show 5 < w.heap.size; omega)).trans (c2 t ht)⟩, Nat.lt_of_lt_of_le hs hb.size⟩
set_option maxHeartbeats 1000000 in
set_option maxRecDepth 100000 in
theorem ssum_call (kf : Nat → BitVec 32) (x s : St) (half : List Value) (hh : half.length = 128) (count : Int) (hc0 : 0 ≤ count) (hc1 : count < 1099511627776) (hcm : count % 64 = 0) (g : Nat)
    (w : World) (hgc : w.heap[g]? = some (.cells (stateCells count s half) 106 (0, 0))) (ht : DigTab kf x w) :
    Calls Tryd.prog 53 #[.pointer (some ⟨g, 0, none⟩)] w fun e w' => ∃ a c, e = .returned (.slice (some a) 32 c) ∧ w.heap.size ≤ a.block ∧ 32 ≤ c ∧ Kd.C (Kd.int .u8) w' (some a) 32 (dig (taken kf s (padOf (count * 8)))) ∧ Below w.heap.size w w' := by
  obtain ⟨_, ⟨cub, q1, q2⟩, hs5⟩ := ht
  have hcall := end_call kf cub q1 s half hh count hc0 hc1 hcm w hs5 q2
  have hsz : (stateCells count s half).size = 142 := by rw [state_size, hh]
  clear q1 q2
  generalize stateCells count s half = cs at *
  go_enter Tryd.func53, Tryd.ntmps53
  go_wp2_with (first | ((with_reducible refine gate_ (.load 102 (.tmp 7)) rfl ?_); refine wpList_load_mid rfl 102 (.tmp 7) rfl g 0 rfl cs.toList _ (fun j v hv => by rw [Nat.zero_add, blk_cell hgc j, ← hv, Array.getElem?_toList]) Tryd.underlying102 rfl (by rw [Array.length_toList, hsz]; kernel_rfl) ?_; rw [Array.toArray_toList]) | fail)
  refine hcall.mono ?_
  rintro e W1 ⟨a, c, rfl, h1, h2, h3, h4⟩
  go_wp2
  go_ret
  exact ⟨a, c, rfl, h1, h2, h3, h4⟩
set_option maxHeartbeats 1000000 in
set_option maxRecDepth 100000 in
theorem sum_call (kf : Nat → BitVec 32) (x : St) (w : World) (ht : DigTab kf x w)
    (A : Option Addr) (c : Nat) (parts : List (List Int)) (hlc : parts.length ≤ c) (hC : Kd.C (Kd.slice 5 (Kd.int .u8)) w A parts.length parts) (K : Nat) (r : Int) (htot : digest_total.f K parts = some r) (hr0 : 0 ≤ r) (hr1 : r ≤ 33554432)
    (hp : ∀ i, i < parts.length → ∃ m, 0 < m ∧ m < 1048576 ∧ (rd_L1 parts (i : Int)).length = 64 * m) (hrng : ∀ i, i < parts.length → ∀ x ∈ rd_L1 parts (i : Int), 0 ≤ x ∧ x < 256) (hpl : parts.length < 1000) :
    Calls Tryd.prog 40 #[.int .i64 256, .slice A parts.length c] w fun e w' => ∃ a c', e = .returned (.tuple #[.slice (some a) 32 c', .int .i64 0]) ∧ w.heap.size ≤ a.block ∧ 32 ≤ c' ∧
      (∃ M, parts.flatten.length = 64 * M ∧ Kd.C (Kd.int .u8) w' (some a) 32 (dig (taken kf (upto kf x parts.flatten M) (padOf (64 * (M : Int) * 8))))) ∧ Below w.heap.size w w' := by
  obtain ⟨⟨sq, s1, s2⟩, ⟨cub, q1, q2⟩, hs5⟩ := ht
  have HT : Aside0 (DigTab kf x w) := ⟨⟨⟨sq, s1, s2⟩, ⟨cub, q1, q2⟩, hs5⟩⟩
  go_enter Tryd.func40, Tryd.ntmps40
  go_wp2_with fail
  refine (n51.new_call x sq s1 w (by omega) s2).mono ?_
  rintro e W1 ⟨g, rfl, hg, BG, hb1⟩
  go_wp2_with fail
  refine (w52.write_call kf cub q1 x half0 half0_len g w W1 hb1 hg BG A c parts hlc hC K r htot hr0 hr1 hp hrng hpl hs5 q2).mono ?_
  rintro e W2 ⟨rfl, hb2, M, hM, hMM, BG2⟩
  have HM := Aside0.mk hM
  clear hM BG
  go_wp2_with fail
  refine (ssum_call kf x (upto kf x parts.flatten M) half0 half0_len (64 * (M : Int)) (by omega) (by omega) (by omega) g W2 BG2 (HT.out.below hb2)).mono ?_
  rintro e W3 ⟨a, c', rfl, h1, h2, h3, h4⟩
  go_wp2
  go_ret2
  exact ⟨a, c', rfl, Nat.le_trans hb2.size h1, h2, ⟨M, HM.out, h3⟩, hb2.trans (h4.mono hb2.size)⟩
end Go.Proofs.YtglcapkmeecknaaDoor.d40
/-! ## H27 -/
namespace Go.Proofs.YtglcapkmeecknaaDoor.h27
open Go Go.RowKit Go.Proofs.YtglcapkmeecknaaDoor.PHeaderPacks Go.Proofs.YtglcapkmeecknaaDoor.sha Go.Proofs.YtglcapkmeecknaaDoor.mem Go.Proofs.YtglcapkmeecknaaDoor.e61 Go.Proofs.YtglcapkmeecknaaDoor.d40 Go.Proofs.YtglcapkmeecknaaDoorW.PrintWords Go.Proofs.YtglcapkmeecknaaDoorW.PrintLast Go.Proofs.YtglcapkmeecknaaDoorW.PrintMore
set_option linter.unusedVariables false
set_option linter.unusedSimpArgs false
/-- The bytes without the digest's room. -/
def hole (b : List Int) : List Int := b.take 448 ++ (List.replicate 64 0 ++ b.drop 512)
theorem total_of (k : Nat) (n : Int) (h0 : 0 ≤ n) : ∀ (ls : List (List Int)) (P : List (List Int)) (i : Nat), P.drop i = ls → n + (ls.flatten.length : Int) ≤ 33554432 → ls.length < k → P.length < 1000 → i ≤ P.length →
    digest_total.l0 k n P (P.length : Int) (i : Int) = some (n + (ls.flatten.length : Int))
  | [], P, i, hd, hn, hk, hP, hi => by
    obtain ⟨k, rfl⟩ : ∃ m, k = m + 1 := ⟨k - 1, by omega⟩
    have : P.length ≤ i := by simpa using hd
    simp only [digest_total.l0]
    rw [if_neg (by omega)]
    simp
  | l :: ls, P, i, hd, hn, hk, hP, hi => by
    obtain ⟨k, rfl⟩ : ∃ m, k = m + 1 := ⟨k - 1, by omega⟩
    have hil : i < P.length := by
      rcases Nat.lt_or_ge i P.length with h | h
      · exact h
      · rw [List.drop_eq_nil_of_le h] at hd; cases hd
    have hg : rd_L1 P (i : Int) = l := by
      rw [List.drop_eq_getElem_cons hil] at hd
      injection hd with h1 h2
      simp [rd_L1, hil, h1]
    have hd' : P.drop (i + 1) = ls := by
      rw [List.drop_eq_getElem_cons hil] at hd
      injection hd
    have hfl : ((l :: ls).flatten.length : Int) = l.length + ls.flatten.length := by simp
    rw [hfl] at hn ⊢
    have hw : wrap64 (n + (l.length : Int)) = n + l.length := by unfold wrap64; omega
    have hi1 : wrap64 ((i : Int) + 1) = ((i + 1 : Nat) : Int) := by unfold wrap64; omega
    simp only [digest_total.l0]
    rw [if_pos (by omega), if_pos (by omega), if_pos (by omega), hg, hw, if_neg (by omega), hi1]
    rw [total_of k (n + l.length) (by omega) ls P (i + 1) hd' (by omega) (by simpa using hk) hP (by omega)]
    congr 1
    omega
theorem rd3_0 (a b c : List Int) : rd_L1 [a, b, c] ((0 : Nat) : Int) = a := rfl
theorem rd3_1 (a b c : List Int) : rd_L1 [a, b, c] ((1 : Nat) : Int) = b := rfl
theorem rd3_2 (a b c : List Int) : rd_L1 [a, b, c] ((2 : Nat) : Int) = c := rfl
theorem three {i : Nat} (h : i < 3) : i = 0 ∨ i = 1 ∨ i = 2 := by omega
set_option maxHeartbeats 2000000 in
set_option maxRecDepth 100000 in
theorem sumOf_call (kf : Nat → BitVec 32) (x : St) (w : World) (ht : DigTab kf x w) (ad : Addr) (c : Nat) (b : List Int) (hlc : b.length ≤ c) (hC : Kd.C (Kd.int .u8) w (some ad) b.length b) (M : Nat) (hM : b.length = 64 * M) (h1 : 512 < b.length) (h2 : b.length ≤ 4194304)
    (hrng : ∀ x ∈ b, 0 ≤ x ∧ x < 256) :
    Calls Tryd.prog 27 #[.slice (some ad) b.length c] w fun e w' => ∃ a c', e = .returned (.slice (some a) 32 c') ∧ w.heap.size ≤ a.block ∧ 32 ≤ c' ∧ Kd.C (Kd.int .u8) w' (some a) 32 (dig (taken kf (upto kf x (hole b) M) (padOf (64 * (M : Int) * 8)))) ∧ Below w.heap.size w w' := by
  obtain ⟨i5, hi5, hz5, hs5, hb5⟩ := info_parts n78.info5
  have hcut1 : ∀ W : World, _ := cut_to (P := Tryd.prog) 25 5 .i64 Tryd.underlying25 hi5 (some ad) b.length c 448 (by omega) (by omega) hlc
  have hcut2 : ∀ W : World, _ := cut_from (P := Tryd.prog) 25 5 .i64 Tryd.underlying25 hi5 1 hs5 (some ad) b.length c 512 (by omega) (by omega)
  have hmk : ∀ W : World, _ := print_make_int (P := Tryd.prog) 25 5 (.int .u8 0) 1 Tryd.underlying25 n78.info5 rfl (by decide) 64 (by omega) (by decide)
  rw [show (448 : Int).toNat = 448 from rfl] at hcut1
  rw [show (512 : Int).toNat = 512 from rfl, show (if c = 512 then some ad else Option.map (fun x => x.add (512 * 1)) (some ad)) = some (if c = 512 then ad else ad.add 512) by split <;> simp] at hcut2
  rw [show (64 : Int).toNat = 64 from rfl, made_nums] at hmk
  generalize hZ : (nums .u8 (List.replicate 64 0)).toArray = Z at *
  generalize had2 : (if c = 512 then ad else ad.add 512) = ad2 at *
  have hhl : (hole b).length = 64 * M := by
    unfold hole
    rw [List.length_append, List.length_append, List.length_take, List.length_replicate, List.length_drop]
    omega
  have hfl : [b.take 448, List.replicate 64 0, b.drop 512].flatten = hole b := by simp [hole]
  have hl0 : (b.take 448).length = 448 := by rw [List.length_take]; omega
  have hl2 : (b.drop 512).length = b.length - 512 := List.length_drop
  have hcall : ∀ W' : World, W' = ((w.alloc (.cells Z 5)).alloc (.cells #[.slice (some ad) 448 c, .slice (some ⟨w.heap.size, 0, none⟩) 64 64, .slice (some ad2) (b.length - 512) (c - 512)] 25)).drew →
      Below w.heap.size w W' ∧ Calls Tryd.prog 40 #[.int .i64 256, .slice (some ⟨w.heap.size + 1, 0, none⟩) 3 3] W' fun e w' => ∃ a c', e = .returned (.tuple #[.slice (some a) 32 c', .int .i64 0]) ∧ W'.heap.size ≤ a.block ∧ 32 ≤ c' ∧
        Kd.C (Kd.int .u8) w' (some a) 32 (dig (taken kf (upto kf x (hole b) M) (padOf (64 * (M : Int) * 8)))) ∧ Below W'.heap.size W' w' := by
    intro W' hW'
    have hb : Below w.heap.size w W' := by rw [hW']; exact below_drew (below_alloc (below_alloc (Below.refl _ w) _) _)
    have hz : W'.heap[w.heap.size]? = some (.cells Z 5 (0, 0)) := by rw [hW']; exact blk_drew (blk_alloc (blk_new w _) _)
    have hs : W'.heap[w.heap.size + 1]? = some (.cells #[.slice (some ad) 448 c, .slice (some ⟨w.heap.size, 0, none⟩) 64 64, .slice (some ad2) (b.length - 512) (c - 512)] 25 (0, 0)) := by
      rw [hW']
      have := blk_new (w.alloc (.cells Z 5)) (.cells #[.slice (some ad) 448 c, .slice (some ⟨w.heap.size, 0, none⟩) 64 64, .slice (some ad2) (b.length - 512) (c - 512)] 25)
      rw [World.size_alloc] at this
      exact blk_drew this
    have hC0 := Kd.C_below (Kd.C_take (k := Kd.int .u8) hC (m := 448) (by omega)) hb
    have hC1 : Kd.C (Kd.int .u8) W' (some ⟨w.heap.size, 0, none⟩) (List.replicate 64 (0 : Int)).length (List.replicate 64 0) := row_C (L := List.replicate 64 0) (by rw [Row, hZ]; exact hz) (by simp)
    have hC2 := Kd.C_below (Kd.C_drop (k := Kd.int .u8) hC (m := 512) (c := c) (by omega) hlc) hb
    rw [show (Kd.int .u8).sz = 1 from rfl, show (if c = 512 then some ad else Option.map (fun x => x.add (512 * 1)) (some ad)) = some ad2 by rw [← had2]; split <;> simp] at hC2
    have hCC : Kd.C (Kd.slice 5 (Kd.int .u8)) W' (some ⟨w.heap.size + 1, 0, none⟩) [b.take 448, List.replicate 64 0, b.drop 512].length [b.take 448, List.replicate 64 0, b.drop 512] := by
      refine ⟨rfl, by simp, fun _ => ⟨_, rfl, fun j p hj => ?_⟩⟩
      have hj3 : j < 3 := by have := (List.getElem?_eq_some_iff.1 hj).1; simpa using this
      have key : ∀ v : Value, (#[.slice (some ad) 448 c, .slice (some ⟨w.heap.size, 0, none⟩) 64 64, .slice (some ad2) (b.length - 512) (c - 512)] : Array Value)[j]? = some v → ∀ (i : Nat) (u : Value), [v][i]? = some u → W'.cell? ((⟨w.heap.size + 1, 0, none⟩ : Addr).add (j * 1 + i)) = some u := by
        intro v hv i u hu
        have hi : i = 0 := by have := (List.getElem?_eq_some_iff.1 hu).1; simp at this; omega
        subst hi
        cases hu
        rw [Nat.mul_one, Nat.add_zero, add_plain]
        refine (blk_cell hs j).trans ?_
        exact hv
      obtain rfl | rfl | rfl := three hj3
      · cases hj
        exact ⟨[.slice (some ad) 448 c], rfl, ⟨some ad, c, by rw [hl0], by omega, hC0⟩, key _ rfl⟩
      · cases hj
        exact ⟨[.slice (some ⟨w.heap.size, 0, none⟩) 64 64], rfl, ⟨_, 64, by rw [List.length_replicate], by simp, hC1⟩, key _ rfl⟩
      · cases hj
        exact ⟨[.slice (some ad2) (b.length - 512) (c - 512)], rfl, ⟨some ad2, c - 512, by rw [hl2], by omega, hC2⟩, key _ rfl⟩
    have htot : digest_total.f 4 [b.take 448, List.replicate 64 0, b.drop 512] = some (64 * (M : Int)) := by
      have h := total_of 4 0 (by omega) [b.take 448, List.replicate 64 0, b.drop 512] [b.take 448, List.replicate 64 0, b.drop 512] 0 rfl (by rw [hfl, hhl]; omega) (by simp) (by simp) (by simp)
      unfold digest_total.f
      rw [hfl, hhl] at h
      refine h.trans ?_
      congr 1
      omega
    refine ⟨hb, (d40.sum_call kf x W' (ht.below hb) (some ⟨w.heap.size + 1, 0, none⟩) 3 [b.take 448, List.replicate 64 0, b.drop 512] (by simp) hCC 4 (64 * (M : Int)) htot (by omega) (by omega) (fun i hi => ?_) (fun i hi y hy => ?_) (by simp)).mono ?_⟩
    · obtain rfl | rfl | rfl := three hi
      · exact ⟨7, by omega, by omega, by rw [rd3_0, hl0]⟩
      · exact ⟨1, by omega, by omega, by rw [rd3_1]; simp⟩
      · exact ⟨M - 8, by omega, by omega, by rw [rd3_2, hl2]; omega⟩
    · obtain rfl | rfl | rfl := three hi
      · rw [rd3_0] at hy; exact hrng y (List.mem_of_mem_take hy)
      · rw [rd3_1] at hy; have := List.eq_of_mem_replicate hy; omega
      · rw [rd3_2] at hy; exact hrng y (List.mem_of_mem_drop hy)
    · rintro e w' ⟨a, c', rfl, g1, g2, ⟨M', g3, g4⟩, g5⟩
      rw [hfl] at g3 g4
      obtain rfl : M' = M := by omega
      exact ⟨a, c', rfl, g1, g2, g4, g5⟩
  clear hhl hfl hl0 hl2 hM had2 hZ
  go_enter Tryd.func27, Tryd.ntmps27
  go_wp2_with fail
  go_region_with (go_at_call 40; refine (hcall _ rfl).2.mono ?_; rintro e W1 ⟨a, c', rfl, g1, g2, g4, g5⟩)
  have hb := (hcall _ rfl).1
  clear hcall
  generalize ((w.alloc (.cells Z 5)).alloc (.cells #[.slice (some ad) 448 c, .slice (some ⟨w.heap.size, 0, none⟩) 64 64, .slice (some ad2) (b.length - 512) (c - 512)] 25)).drew = W' at *
  go_wp2
  go_ret
  exact ⟨a, c', rfl, Nat.le_trans hb.size g1, g2, g4, hb.trans (g5.mono hb.size)⟩
end Go.Proofs.YtglcapkmeecknaaDoor.h27
