/- cofferref01.taken32: a block of 64 bytes is taken. (Written by gent32.py.) (Merged by merge.py.) -/
import Derived.Test.YtglcapkmeecknaaDoorQA
import Derived.IntWalk
import Derived.StillTailTactics
import Derived.Deep.QuietTactic
import Derived.BigQuiet
import Derived.BigRegion
/-! ## T32 -/
namespace Go.Proofs.YtglcapkmeecknaaDoor.t32
open Go Go.RowKit Go.Proofs.YtglcapkmeecknaaDoor.sha Go.Proofs.YtglcapkmeecknaaDoor.mem Go.Proofs.YtglcapkmeecknaaDoorW.PrintWords Go.Proofs.YtglcapkmeecknaaDoorW.PrintLast Go.Proofs.YtglcapkmeecknaaDoorW.PrintMore
set_option linter.unusedVariables false
set_option linter.unusedSimpArgs false
attribute [local go_sem] nn_xor nn_and nn_or nn_not nn_not' nn_mod nn_wrap nn_wrap64 nn_mod64 nn_add nn_add' nn_shl7 nn_shlw7 nn_shl8 nn_shlw8 nn_shl10 nn_shlw10 nn_shl13 nn_shlw13 nn_shl14 nn_shlw14 nn_shl15 nn_shlw15 nn_shl16 nn_shlw16 nn_shl19 nn_shlw19 nn_shl21 nn_shlw21 nn_shl24 nn_shlw24 nn_shl25 nn_shlw25 nn_shl26 nn_shlw26 nn_shl30 nn_shlw30 nn_shr7 nn_shr18 nn_shr17 nn_shr19 nn_shr6 nn_shr11 nn_shr25 nn_shr2 nn_shr13 nn_shr22 nn_shr3 nn_shr10
set_option maxHeartbeats 8000000 in
set_option maxRecDepth 100000 in
theorem taken32_call (kf : Nat → BitVec 32) (s : St) (hs ks : Array Value) (hhs : hs = stCells s) (hks : ks.size = 64) (hkf : isWord ks 64 kf) (A : Option Addr) (c : Nat) (b : List Int) (hb : b.length = 64) (hrng : ∀ x ∈ b, 0 ≤ x ∧ x < 256) (w : World) (hr : Kd.C (Kd.int .u8) w A 64 b) :
    Calls Tryd.prog 54 #[.agg hs, .slice A 64 c, .agg ks] w fun e w' => e = .returned (.agg (stCells (taken kf s b))) ∧ Below w.heap.size w w' := by
  have HH := Aside0.mk hhs
  clear hhs
  go_enter Tryd.func54, Tryd.ntmps54
  go_wp2
  have B0 : ((((w.alloc (.cells hs 93)).alloc (.cells ks 91)).alloc (.cells (Array.replicate 8 (.int .u32 0)) 93)).alloc (.cells (Array.replicate 64 (.int .u32 0)) 91)).heap[w.heap.size]? = some (.cells hs 93 (0, 0)) := blk_alloc (blk_alloc (blk_alloc (blk_new w _) _) _) _
  have B1 : ((((w.alloc (.cells hs 93)).alloc (.cells ks 91)).alloc (.cells (Array.replicate 8 (.int .u32 0)) 93)).alloc (.cells (Array.replicate 64 (.int .u32 0)) 91)).heap[w.heap.size + 1]? = some (.cells ks 91 (0, 0)) := by
    have h := blk_alloc (blk_alloc (blk_new (w.alloc (.cells hs 93)) (.cells ks 91)) (.cells (Array.replicate 8 (.int .u32 0)) 93)) (.cells (Array.replicate 64 (.int .u32 0)) 91)
    simpa using h
  have B2 : ((((w.alloc (.cells hs 93)).alloc (.cells ks 91)).alloc (.cells (Array.replicate 8 (.int .u32 0)) 93)).alloc (.cells (Array.replicate 64 (.int .u32 0)) 91)).heap[w.heap.size + 1 + 1]? = some (.cells (Array.replicate 8 (.int .u32 0)) 93 (0, 0)) := by
    have h := blk_alloc (blk_new ((w.alloc (.cells hs 93)).alloc (.cells ks 91)) (.cells (Array.replicate 8 (.int .u32 0)) 93)) (.cells (Array.replicate 64 (.int .u32 0)) 91)
    simpa using h
  have B3 : ((((w.alloc (.cells hs 93)).alloc (.cells ks 91)).alloc (.cells (Array.replicate 8 (.int .u32 0)) 93)).alloc (.cells (Array.replicate 64 (.int .u32 0)) 91)).heap[w.heap.size + 1 + 1 + 1]? = some (.cells (Array.replicate 64 (.int .u32 0)) 91 (0, 0)) := by
    have h := blk_new (((w.alloc (.cells hs 93)).alloc (.cells ks 91)).alloc (.cells (Array.replicate 8 (.int .u32 0)) 93)) (.cells (Array.replicate 64 (.int .u32 0)) 91)
    simpa using h
  have BB : Below w.heap.size w ((((w.alloc (.cells hs 93)).alloc (.cells ks 91)).alloc (.cells (Array.replicate 8 (.int .u32 0)) 93)).alloc (.cells (Array.replicate 64 (.int .u32 0)) 91)) := below_alloc (below_alloc (below_alloc (below_alloc (Below.refl _ w) _) _) _) _
  have SZ : ((((w.alloc (.cells hs 93)).alloc (.cells ks 91)).alloc (.cells (Array.replicate 8 (.int .u32 0)) 93)).alloc (.cells (Array.replicate 64 (.int .u32 0)) 91)).heap.size = w.heap.size + 4 := by simp
  have E8 : Array.replicate 8 (Value.int .u32 0) = #[.int .u32 0, .int .u32 0, .int .u32 0, .int .u32 0, .int .u32 0, .int .u32 0, .int .u32 0, .int .u32 0] := rfl
  have E64 : Array.replicate 64 (Value.int .u32 0) = #[.int .u32 0, .int .u32 0, .int .u32 0, .int .u32 0, .int .u32 0, .int .u32 0, .int .u32 0, .int .u32 0, .int .u32 0, .int .u32 0, .int .u32 0, .int .u32 0, .int .u32 0, .int .u32 0, .int .u32 0, .int .u32 0, .int .u32 0, .int .u32 0, .int .u32 0, .int .u32 0, .int .u32 0, .int .u32 0, .int .u32 0, .int .u32 0, .int .u32 0, .int .u32 0, .int .u32 0, .int .u32 0, .int .u32 0, .int .u32 0, .int .u32 0, .int .u32 0, .int .u32 0, .int .u32 0, .int .u32 0, .int .u32 0, .int .u32 0, .int .u32 0, .int .u32 0, .int .u32 0, .int .u32 0, .int .u32 0, .int .u32 0, .int .u32 0, .int .u32 0, .int .u32 0, .int .u32 0, .int .u32 0, .int .u32 0, .int .u32 0, .int .u32 0, .int .u32 0, .int .u32 0, .int .u32 0, .int .u32 0, .int .u32 0, .int .u32 0, .int .u32 0, .int .u32 0, .int .u32 0, .int .u32 0, .int .u32 0, .int .u32 0, .int .u32 0] := rfl
  rw [E8, E64] at B0 B1 B2 B3 BB SZ
  generalize hWa : ((((w.alloc (.cells hs 93)).alloc (.cells ks 91)).alloc (.cells #[.int .u32 0, .int .u32 0, .int .u32 0, .int .u32 0, .int .u32 0, .int .u32 0, .int .u32 0, .int .u32 0] 93)).alloc (.cells #[.int .u32 0, .int .u32 0, .int .u32 0, .int .u32 0, .int .u32 0, .int .u32 0, .int .u32 0, .int .u32 0, .int .u32 0, .int .u32 0, .int .u32 0, .int .u32 0, .int .u32 0, .int .u32 0, .int .u32 0, .int .u32 0, .int .u32 0, .int .u32 0, .int .u32 0, .int .u32 0, .int .u32 0, .int .u32 0, .int .u32 0, .int .u32 0, .int .u32 0, .int .u32 0, .int .u32 0, .int .u32 0, .int .u32 0, .int .u32 0, .int .u32 0, .int .u32 0, .int .u32 0, .int .u32 0, .int .u32 0, .int .u32 0, .int .u32 0, .int .u32 0, .int .u32 0, .int .u32 0, .int .u32 0, .int .u32 0, .int .u32 0, .int .u32 0, .int .u32 0, .int .u32 0, .int .u32 0, .int .u32 0, .int .u32 0, .int .u32 0, .int .u32 0, .int .u32 0, .int .u32 0, .int .u32 0, .int .u32 0, .int .u32 0, .int .u32 0, .int .u32 0, .int .u32 0, .int .u32 0, .int .u32 0, .int .u32 0, .int .u32 0, .int .u32 0] 91)) = Wa at *
  clear hWa E8
  rw [← E64] at B3
  clear E64
  generalize hn : w.heap.size = n at *
  have rb0 : ∀ i, i < 64 → ∃ ad, A = some ad ∧ (ad.add i).block < n ∧ Wa.cell? (ad.add i) = some (.int .u8 (nn (byteAt b i))) := by
    intro i hi
    obtain ⟨ad, e, hc⟩ := Kd.at_int hr (i : Int) (by omega) (by omega)
    rw [Int.toNat_natCast, byte_nn hrng] at hc
    have hl := World.block_lt_of_cell? w _ hc
    rw [hn] at hl
    exact ⟨ad, e, hl, (BB.cell hl).trans hc⟩
  go_loopw [8] (fun v8 wr => ∃ (k : Nat) (L : Array Value), k ≤ 16 ∧ v8 = .int .i64 k ∧ L.size = 64 ∧ wr.heap[n + 1 + 1 + 1]? = some (.cells L 91 (0, 0)) ∧ isWord L k (sched b) ∧ Turn (n + 1 + 1 + 1) Wa wr) (fun v8 _ => 16 - (intOf v8).toNat)
  case atStart => exact ⟨0, _, Nat.zero_le _, rfl, by simp, B3, fun t ht => absurd ht (by omega), Turn.refl _ _⟩
  case round =>
    obtain ⟨k, L, hk, rfl, hL, BW, hw, hT⟩ := hrel
    rcases Nat.lt_or_ge k 16 with hkl | hkl
    · have hlt : decide ((k : Int) < 16) = true := by simp; omega
      have rb : ∀ i, i < 64 → ∃ ad, A = some ad ∧ wr.cell? (ad.add i) = some (.int .u8 (nn (byteAt b i))) := by
        intro i hi
        obtain ⟨ad, e, hl, hc⟩ := rb0 i hi
        exact ⟨ad, e, (hT.cell (by omega) (by omega)).trans hc⟩
      obtain ⟨ad, eA, c0⟩ := rb (4 * k) (by omega)
      obtain ⟨ad1, eA1, c1⟩ := rb (4 * k + 1) (by omega)
      obtain ⟨ad2, eA2, c2⟩ := rb (4 * k + 2) (by omega)
      obtain ⟨ad3, eA3, c3⟩ := rb (4 * k + 3) (by omega)
      cases eA
      cases eA1
      cases eA2
      cases eA3
      clear rb rb0
      rw [add_some ad (4 * k + 1) (by omega)] at c1
      rw [add_some ad (4 * k + 2) (by omega)] at c2
      rw [add_some ad (4 * k + 3) (by omega)] at c3
      have w3 : wr.cell? ⟨n + 1 + 1 + 1, k, none⟩ = L[k]? := blk_cell BW k
      have w4 : L[k]? = some L[k] := by simp
      rw [w4] at w3
      have hk0 : (0 : Int) ≤ (k : Int) := by omega
      have hk64 : (k : Int) < 64 := by omega
      have p0 : (0 : Int) ≤ 4 * (k : Int) := by omega
      have p1 : (0 : Int) ≤ 4 * (k : Int) + 1 := by omega
      have p2 : (0 : Int) ≤ 4 * (k : Int) + 2 := by omega
      have p3 : (0 : Int) ≤ 4 * (k : Int) + 3 := by omega
      have l0 : 4 * (k : Int) < 64 := by omega
      have l1 : 4 * (k : Int) + 1 < 64 := by omega
      have l2 : 4 * (k : Int) + 2 < 64 := by omega
      have l3 : 4 * (k : Int) + 3 < 64 := by omega
      have n0 : (4 * (k : Int)).toNat = 4 * k := by omega
      have n1 : (4 * (k : Int) + 1).toNat = 4 * k + 1 := by omega
      have n2 : (4 * (k : Int) + 2).toNat = 4 * k + 2 := by omega
      have n3 : (4 * (k : Int) + 3).toNat = 4 * k + 3 := by omega
      go_wp2
      have e0 : IntKind.i64.wrap (4 * (k : Int)) = 4 * (k : Int) := IntWalk.i64_in _ (by omega)
      have e1 : IntKind.i64.wrap (4 * (k : Int) + 1) = 4 * (k : Int) + 1 := IntWalk.i64_in _ (by omega)
      have e2 : IntKind.i64.wrap (4 * (k : Int) + 2) = 4 * (k : Int) + 2 := IntWalk.i64_in _ (by omega)
      have e3 : IntKind.i64.wrap (4 * (k : Int) + 3) = 4 * (k : Int) + 3 := IntWalk.i64_in _ (by omega)
      go_still_tail 35, (by kernel_rfl)
      clear e0 e1 e2 e3
      have f3' : wr.drew.frozen? ⟨n + 1 + 1 + 1, k, none⟩ = false := blk_frozen BW k
      have w3' : wr.drew.cell? ⟨n + 1 + 1 + 1, k, none⟩ = some L[k] := w3
      rw [show ({ heap := wr.heap, tape := wr.tape, drawn := wr.drawn + 1, os := wr.os, output := wr.output } : World) = wr.drew from rfl]
      go_wp2
      exact ⟨⟨k + 1, _, by omega, by go_num, by simp [hL], blk_drew (blk_set BW k _), isWord_set hw (by omega) (by rw [sched_small b hkl]; rfl), (hT.setCell _ _).drew⟩, by simp [intOf]; omega⟩
    · obtain rfl : k = 16 := by omega
      rw [show ((16 : Nat) : Int) = (16 : Int) from rfl]
      have hlt : decide ((16 : Int) < 16) = false := by simp
      go_wp2
      generalize hLw : L = L0 at *
      have B0' := hT.blk B0 (by omega)
      have B1' := hT.blk B1 (by omega)
      have B2' := hT.blk B2 (by omega)
      have BB' : Below n w wr := Turn.below BB hT (by omega) (by omega)
      have SZ' : n + 4 ≤ wr.heap.size := by have := hT.size; omega
      clear hT B0 B1 B2 B3 BB SZ rb0
      obtain ⟨W1, hW1⟩ : ∃ W1 : World, W1 = wr := ⟨_, rfl⟩
      rw [← hW1] at BW B0' B1' B2' BB' SZ' ⊢
      clear hW1
      go_loopw [9] (fun v9 wr => ∃ (k : Nat) (L : Array Value), 16 ≤ k ∧ k ≤ 64 ∧ v9 = .int .i64 k ∧ L.size = 64 ∧ wr.heap[n + 1 + 1 + 1]? = some (.cells L 91 (0, 0)) ∧ isWord L k (sched b) ∧ Turn (n + 1 + 1 + 1) W1 wr) (fun v9 _ => 64 - (intOf v9).toNat)
      case atStart => exact ⟨16, _, by omega, by omega, rfl, hL, BW, hw, Turn.refl _ _⟩
      case round =>
        clear BW hw hL
        obtain ⟨k, L, hk16, hk, rfl, hL, BW, hw, hT⟩ := hrel
        rcases Nat.lt_or_ge k 64 with hkl | hkl
        · have hlt : decide ((k : Int) < 64) = true := by simp; omega
          have r7 : wr.cell? ⟨n + 1 + 1 + 1, k - 7, none⟩ = some (.int .u32 (nn (sched b (k - 7)))) := (blk_cell BW (k - 7)).trans (hw (k - 7) (by omega))
          have r16 : wr.cell? ⟨n + 1 + 1 + 1, k - 16, none⟩ = some (.int .u32 (nn (sched b (k - 16)))) := (blk_cell BW (k - 16)).trans (hw (k - 16) (by omega))
          have r15 : wr.cell? ⟨n + 1 + 1 + 1, k - 15, none⟩ = some (.int .u32 (nn (sched b (k - 15)))) := (blk_cell BW (k - 15)).trans (hw (k - 15) (by omega))
          have r2 : wr.cell? ⟨n + 1 + 1 + 1, k - 2, none⟩ = some (.int .u32 (nn (sched b (k - 2)))) := (blk_cell BW (k - 2)).trans (hw (k - 2) (by omega))
          have w3 : wr.cell? ⟨n + 1 + 1 + 1, k, none⟩ = L[k]? := blk_cell BW k
          have w4 : L[k]? = some L[k] := by simp
          rw [w4] at w3
          obtain ⟨j, rfl⟩ : ∃ j, k = j + 16 := ⟨k - 16, by omega⟩
          rw [show j + 16 - 7 = j + 9 by omega] at r7
          rw [show j + 16 - 16 = j by omega] at r16
          rw [show j + 16 - 15 = j + 1 by omega] at r15
          rw [show j + 16 - 2 = j + 14 by omega] at r2
          have p9 : (0 : Int) ≤ (j : Int) + 9 := by omega
          have p0 : (0 : Int) ≤ (j : Int) := by omega
          have p16 : (0 : Int) ≤ (j : Int) + 16 := by omega
          have l9 : (j : Int) + 9 < 64 := by omega
          have l0 : (j : Int) < 64 := by omega
          have l16 : (j : Int) + 16 < 64 := by omega
          have n9 : ((j : Int) + 9).toNat = j + 9 := by omega
          have n16 : ((j : Int) + 16).toNat = j + 16 := by omega
          go_wp2
          have e7 : IntKind.i64.wrap ((j : Int) + 16 - 7) = (j : Int) + 9 := by rw [IntWalk.i64_in _ (by omega)]; omega
          have e16 : IntKind.i64.wrap ((j : Int) + 16 - 16) = (j : Int) := by rw [IntWalk.i64_in _ (by omega)]; omega
          have e0 : IntKind.i64.wrap (j : Int) = (j : Int) := IntWalk.i64_in _ (by omega)
          go_still_tail 15, (by kernel_rfl)
          clear e7 e16 e0
          have f3' : wr.drew.frozen? ⟨n + 1 + 1 + 1, j + 16, none⟩ = false := blk_frozen BW (j + 16)
          have w3' : wr.drew.cell? ⟨n + 1 + 1 + 1, j + 16, none⟩ = some L[j + 16] := w3
          rw [show ({ heap := wr.heap, tape := wr.tape, drawn := wr.drawn + 1, os := wr.os, output := wr.output } : World) = wr.drew from rfl]
          go_wp2
          go_roundw
          case rel => exact ⟨j + 16 + 1, _, by omega, by omega, by go_num, by simp [hL], blk_drew (blk_set BW _ _), isWord_set hw (by omega) (by rw [sched_at]; exact sched_ref (sched b j) (sched b (j + 9)) (sched b (j + 1)) (sched b (j + 14))), (hT.setCell _ _).drew⟩
          case measure => simp [intOf]; omega
        · obtain rfl : k = 64 := by omega
          rw [show ((64 : Nat) : Int) = (64 : Int) from rfl]
          have hlt : decide ((64 : Int) < 64) = false := by simp
          have B0 := hT.blk B0' (by omega)
          have B1 := hT.blk B1' (by omega)
          have B2 := hT.blk B2' (by omega)
          have BB : Below n w wr := Turn.below BB' hT (by omega) (by omega)
          have SZ : n + 4 ≤ wr.heap.size := by have := hT.size; omega
          clear hT B0' B1' B2' BB' SZ' hlt
          have h0 : wr.cell? ⟨n, 0, none⟩ = some (.int .u32 (nn s.a)) := (blk_cell B0 0).trans (by rw [HH.out]; rfl)
          have h1 : wr.cell? ⟨n, 1, none⟩ = some (.int .u32 (nn s.b)) := (blk_cell B0 1).trans (by rw [HH.out]; rfl)
          have h2 : wr.cell? ⟨n, 2, none⟩ = some (.int .u32 (nn s.c)) := (blk_cell B0 2).trans (by rw [HH.out]; rfl)
          have h3 : wr.cell? ⟨n, 3, none⟩ = some (.int .u32 (nn s.d)) := (blk_cell B0 3).trans (by rw [HH.out]; rfl)
          have h4 : wr.cell? ⟨n, 4, none⟩ = some (.int .u32 (nn s.e)) := (blk_cell B0 4).trans (by rw [HH.out]; rfl)
          have h5 : wr.cell? ⟨n, 5, none⟩ = some (.int .u32 (nn s.f)) := (blk_cell B0 5).trans (by rw [HH.out]; rfl)
          have h6 : wr.cell? ⟨n, 6, none⟩ = some (.int .u32 (nn s.g)) := (blk_cell B0 6).trans (by rw [HH.out]; rfl)
          have h7 : wr.cell? ⟨n, 7, none⟩ = some (.int .u32 (nn s.h)) := (blk_cell B0 7).trans (by rw [HH.out]; rfl)
          obtain ⟨W2, hW2⟩ : ∃ W2 : World, W2 = wr := ⟨_, rfl⟩
          rw [← hW2] at BW B0 B1 B2 BB SZ h0 h1 h2 h3 h4 h5 h6 h7 ⊢
          clear hW2
          go_wp2
          go_quiet (fail)
          go_wp2
          go_quiet (fail)
          go_wp2
          clear h0 h1 h2 h3 h4 h5 h6 h7
          go_loopw [22, 14, 15, 16, 17, 18, 19, 20, 21] (fun v22 v14 v15 v16 v17 v18 v19 v20 v21 wr => ∃ t : Nat, t ≤ 64 ∧ v22 = .int .i64 t ∧ v14 = .int .u32 (nn (steps kf (sched b) t s).a) ∧ v15 = .int .u32 (nn (steps kf (sched b) t s).b) ∧ v16 = .int .u32 (nn (steps kf (sched b) t s).c) ∧ v17 = .int .u32 (nn (steps kf (sched b) t s).d) ∧ v18 = .int .u32 (nn (steps kf (sched b) t s).e) ∧ v19 = .int .u32 (nn (steps kf (sched b) t s).f) ∧ v20 = .int .u32 (nn (steps kf (sched b) t s).g) ∧ v21 = .int .u32 (nn (steps kf (sched b) t s).h) ∧ Below W2.heap.size W2 wr) (fun v22 _ _ _ _ _ _ _ _ _ => 64 - (intOf v22).toNat)
          case atStart => exact ⟨0, by omega, rfl, rfl, rfl, rfl, rfl, rfl, rfl, rfl, rfl, below_drewN_ (below_drewN_ (Below.refl _ W2) _) _⟩
          case round =>
            obtain ⟨t, ht, rfl, rfl, rfl, rfl, rfl, rfl, rfl, rfl, rfl, HB⟩ := hrel
            have C0 := blk_below B0 HB
            have C1 := blk_below B1 HB
            have C2 := blk_below B2 HB
            have C3 := blk_below BW HB
            rcases Nat.lt_or_ge t 64 with htl | htl
            · have hlt : decide ((t : Int) < 64) = true := by simp; omega
              have kc : wr.cell? ⟨n + 1, t, none⟩ = some (.int .u32 (nn (kf t))) := (blk_cell C1 t).trans (hkf t htl)
              have wc : wr.cell? ⟨n + 1 + 1 + 1, t, none⟩ = some (.int .u32 (nn (sched b t))) := (blk_cell C3 t).trans (hw t htl)
              have hst := Aside0.mk (show steps kf (sched b) (t + 1) s = sha.step (kf t) (sched b t) (steps kf (sched b) t s) from rfl)
              have ht0 : (0 : Int) ≤ (t : Int) := by omega
              have ht64 : (t : Int) < 64 := by omega
              generalize steps kf (sched b) t s = x at *
              generalize kf t = kt at *
              generalize sched b t = st at *
              go_wp2
              go_quiet (fail)
              go_wp2
              go_roundw
              case rel => exact ⟨t + 1, by omega, by go_num, by rw [hst.out]; exact round_a _ _ _, by rw [hst.out]; rfl, by rw [hst.out]; rfl, by rw [hst.out]; rfl, by rw [hst.out]; exact round_e _ _ _, by rw [hst.out]; rfl, by rw [hst.out]; rfl, by rw [hst.out]; rfl, below_drewN_ HB _⟩
              case measure => simp [intOf]; omega
            · obtain rfl : t = 64 := by omega
              rw [show ((64 : Nat) : Int) = (64 : Int) from rfl]
              have hlt : decide ((64 : Int) < 64) = false := by simp
              generalize hx : steps kf (sched b) 64 s = x at *
              have HX := Aside0.mk hx
              clear hx
              have h0 : wr.cell? ⟨n, 0, none⟩ = some (.int .u32 (nn s.a)) := (blk_cell C0 0).trans (by rw [HH.out]; rfl)
              have h1 : wr.cell? ⟨n, 1, none⟩ = some (.int .u32 (nn s.b)) := (blk_cell C0 1).trans (by rw [HH.out]; rfl)
              have h2 : wr.cell? ⟨n, 2, none⟩ = some (.int .u32 (nn s.c)) := (blk_cell C0 2).trans (by rw [HH.out]; rfl)
              have h3 : wr.cell? ⟨n, 3, none⟩ = some (.int .u32 (nn s.d)) := (blk_cell C0 3).trans (by rw [HH.out]; rfl)
              have h4 : wr.cell? ⟨n, 4, none⟩ = some (.int .u32 (nn s.e)) := (blk_cell C0 4).trans (by rw [HH.out]; rfl)
              have h5 : wr.cell? ⟨n, 5, none⟩ = some (.int .u32 (nn s.f)) := (blk_cell C0 5).trans (by rw [HH.out]; rfl)
              have h6 : wr.cell? ⟨n, 6, none⟩ = some (.int .u32 (nn s.g)) := (blk_cell C0 6).trans (by rw [HH.out]; rfl)
              have h7 : wr.cell? ⟨n, 7, none⟩ = some (.int .u32 (nn s.h)) := (blk_cell C0 7).trans (by rw [HH.out]; rfl)
              have d0 : wr.cell? ⟨n + 1 + 1, 0, none⟩ = some (.int .u32 0) := (blk_cell C2 0).trans rfl
              have d1 : wr.cell? ⟨n + 1 + 1, 1, none⟩ = some (.int .u32 0) := (blk_cell C2 1).trans rfl
              have d2 : wr.cell? ⟨n + 1 + 1, 2, none⟩ = some (.int .u32 0) := (blk_cell C2 2).trans rfl
              have d3 : wr.cell? ⟨n + 1 + 1, 3, none⟩ = some (.int .u32 0) := (blk_cell C2 3).trans rfl
              have d4 : wr.cell? ⟨n + 1 + 1, 4, none⟩ = some (.int .u32 0) := (blk_cell C2 4).trans rfl
              have d5 : wr.cell? ⟨n + 1 + 1, 5, none⟩ = some (.int .u32 0) := (blk_cell C2 5).trans rfl
              have d6 : wr.cell? ⟨n + 1 + 1, 6, none⟩ = some (.int .u32 0) := (blk_cell C2 6).trans rfl
              have d7 : wr.cell? ⟨n + 1 + 1, 7, none⟩ = some (.int .u32 0) := (blk_cell C2 7).trans rfl
              have z0 := blk_frozen C2 0
              have z1 := blk_frozen C2 1
              have z2 := blk_frozen C2 2
              have z3 := blk_frozen C2 3
              have z4 := blk_frozen C2 4
              have z5 := blk_frozen C2 5
              have z6 := blk_frozen C2 6
              have z7 := blk_frozen C2 7
              go_wp2
              have ht : taken kf s b = s.add x := by unfold taken; rw [HX.out]
              have R := blk_set (blk_set (blk_set (blk_set (blk_set (blk_set (blk_set (blk_set C2 0 (.int .u32 (nn (s.a + x.a)))) 1 (.int .u32 (nn (s.b + x.b)))) 2 (.int .u32 (nn (s.c + x.c)))) 3 (.int .u32 (nn (s.d + x.d)))) 4 (.int .u32 (nn (s.e + x.e)))) 5 (.int .u32 (nn (s.f + x.f)))) 6 (.int .u32 (nn (s.g + x.g)))) 7 (.int .u32 (nn (s.h + x.h)))
              have q : Below n w wr := BB.trans (HB.mono (by omega))
              refine bodyPost_ret (v := .agg (stCells (taken kf s b))) (results_cell_row Tryd.results54 _ _ (n + 1 + 1) 93 (stCells (taken kf s b)) (0, 0) _ rfl (by rw [ht]; exact R) Tryd.underlying93 rfl (by kernel_rfl)) rfl ⟨rfl, ?_⟩
              rw [hn]
              exact (((((((q.setCell (p := ⟨n + 1 + 1, 0, none⟩) (by show n ≤ n + 1 + 1; omega) _).setCell (p := ⟨n + 1 + 1, 1, none⟩) (by show n ≤ n + 1 + 1; omega) _).setCell (p := ⟨n + 1 + 1, 2, none⟩) (by show n ≤ n + 1 + 1; omega) _).setCell (p := ⟨n + 1 + 1, 3, none⟩) (by show n ≤ n + 1 + 1; omega) _).setCell (p := ⟨n + 1 + 1, 4, none⟩) (by show n ≤ n + 1 + 1; omega) _).setCell (p := ⟨n + 1 + 1, 5, none⟩) (by show n ≤ n + 1 + 1; omega) _).setCell (p := ⟨n + 1 + 1, 6, none⟩) (by show n ≤ n + 1 + 1; omega) _).setCell (p := ⟨n + 1 + 1, 7, none⟩) (by show n ≤ n + 1 + 1; omega) _
end Go.Proofs.YtglcapkmeecknaaDoor.t32
