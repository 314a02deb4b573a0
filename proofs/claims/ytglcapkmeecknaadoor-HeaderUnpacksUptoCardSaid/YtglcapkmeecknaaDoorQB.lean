/- digest.narrow: a state's words behind all blocks of 64 bytes. (Written by gen78.py.) The walks of what reads bytes: numbers, zeros, texts; both sides. Cuts of a row that is read; the reference's texts; what lies in bytes behind their end. (Merged by merge.py.) -/
import Derived.Test.YtglcapkmeecknaaDoorQA
import Derived.IntWalk
import Derived.StillTailTactics
import Derived.Deep.QuietTactic
import Derived.BigQuiet
import Derived.BigRegion
/-! ## N78 -/
namespace Go.Proofs.YtglcapkmeecknaaDoor.n78
open Go Go.RowKit Go.Proofs.YtglcapkmeecknaaDoor.sha Go.Proofs.YtglcapkmeecknaaDoor.mem Go.Proofs.YtglcapkmeecknaaDoorW.PrintWords Go.Proofs.YtglcapkmeecknaaDoorW.PrintLast Go.Proofs.YtglcapkmeecknaaDoorW.PrintMore
set_option linter.unusedVariables false
set_option linter.unusedSimpArgs false
attribute [local go_sem] nn_xor nn_and nn_or nn_not nn_not' nn_mod nn_wrap nn_wrap64 nn_mod64 nn_add nn_add' nn_shl24 nn_shlw24 nn_shl16 nn_shlw16 nn_shl8 nn_shlw8 nn_shr3 nn_shr10
def sliceLen : Value → Nat
  | .slice _ n _ => n
  | _ => 0
theorem info5 : (Tryd.prog.info? 5).map (fun i => (i.zero, i.size, i.bytes)) = some (some (.int .u8 0), 1, 1) := by kernel_rfl
theorem info90 : (Tryd.prog.info? 90).map (fun i => i.size) = some 1 := by kernel_rfl
theorem index93 (xs : Array Value) (k : Nat) (x : BitVec 32) (hk : k < 8) (hv : xs[k]? = some (.int .u32 (nn x))) : ∀ W : World, (Instr.index 93 (.agg xs) (.int .i64 (k : Int))).run Tryd.prog W = .ok (.int .u32 (nn x)) W := by
  intro W
  obtain ⟨i, hi, hs⟩ : ∃ i, Tryd.prog.info? 90 = some i ∧ i.size = 1 := by
    have h := info90
    cases e : Tryd.prog.info? 90 with
    | none => rw [e] at h; cases h
    | some i => rw [e] at h; exact ⟨i, rfl, Option.some.inj h⟩
  have h1 : (0 : Int) ≤ (k : Int) := by omega
  simp [Instr.index, run_underlying Tryd.underlying93, asIntOf, h1, sizeOf, typeInfo, hi, hs, go_sem, hv, part]
  intro h
  omega
theorem dig_a (k w : BitVec 32) (s : St) : Value.int .u32 (nn (s.h + (rot s.e 6 ^^^ rot s.e 11 ^^^ rot s.e 25) + (s.e &&& s.f ^^^ ~~~s.e &&& s.g) + k + w + ((rot s.a 2 ^^^ rot s.a 13 ^^^ rot s.a 22) + (s.a &&& s.b ^^^ s.a &&& s.c ^^^ s.b &&& s.c)))) = .int .u32 (nn (sha.step k w s).a) := rfl
theorem dig_e (k w : BitVec 32) (s : St) : Value.int .u32 (nn (s.d + (s.h + (rot s.e 6 ^^^ rot s.e 11 ^^^ rot s.e 25) + (s.e &&& s.f ^^^ ~~~s.e &&& s.g) + k + w))) = .int .u32 (nn (sha.step k w s).e) := rfl
set_option maxHeartbeats 3000000 in
set_option maxRecDepth 100000 in
theorem narrow_call (kf : Nat → BitVec 32) (cub : Nat → Int) (hcub : ∀ t, t < 64 → 0 ≤ cub t ∧ cub t < 18446744073709551616 ∧ cub t / 4294967296 = nn (kf t)) (s : St) (g : Nat) (cs0 : Array Value) (ty : TypeId) (h14 : 14 ≤ cs0.size) (hs0 : Wds cs0 8 s cs0)
    (A : Option Addr) (c : Nat) (p : List Int) (m : Nat) (hp : p.length = 64 * m) (hm : m < 1099511627776) (w : World) (hsrc : Src g w A c p) (hg5 : 5 < g) (hgc : w.heap[g]? = some (.cells cs0 ty (0, 0))) (htab : ∀ t, t < 64 → w.cell? ⟨5, t, none⟩ = some (.int .u64 (cub t))) :
    Calls Tryd.prog 78 #[.pointer (some ⟨g, 6, none⟩), .slice A p.length c] w fun e w' => (∃ v, e = .returned v) ∧ Turn g w w' ∧ ∃ cs, w'.heap[g]? = some (.cells cs ty (0, 0)) ∧ Wds cs0 8 (upto kf s p m) cs := by
  have hgw : g < w.heap.size := blk_lt hgc
  have HP := Aside0.mk hp
  go_enter Tryd.func78, Tryd.ntmps78
  clear hp
  go_wp2
  have B1 : (w.alloc (.cells (Array.replicate 64 (.int .u32 0)) 91)).heap[w.heap.size]? = some (.cells (Array.replicate 64 (.int .u32 0)) 91 (0, 0)) := blk_new w _
  have BG : (w.alloc (.cells (Array.replicate 64 (.int .u32 0)) 91)).heap[g]? = some (.cells cs0 ty (0, 0)) := blk_alloc hgc _
  have TG : Turn g w (w.alloc (.cells (Array.replicate 64 (.int .u32 0)) 91)) := (Turn.refl g w).alloc _
  have SZ : w.heap.size < (w.alloc (.cells (Array.replicate 64 (.int .u32 0)) 91)).heap.size := by simp
  have E64 : Array.replicate 64 (Value.int .u32 0) = #[.int .u32 0, .int .u32 0, .int .u32 0, .int .u32 0, .int .u32 0, .int .u32 0, .int .u32 0, .int .u32 0, .int .u32 0, .int .u32 0, .int .u32 0, .int .u32 0, .int .u32 0, .int .u32 0, .int .u32 0, .int .u32 0, .int .u32 0, .int .u32 0, .int .u32 0, .int .u32 0, .int .u32 0, .int .u32 0, .int .u32 0, .int .u32 0, .int .u32 0, .int .u32 0, .int .u32 0, .int .u32 0, .int .u32 0, .int .u32 0, .int .u32 0, .int .u32 0, .int .u32 0, .int .u32 0, .int .u32 0, .int .u32 0, .int .u32 0, .int .u32 0, .int .u32 0, .int .u32 0, .int .u32 0, .int .u32 0, .int .u32 0, .int .u32 0, .int .u32 0, .int .u32 0, .int .u32 0, .int .u32 0, .int .u32 0, .int .u32 0, .int .u32 0, .int .u32 0, .int .u32 0, .int .u32 0, .int .u32 0, .int .u32 0, .int .u32 0, .int .u32 0, .int .u32 0, .int .u32 0, .int .u32 0, .int .u32 0, .int .u32 0, .int .u32 0] := rfl
  rw [E64] at B1 BG TG SZ
  generalize hWa : w.alloc (.cells #[.int .u32 0, .int .u32 0, .int .u32 0, .int .u32 0, .int .u32 0, .int .u32 0, .int .u32 0, .int .u32 0, .int .u32 0, .int .u32 0, .int .u32 0, .int .u32 0, .int .u32 0, .int .u32 0, .int .u32 0, .int .u32 0, .int .u32 0, .int .u32 0, .int .u32 0, .int .u32 0, .int .u32 0, .int .u32 0, .int .u32 0, .int .u32 0, .int .u32 0, .int .u32 0, .int .u32 0, .int .u32 0, .int .u32 0, .int .u32 0, .int .u32 0, .int .u32 0, .int .u32 0, .int .u32 0, .int .u32 0, .int .u32 0, .int .u32 0, .int .u32 0, .int .u32 0, .int .u32 0, .int .u32 0, .int .u32 0, .int .u32 0, .int .u32 0, .int .u32 0, .int .u32 0, .int .u32 0, .int .u32 0, .int .u32 0, .int .u32 0, .int .u32 0, .int .u32 0, .int .u32 0, .int .u32 0, .int .u32 0, .int .u32 0, .int .u32 0, .int .u32 0, .int .u32 0, .int .u32 0, .int .u32 0, .int .u32 0, .int .u32 0, .int .u32 0] 91) = Wa at *
  clear hWa
  rw [← E64] at B1
  clear E64
  generalize hn : w.heap.size = n at *
  go_loopw [1] (fun v1 wr => ∃ (j : Nat) (A' : Option Addr) (c' : Nat) (L cs : Array Value), j ≤ m ∧ v1 = .slice A' (p.drop (64 * j)).length c' ∧ Src g w A' c' (p.drop (64 * j)) ∧ L.size = 64 ∧ wr.heap[n]? = some (.cells L 91 (0, 0)) ∧ wr.heap[g]? = some (.cells cs ty (0, 0)) ∧ Wds cs0 8 (upto kf s p j) cs ∧ Turn g w wr ∧ n < wr.heap.size) (fun v1 _ => sliceLen v1)
  case atStart => exact ⟨0, A, c, _, _, by omega, rfl, hsrc, by simp, B1, BG, hs0, TG, SZ⟩
  case round =>
    clear hsrc B1 BG TG SZ hs0
    obtain ⟨j, A', c', L, cs, hj, rfl, hsrc, hL, BL, BG, hW, hT, SZ⟩ := hrel
    rcases Nat.lt_or_ge j m with hjl | hjl
    · have hrl : (p.drop (64 * j)).length = 64 * (m - j) := by rw [List.length_drop, HP.out]; omega
      have hbl : Aside0 ((p.drop (64 * j)).take 64 = (p.take (64 * j + 64)).drop (64 * j)) := ⟨by rw [List.drop_take]; congr 1; omega⟩
      have hnx : Aside0 (p.drop (64 * (j + 1)) = (p.drop (64 * j)).drop 64) := ⟨by rw [List.drop_drop]; congr 1⟩
      have hup : Aside0 (upto kf s p (j + 1) = taken kf (upto kf s p j) ((p.take (64 * j + 64)).drop (64 * j))) := ⟨rfl⟩
      rw [← hbl.out] at hup
      generalize hr : p.drop (64 * j) = r at *
      generalize hy : upto kf s p j = y at *
      generalize hx : upto kf s p (j + 1) = x at *
      have HY := Aside0.mk hy
      have HX := Aside0.mk hx
      have HR := Aside0.mk hrl
      clear hr hy hx hbl
      have hr64 : 64 ≤ r.length := by omega
      have hge : decide ((r.length : Int) ≥ 64) = true := by simp; omega
      have hge' : decide ((64 : Int) ≤ (r.length : Int)) = true := by simp; omega
      have hL' : ∃ L', Aside0 (L = L') := ⟨L, ⟨rfl⟩⟩
      clear hrl
      go_wp2
      obtain ⟨W1, hW1⟩ : ∃ W1 : World, W1 = wr := ⟨_, rfl⟩
      rw [← hW1] at BL BG hT SZ ⊢
      clear hW1
      go_loopw [31] (fun v31 wr => ∃ (k : Nat) (L : Array Value), k ≤ 16 ∧ v31 = .int .i64 k ∧ L.size = 64 ∧ wr.heap[n]? = some (.cells L 91 (0, 0)) ∧ isWord L k (sched (r.take 64)) ∧ Turn n W1 wr) (fun v31 _ => 16 - (intOf v31).toNat)
      case atStart => exact ⟨0, L, by omega, rfl, hL, BL, fun t ht => absurd ht (by omega), Turn.refl _ _⟩
      case round =>
        clear hL BL hge hge'
        obtain ⟨k, L, hk, rfl, hL, BL, hw, hK⟩ := hrel
        rcases Nat.lt_or_ge k 16 with hkl | hkl
        · have hlt : decide ((k : Int) < 16) = true := by simp; omega
          have k0 : (0 : Int) ≤ (k : Int) := by omega
          have k64 : (k : Int) < 64 := by omega
          have p0 : (0 : Int) ≤ 4 * (k : Int) := by omega
          have p1 : 4 * (k : Int) ≤ 4 * (k : Int) + 4 := by omega
          have p2 : 4 * (k : Int) + 4 ≤ (r.length : Int) := by omega
          have n0 : (4 * (k : Int)).toNat = 4 * k := by omega
          have n1 : (4 * (k : Int) + 4).toNat = 4 * k + 4 := by omega
          have hrc := hsrc.le
          obtain ⟨i5, hi5, hz5, hs5, hb5⟩ := info_parts info5
          have hcut : ∀ W : World, _ := cut_mid (P := Tryd.prog) 25 5 .i64 .i64 Tryd.underlying25 hi5 1 hs5 A' r.length c' (4 * (k : Int)) (4 * (k : Int) + 4) p0 p1 p2 hrc
          have hmid := hsrc.mid (lo := 4 * k) (hi := 4 * k + 4) (by omega) (by omega)
          have hml : ((r.take (4 * k + 4)).drop (4 * k)).length = 4 := by rw [List.length_drop, List.length_take]; omega
          have q0 := byteAt_mid r k 0 hkl (by omega)
          have q1 := byteAt_mid r k 1 hkl (by omega)
          have q2 := byteAt_mid r k 2 hkl (by omega)
          have q3 := byteAt_mid r k 3 hkl (by omega)
          rw [n0, n1] at hcut
          rw [show 4 * k + 4 - 4 * k = 4 by omega] at hcut
          generalize (if c' = 4 * k then A' else Option.map (fun x => x.add (4 * k * 1)) A') = A9 at *
          generalize c' - 4 * k = c9 at *
          generalize hq : (r.take (4 * k + 4)).drop (4 * k) = q at *
          clear hq
          obtain ⟨ad, eA, a0, b0, d0⟩ := hmid.cell (i := 0) (by omega)
          obtain ⟨ad1, eA1, a1, b1, d1⟩ := hmid.cell (i := 1) (by omega)
          obtain ⟨ad2, eA2, a2, b2, d2⟩ := hmid.cell (i := 2) (by omega)
          obtain ⟨ad3, eA3, a3, b3, d3⟩ := hmid.cell (i := 3) (by omega)
          cases eA
          cases eA1
          cases eA2
          cases eA3
          have c0 := (hK.cell (Nat.lt_of_lt_of_le a0 (by rw [hn]; omega)) (by omega)).trans ((hT.cell a0 b0).trans d0)
          have c1 := (hK.cell (Nat.lt_of_lt_of_le a1 (by rw [hn]; omega)) (by omega)).trans ((hT.cell a1 b1).trans d1)
          have c2 := (hK.cell (Nat.lt_of_lt_of_le a2 (by rw [hn]; omega)) (by omega)).trans ((hT.cell a2 b2).trans d2)
          have c3 := (hK.cell (Nat.lt_of_lt_of_le a3 (by rw [hn]; omega)) (by omega)).trans ((hT.cell a3 b3).trans d3)
          rw [add_some ad 1 (by omega)] at c1
          rw [add_some ad 2 (by omega)] at c2
          rw [add_some ad 3 (by omega)] at c3
          rw [q0] at c0
          rw [q1] at c1
          rw [q2] at c2
          rw [q3] at c3
          rw [Addr.add, if_pos rfl] at c0
          clear a0 a1 a2 a3 b0 b1 b2 b3 d0 d1 d2 d3 q0 q1 q2 q3 hml
          generalize r.take 64 = bl at *
          have w3 : wr.cell? ⟨n, k, none⟩ = L[k]? := blk_cell BL k
          have w4 : L[k]? = some L[k] := by simp
          rw [w4] at w3
          go_wp2
          go_still_tail 24, (by kernel_rfl)
          have f3' : wr.drew.frozen? ⟨n, k, none⟩ = false := blk_frozen BL k
          have w3' : wr.drew.cell? ⟨n, k, none⟩ = some L[k] := w3
          rw [show ({ heap := wr.heap, tape := wr.tape, drawn := wr.drawn + 1, os := wr.os, output := wr.output } : World) = wr.drew from rfl]
          go_wp2
          refine ⟨⟨k + 1, _, by omega, by go_num, by simp [hL], blk_drew (blk_set BL k _), isWord_set hw (by omega) ?_, (hK.setCell _ _).drew⟩, by simp [intOf]; omega⟩
          rw [sched_small bl hkl]
          rfl
        · obtain rfl : k = 16 := by omega
          rw [show ((16 : Nat) : Int) = (16 : Int) from rfl]
          have hlt : decide ((16 : Int) < 16) = false := by simp
          have hT2 := hT.and_new hK (by omega)
          have BG2 := hK.blk BG (by omega)
          have SZ2 : n < wr.heap.size := by have := hK.size; omega
          clear hT hK BG SZ
          go_wp2
          obtain ⟨W2, hW2⟩ : ∃ W2 : World, W2 = wr := ⟨_, rfl⟩
          rw [← hW2] at BL BG2 hT2 SZ2 ⊢
          clear hW2
          generalize hblx : r.take 64 = bl at *
          have HB := Aside0.mk hblx
          clear hblx
          go_loopw [7] (fun v7 wr => ∃ (k : Nat) (L : Array Value), 16 ≤ k ∧ k ≤ 64 ∧ v7 = .int .i64 k ∧ L.size = 64 ∧ wr.heap[n]? = some (.cells L 91 (0, 0)) ∧ isWord L k (sched bl) ∧ Turn n W2 wr) (fun v7 _ => 64 - (intOf v7).toNat)
          case atStart => exact ⟨16, _, by omega, by omega, rfl, hL, BL, hw, Turn.refl _ _⟩
          case round =>
            clear BL hw hL hlt
            obtain ⟨k, L, hk16, hk, rfl, hL, BL, hw, hK⟩ := hrel
            rcases Nat.lt_or_ge k 64 with hkl | hkl
            · have hlt : decide ((k : Int) < 64) = true := by simp; omega
              have r7 : wr.cell? ⟨n, k - 7, none⟩ = some (.int .u32 (nn (sched bl (k - 7)))) := (blk_cell BL (k - 7)).trans (hw (k - 7) (by omega))
              have r16 : wr.cell? ⟨n, k - 16, none⟩ = some (.int .u32 (nn (sched bl (k - 16)))) := (blk_cell BL (k - 16)).trans (hw (k - 16) (by omega))
              have r15 : wr.cell? ⟨n, k - 15, none⟩ = some (.int .u32 (nn (sched bl (k - 15)))) := (blk_cell BL (k - 15)).trans (hw (k - 15) (by omega))
              have r2 : wr.cell? ⟨n, k - 2, none⟩ = some (.int .u32 (nn (sched bl (k - 2)))) := (blk_cell BL (k - 2)).trans (hw (k - 2) (by omega))
              have w3 : wr.cell? ⟨n, k, none⟩ = L[k]? := blk_cell BL k
              obtain ⟨z, w4⟩ : ∃ z, L[k]? = some z := ⟨L[k], by simp⟩
              rw [w4] at w3
              obtain ⟨j2, rfl⟩ : ∃ j, k = j + 16 := ⟨k - 16, by omega⟩
              rw [show j2 + 16 - 7 = j2 + 9 by omega] at r7
              rw [show j2 + 16 - 16 = j2 by omega] at r16
              rw [show j2 + 16 - 15 = j2 + 1 by omega] at r15
              rw [show j2 + 16 - 2 = j2 + 14 by omega] at r2
              have p9 : (0 : Int) ≤ (j2 : Int) + 9 := by omega
              have p0 : (0 : Int) ≤ (j2 : Int) := by omega
              have p1 : (0 : Int) ≤ (j2 : Int) + 1 := by omega
              have p14 : (0 : Int) ≤ (j2 : Int) + 14 := by omega
              have p16 : (0 : Int) ≤ (j2 : Int) + 16 := by omega
              have l9 : (j2 : Int) + 9 < 64 := by omega
              have l0 : (j2 : Int) < 64 := by omega
              have l1 : (j2 : Int) + 1 < 64 := by omega
              have l14 : (j2 : Int) + 14 < 64 := by omega
              have l16 : (j2 : Int) + 16 < 64 := by omega
              have n9 : ((j2 : Int) + 9).toNat = j2 + 9 := by omega
              have n1 : ((j2 : Int) + 1).toNat = j2 + 1 := by omega
              have n14 : ((j2 : Int) + 14).toNat = j2 + 14 := by omega
              have n16 : ((j2 : Int) + 16).toNat = j2 + 16 := by omega
              have e15 : IntKind.i64.wrap ((j2 : Int) + 16 - 15) = (j2 : Int) + 1 := by rw [IntWalk.i64_in _ (by omega)]; omega
              have e2 : IntKind.i64.wrap ((j2 : Int) + 16 - 2) = (j2 : Int) + 14 := by rw [IntWalk.i64_in _ (by omega)]; omega
              have e7 : IntKind.i64.wrap ((j2 : Int) + 16 - 7) = (j2 : Int) + 9 := by rw [IntWalk.i64_in _ (by omega)]; omega
              have e16 : IntKind.i64.wrap ((j2 : Int) + 16 - 16) = (j2 : Int) := by rw [IntWalk.i64_in _ (by omega)]; omega
              have e0 : IntKind.i64.wrap (j2 : Int) = (j2 : Int) := IntWalk.i64_in _ (by omega)
              generalize hq0 : sched bl j2 = s0 at *
              generalize hq9 : sched bl (j2 + 9) = s9 at *
              generalize hq1 : sched bl (j2 + 1) = s1 at *
              generalize hq14 : sched bl (j2 + 14) = s14 at *
              have hn0 := Aside0.mk (show sched bl (j2 + 16) = s0 + s9 + sg0 s1 + sg1 s14 by rw [sched_at, hq0, hq9, hq1, hq14])
              clear hq0 hq9 hq1 hq14
              go_wp2_with fail
              go_quiet (fail)
              go_wp2_with fail
              have r16' : (wr.drewN nq).cell? ⟨n, j2, none⟩ = some (.int .u32 (nn s0)) := r16
              have r7' : (wr.drewN nq).cell? ⟨n, j2 + 9, none⟩ = some (.int .u32 (nn s9)) := r7
              have w3' : (wr.drewN nq).cell? ⟨n, j2 + 16, none⟩ = some z := w3
              have BL' := blk_drewN BL nq
              have hK' := hK.drewN nq
              clear r16 r7 r15 r2 w3 BL hK
              generalize wr.drewN nq = wq at *
              refine wp_region_still_tail 29 (by kernel_rfl) (by kernel_rfl) ?_
              simp only [List.take_succ_cons, List.take_zero, List.drop_succ_cons, List.drop_zero]
              repeat still_step
              still_call ((rotl.call7 s1 _).mono fun _ _ h => ⟨h.1, h.2.symm⟩)
              repeat still_step
              still_call ((rotl.call18 s1 _).mono fun _ _ h => ⟨h.1, h.2.symm⟩)
              repeat still_step
              still_call ((rotl.call17 s14 _).mono fun _ _ h => ⟨h.1, h.2.symm⟩)
              repeat still_step
              still_call ((rotl.call19 s14 _).mono fun _ _ h => ⟨h.1, h.2.symm⟩)
              repeat still_step
              refine wpStill_nil ?_
              clear e15 e2 e7 e16 e0 r16' r7'
              have f3' : wq.drew.frozen? ⟨n, j2 + 16, none⟩ = false := blk_frozen BL' (j2 + 16)
              have w4' : wq.drew.cell? ⟨n, j2 + 16, none⟩ = some z := w3'
              rw [show ({ heap := wq.heap, tape := wq.tape, drawn := wq.drawn + 1, os := wq.os, output := wq.output } : World) = wq.drew from rfl]
              go_wp2
              go_roundw
              case rel => exact ⟨j2 + 16 + 1, _, by omega, by omega, by go_num, by simp [hL], blk_drew (blk_set BL' _ _), isWord_set hw (by omega) (by rw [hn0.out]; rfl), (hK'.setCell _ _).drew⟩
              case measure => simp [intOf]; omega
            · obtain rfl : k = 64 := by omega
              rw [show ((64 : Nat) : Int) = (64 : Int) from rfl]
              have hlt : decide ((64 : Int) < 64) = false := by simp
              have hT3 := hT2.and_new hK (by omega)
              have BG3 := hK.blk BG2 (by omega)
              have SZ3 : n < wr.heap.size := by have := hK.size; omega
              clear hT2 hK BG2 SZ2
              obtain ⟨W3, hW3⟩ : ∃ W3 : World, W3 = wr := ⟨_, rfl⟩
              rw [← hW3] at BL BG3 hT3 SZ3 ⊢
              clear hW3
              go_wp2
              have BV : (W3.alloc (.cells (Array.replicate 8 (.int .u32 0)) 93)).heap[W3.heap.size]? = some (.cells (Array.replicate 8 (.int .u32 0)) 93 (0, 0)) := blk_new W3 _
              have CL := blk_alloc BL (.cells (Array.replicate 8 (.int .u32 0)) 93)
              have CG := blk_alloc BG3 (.cells (Array.replicate 8 (.int .u32 0)) 93)
              have CT := hT3.alloc (.cells (Array.replicate 8 (.int .u32 0)) 93)
              have CZ : n < (W3.alloc (.cells (Array.replicate 8 (.int .u32 0)) 93)).heap.size := by rw [World.size_alloc]; omega
              have hV : n < W3.heap.size := SZ3
              clear BL BG3 hT3 SZ3 hlt
              generalize W3.heap.size = V at *
              rw [show Array.replicate 8 (Value.int .u32 0) = #[.int .u32 0, .int .u32 0, .int .u32 0, .int .u32 0, .int .u32 0, .int .u32 0, .int .u32 0, .int .u32 0] from rfl] at BV CL CG CT CZ
              generalize W3.alloc (.cells #[.int .u32 0, .int .u32 0, .int .u32 0, .int .u32 0, .int .u32 0, .int .u32 0, .int .u32 0, .int .u32 0] 93) = W4 at *
              rw [← show Array.replicate 8 (Value.int .u32 0) = #[.int .u32 0, .int .u32 0, .int .u32 0, .int .u32 0, .int .u32 0, .int .u32 0, .int .u32 0, .int .u32 0] from rfl] at BV
              go_loopw [107] (fun v107 wr => ∃ (k : Nat) (L8 : Array Value), k ≤ 8 ∧ v107 = .int .i64 k ∧ L8.size = 8 ∧ wr.heap[V]? = some (.cells L8 93 (0, 0)) ∧ isWord L8 k (stf y) ∧ Turn V W4 wr) (fun v107 _ => 8 - (intOf v107).toNat)
              case atStart => exact ⟨0, _, Nat.zero_le _, rfl, by simp, BV, fun t ht => absurd ht (by omega), Turn.refl _ _⟩
              case round =>
                clear BV
                obtain ⟨k, L8, hk, rfl, hL8, BV, hw8, hK⟩ := hrel
                rcases Nat.lt_or_ge k 8 with hkl | hkl
                · have hlt : decide ((k : Int) < 8) = true := by simp; omega
                  have tc : wr.cell? ⟨g, 6 + k, none⟩ = some (.int .u64 (nn (stf y k))) := (blk_cell (hK.blk CG (by omega)) (6 + k)).trans (hW.word k hkl)
                  have w3 : wr.cell? ⟨V, k, none⟩ = L8[k]? := blk_cell BV k
                  obtain ⟨z, w4⟩ : ∃ z, L8[k]? = some z := ⟨L8[k], by simp⟩
                  rw [w4] at w3
                  have f3 : wr.frozen? ⟨V, k, none⟩ = false := blk_frozen BV k
                  have hk0 : (0 : Int) ≤ (k : Int) := by omega
                  have hk8 : (k : Int) < 8 := by omega
                  go_wp2
                  exact ⟨⟨k + 1, _, by omega, by go_num, by simp [hL8], blk_set BV k _, isWord_set hw8 (by omega) rfl, hK.setCell _ _⟩, by simp [intOf]; omega⟩
                · obtain rfl : k = 8 := by omega
                  rw [show ((8 : Nat) : Int) = (8 : Int) from rfl]
                  have hlt : decide ((8 : Int) < 8) = false := by simp
                  have DL := hK.blk CL (by omega)
                  have DG := hK.blk CG (by omega)
                  have DT := CT.and_new hK (by omega)
                  have DZ : n < wr.heap.size := by have := hK.size; omega
                  rw [of_word hw8 hL8] at BV
                  clear hK CL CG CT CZ hw8 hL8
                  obtain ⟨W5, hW5⟩ : ∃ W5 : World, W5 = wr := ⟨_, rfl⟩
                  rw [← hW5] at BV DL DG DT DZ ⊢
                  clear hW5
                  unfold stCells at BV
                  have h0 : W5.cell? ⟨V, 0, none⟩ = some (.int .u32 (nn y.a)) := (blk_cell BV 0).trans rfl
                  have h1 : W5.cell? ⟨V, 1, none⟩ = some (.int .u32 (nn y.b)) := (blk_cell BV 1).trans rfl
                  have h2 : W5.cell? ⟨V, 2, none⟩ = some (.int .u32 (nn y.c)) := (blk_cell BV 2).trans rfl
                  have h3 : W5.cell? ⟨V, 3, none⟩ = some (.int .u32 (nn y.d)) := (blk_cell BV 3).trans rfl
                  have h4 : W5.cell? ⟨V, 4, none⟩ = some (.int .u32 (nn y.e)) := (blk_cell BV 4).trans rfl
                  have h5 : W5.cell? ⟨V, 5, none⟩ = some (.int .u32 (nn y.f)) := (blk_cell BV 5).trans rfl
                  have h6 : W5.cell? ⟨V, 6, none⟩ = some (.int .u32 (nn y.g)) := (blk_cell BV 6).trans rfl
                  have h7 : W5.cell? ⟨V, 7, none⟩ = some (.int .u32 (nn y.h)) := (blk_cell BV 7).trans rfl
                  go_wp2
                  go_quiet (fail)
                  go_wp2
                  clear h0 h1 h2 h3 h4 h5 h6 h7
                  go_loopw [135, 12, 13, 14, 15, 16, 17, 18, 19] (fun v135 v12 v13 v14 v15 v16 v17 v18 v19 wr => ∃ t : Nat, t ≤ 64 ∧ v135 = .int .i64 t ∧ v12 = .int .u32 (nn (steps kf (sched bl) t y).a) ∧ v13 = .int .u32 (nn (steps kf (sched bl) t y).b) ∧ v14 = .int .u32 (nn (steps kf (sched bl) t y).c) ∧ v15 = .int .u32 (nn (steps kf (sched bl) t y).d) ∧ v16 = .int .u32 (nn (steps kf (sched bl) t y).e) ∧ v17 = .int .u32 (nn (steps kf (sched bl) t y).f) ∧ v18 = .int .u32 (nn (steps kf (sched bl) t y).g) ∧ v19 = .int .u32 (nn (steps kf (sched bl) t y).h) ∧ Below W5.heap.size W5 wr) (fun v135 _ _ _ _ _ _ _ _ _ => 64 - (intOf v135).toNat)
                  case atStart => exact ⟨0, by omega, rfl, rfl, rfl, rfl, rfl, rfl, rfl, rfl, rfl, below_drewN_ (Below.refl _ W5) _⟩
                  case round =>
                    obtain ⟨t, ht, rfl, rfl, rfl, rfl, rfl, rfl, rfl, rfl, rfl, HW⟩ := hrel
                    have EL := blk_below DL HW
                    have EV := blk_below BV HW
                    have EG := blk_below DG HW
                    rcases Nat.lt_or_ge t 64 with htl | htl
                    · have hlt : decide ((t : Int) < 64) = true := by simp; omega
                      have tc : wr.cell? ⟨5, t, none⟩ = some (.int .u64 (cub t)) := (HW.cell (by show 5 < W5.heap.size; omega)).trans ((DT.cell (p := ⟨5, t, none⟩) (by show 5 < w.heap.size; omega) (by show 5 ≠ g; omega)).trans (htab t htl))
                      have wc : wr.cell? ⟨n, t, none⟩ = some (.int .u32 (nn (sched bl t))) := (blk_cell EL t).trans (hw t htl)
                      have hst := Aside0.mk (show steps kf (sched bl) (t + 1) y = sha.step (kf t) (sched bl t) (steps kf (sched bl) t y) from rfl)
                      obtain ⟨q0, q1, q2⟩ := hcub t htl
                      have ht0 : (0 : Int) ≤ (t : Int) := by omega
                      have ht64 : (t : Int) < 64 := by omega
                      have ht80 : (t : Int) < 80 := by omega
                      generalize steps kf (sched bl) t y = z at *
                      generalize kf t = kt at *
                      generalize cub t = cu at *
                      generalize sched bl t = wt at *
                      go_wp2
                      refine wp_region_quiet_lit (by kernel_rfl) (by kernel_rfl) ?_
                      repeat quiet_step (fail)
                      quiet_step (exact Calls.quiet_of_same ((rotl.call6 z.e _).mono fun _ _ h => ⟨h.1, h.2.symm⟩))
                      repeat quiet_step (fail)
                      quiet_step (exact Calls.quiet_of_same ((rotl.call11 z.e _).mono fun _ _ h => ⟨h.1, h.2.symm⟩))
                      repeat quiet_step (fail)
                      quiet_step (exact Calls.quiet_of_same ((rotl.call25 z.e _).mono fun _ _ h => ⟨h.1, h.2.symm⟩))
                      repeat quiet_step (fail)
                      refine wpQuiet_nil ?_
                      rintro _ ⟨nq2, rfl⟩
                      go_wp2_with fail
                      refine (rotl.call2 z.a _).mono ?_
                      rintro e wz ⟨rfl, rfl⟩
                      go_wp2_with fail
                      refine (rotl.call13 z.a _).mono ?_
                      rintro e wz ⟨rfl, rfl⟩
                      go_wp2_with fail
                      refine (rotl.call22 z.a _).mono ?_
                      rintro e wz ⟨rfl, rfl⟩
                      go_wp2_with fail
                      go_roundw
                      case rel => exact ⟨t + 1, by omega, by go_num, by rw [hst.out]; exact dig_a _ _ _, by rw [hst.out]; rfl, by rw [hst.out]; rfl, by rw [hst.out]; rfl, by rw [hst.out]; exact dig_e _ _ _, by rw [hst.out]; rfl, by rw [hst.out]; rfl, by rw [hst.out]; rfl, below_drewN_ HW _⟩
                      case measure => simp [intOf]; omega
                    · obtain rfl : t = 64 := by omega
                      rw [show ((64 : Nat) : Int) = (64 : Int) from rfl]
                      have hlt : decide ((64 : Int) < 64) = false := by simp
                      have ET := DT.of_below HW
                      have EZ : n < wr.heap.size := Nat.lt_of_lt_of_le DZ HW.size
                      have hxt : Aside0 (x = y.add (steps kf (sched bl) 64 y)) := ⟨by rw [hup.out]; rfl⟩
                      generalize steps kf (sched bl) 64 y = z at *
                      clear HW DL BV DG DT DZ
                      obtain ⟨W6, hW6⟩ : ∃ W6 : World, W6 = wr := ⟨_, rfl⟩
                      rw [← hW6] at EL EV EG ET EZ ⊢
                      clear hW6
                      go_wp2
                      have hxw := stCells_word z
                      have hxz : (stCells z).size = 8 := rfl
                      unfold stCells at hxw hxz
                      generalize (#[.int .u32 (nn z.a), .int .u32 (nn z.b), .int .u32 (nn z.c), .int .u32 (nn z.d), .int .u32 (nn z.e), .int .u32 (nn z.f), .int .u32 (nn z.g), .int .u32 (nn z.h)] : Array Value) = xs at *
                      go_loopw [210] (fun v210 wr => ∃ (k : Nat) (cs' : Array Value), k ≤ 8 ∧ v210 = .int .i64 k ∧ wr.heap[g]? = some (.cells cs' ty (0, 0)) ∧ Wds cs0 k x cs' ∧ (∀ i, k ≤ i → i < 14 → cs'[6 + i]? = cs[6 + i]?) ∧ Turn g W6 wr) (fun v210 _ => 8 - (intOf v210).toNat)
                      case atStart => exact ⟨0, cs, by omega, rfl, EG, hW.zero, fun i _ _ => rfl, Turn.refl _ _⟩
                      case round =>
                        clear EG
                        obtain ⟨k, cs', hk, rfl, EG, hW', hold, hK⟩ := hrel
                        rcases Nat.lt_or_ge k 8 with hkl | hkl
                        · have hlt : decide ((k : Int) < 8) = true := by simp; omega
                          have vc : wr.cell? ⟨V, k, none⟩ = some (.int .u32 (nn (stf y k))) := (blk_cell (hK.blk EV (by omega)) k).trans (stCells_word y k hkl)
                          have xc := hxw k hkl
                          have w3 : wr.cell? ⟨g, 6 + k, none⟩ = cs'[6 + k]? := blk_cell EG (6 + k)
                          obtain ⟨zz, w4⟩ : ∃ zz, cs'[6 + k]? = some zz := ⟨cs'[6 + k]'(by rw [hW'.size]; omega), by simp⟩
                          rw [w4] at w3
                          have f3 : wr.frozen? ⟨g, 6 + k, none⟩ = false := blk_frozen EG (6 + k)
                          have hk0 : (0 : Int) ≤ (k : Int) := by omega
                          have hk8 : (k : Int) < 8 := by omega
                          have hxk := Aside0.mk (show stf x k = stf y k + stf z k by rw [hxt.out, stf_add])
                          have hix := index93 xs k (stf z k) hkl xc
                          go_wp2
                          go_still_tail 10, (by kernel_rfl)
                          have f3' : wr.drew.frozen? ⟨g, 6 + k, none⟩ = false := f3
                          have w3' : wr.drew.cell? ⟨g, 6 + k, none⟩ = some zz := w3
                          rw [show ({ heap := wr.heap, tape := wr.tape, drawn := wr.drawn + 1, os := wr.os, output := wr.output } : World) = wr.drew from rfl]
                          go_wp2
                          refine ⟨⟨k + 1, _, by omega, by go_num, blk_drew (blk_set EG _ _), hW'.set hkl h14 (x := stf y k + stf z k) hxk.out.symm, fun i h1 h2 => by rw [Array.getElem?_setIfInBounds, if_neg (by omega)]; exact hold i (by omega) h2, (hK.setCell _ _).drew⟩, by simp [intOf]; omega⟩
                        · obtain rfl : k = 8 := by omega
                          rw [show ((8 : Nat) : Int) = (8 : Int) from rfl]
                          have hlt : decide ((8 : Int) < 8) = false := by simp
                          have FL := hK.blk EL (by omega)
                          have FT := ET.then_ hK
                          have FZ : n < wr.heap.size := by have := hK.size; omega
                          clear hK EL EV ET EZ hold
                          obtain ⟨i5, hi5, hz5, hs5, hb5⟩ := info_parts info5
                          have hcut : ∀ W : World, _ := cut_from (P := Tryd.prog) 25 5 .i64 Tryd.underlying25 hi5 1 hs5 A' r.length c' 64 (by omega) (by omega)
                          rw [show (64 : Int).toNat = 64 from rfl] at hcut
                          have hnxt := hsrc.drop hr64
                          generalize (if c' = 64 then A' else Option.map (fun x => x.add (64 * 1)) A') = A9 at *
                          generalize c' - 64 = c9 at *
                          have hl9 : r.length - 64 = (r.drop 64).length := by rw [List.length_drop]
                          rw [hl9] at hcut
                          clear hl9
                          go_wp2
                          refine ⟨⟨j + 1, A9, c9, _, _, by omega, by rw [hnx.out, List.length_drop], by rw [hnx.out]; exact hnxt, hL, FL, EG, by rw [HX.out]; exact hW', FT, FZ⟩, ?_⟩
                          simp only [sliceLen, List.length_drop]
                          omega
    · obtain rfl : j = m := by omega
      have hrl : (p.drop (64 * j)).length = 0 := by rw [List.length_drop, HP.out]; omega
      have hge : decide (((p.drop (64 * j)).length : Int) ≥ 64) = false := by rw [hrl]; simp
      go_wp2
      refine bodyPost_end (results_none rfl _ _ _) rfl ⟨⟨_, rfl⟩, hT, cs, BG, hW⟩
end Go.Proofs.YtglcapkmeecknaaDoor.n78
/-! ## G31 -/
namespace Go.Proofs.YtglcapkmeecknaaDoor.g31
open Go Go.RowKit Go.Proofs.YtglcapkmeecknaaDoor.tk Go.Proofs.YtglcapkmeecknaaDoor.PHeaderPacks Go.Proofs.YtglcapkmeecknaaDoorW.PrintWords Go.Proofs.YtglcapkmeecknaaDoorW.PrintLast Go.Proofs.YtglcapkmeecknaaDoorW.PrintMore
set_option linter.unusedVariables false
set_option linter.unusedSimpArgs false
set_option maxHeartbeats 1000000 in
set_option maxRecDepth 100000 in
theorem get_call (w : World) (ad : Addr) (c : Nat) (b : List Int) (hlc : b.length ≤ c) (hC : Kd.C (Kd.int .u8) w (some ad) b.length b) (hb : Byt b) (sz : Nat) (h8 : sz ≤ 8) (hs : sz ≤ b.length) :
    Calls Tryd.prog 31 #[.slice (some ad) b.length c, .int .i64 sz] w fun e w' => e = .returned (.int .u64 (num (b.take sz))) ∧ w' = w := by
  obtain ⟨i5, hi5, hz5, hs5, hb5⟩ := info_parts n78.info5
  have hcut1 : ∀ W : World, _ := cut_to (P := Tryd.prog) 25 5 .i64 Tryd.underlying25 hi5 (some ad) b.length c (sz : Int) (by omega) (by omega) hlc
  rw [Int.toNat_natCast] at hcut1
  go_enter Tryd.func31, Tryd.ntmps31
  go_wp2
  go_loopw [5, 12] (fun v5 v12 wr => ∃ i : Nat, i ≤ sz ∧ v12 = .int .i64 i ∧ v5 = .int .u64 (num (b.take i)) ∧ wr = w) (fun _ v12 _ => sz - (intOf v12).toNat)
  case atStart => exact ⟨0, by omega, rfl, rfl, rfl⟩
  case round =>
    obtain ⟨i, hi, rfl, rfl, rfl⟩ := hrel
    rcases Nat.lt_or_ge i sz with hil | hil
    · have hlt : decide ((i : Int) < (sz : Int)) = true := by simp; omega
      have i0 : (0 : Int) ≤ (i : Int) := by omega
      have i1 : (i : Int) < (sz : Int) := by omega
      obtain ⟨ad', ea, hc⟩ := Kd.at_int hC (i : Int) i0 (by omega)
      cases ea
      rw [Int.toNat_natCast] at hc
      obtain ⟨n0, n1⟩ := num_lt56 b hb i (by omega) (by omega)
      obtain ⟨r0, r1⟩ := hb _ (rd_mem b i (by omega))
      have hnx := Aside0.mk (num_take b i (by omega))
      generalize num (b.take i) = n at *
      generalize rd b (i : Int) = x at *
      have e1 : IntKind.u64.wrap (n * 256) = n * 256 := by rw [IntKind.wrap_u64]; omega
      have e2 : IntKind.u64.wrap x = x := by rw [IntKind.wrap_u64]; omega
      have e3 := or_byte n x n0 n1 r0 r1
      go_wp2
      refine ⟨⟨i + 1, by omega, by go_num, ?_, trivial⟩, by simp [intOf]; omega⟩
      rw [hnx.out]
    · obtain rfl : i = sz := by omega
      have hlt : decide ((i : Int) < (i : Int)) = false := by simp
      go_wp2
      go_ret
      first | exact ⟨rfl, rfl⟩ | exact ⟨rfl, trivial⟩
set_option maxHeartbeats 1000000 in
set_option maxRecDepth 100000 in
theorem rget_call (w : World) (ad : Addr) (c : Nat) (b : List Int) (hlc : b.length ≤ c) (hC : Kd.C (Kd.int .u8) w (some ad) b.length b) (hb : Byt b) (at_ sz : Nat) (h8 : sz ≤ 8) (hs : at_ + sz ≤ b.length) (hl : b.length ≤ 140737488355328) :
    Calls Tryd.prog 35 #[.slice (some ad) b.length c, .int .i64 at_, .int .i64 sz] w fun e w' => e = .returned (.int .u64 (num ((b.drop at_).take sz))) ∧ w' = w := by
  have hbd : Byt (b.drop at_) := hb.drop at_
  have hld : (b.drop at_).length = b.length - at_ := List.length_drop
  go_enter Tryd.func35, Tryd.ntmps35
  go_wp2
  go_loopw [7, 8] (fun v7 v8 wr => ∃ i : Nat, i ≤ sz ∧ v8 = .int .i64 i ∧ v7 = .int .u64 (num ((b.drop at_).take i)) ∧ wr = w) (fun _ v8 _ => sz - (intOf v8).toNat)
  case atStart => exact ⟨0, by omega, rfl, rfl, rfl⟩
  case round =>
    obtain ⟨i, hi, rfl, rfl, rfl⟩ := hrel
    rcases Nat.lt_or_ge i sz with hil | hil
    · have hlt : decide ((i : Int) < (sz : Int)) = true := by simp; omega
      have hwa : wrap64 ((at_ : Int) + (i : Int)) = ((at_ + i : Nat) : Int) := by unfold wrap64; omega
      have i0 : (0 : Int) ≤ ((at_ + i : Nat) : Int) := by omega
      have i1 : ((at_ + i : Nat) : Int) < (b.length : Int) := by omega
      obtain ⟨ad', ea, hc⟩ := Kd.at_int hC ((at_ + i : Nat) : Int) i0 (by omega)
      cases ea
      rw [Int.toNat_natCast] at hc
      have hrd := (rd_drop b at_ i).symm
      rw [hrd] at hc
      obtain ⟨n0, n1⟩ := num_lt56 (b.drop at_) hbd i (by omega) (by omega)
      obtain ⟨r0, r1⟩ := hbd _ (rd_mem (b.drop at_) i (by omega))
      have hnx := Aside0.mk (num_take (b.drop at_) i (by omega))
      clear hrd hld
      generalize num ((b.drop at_).take i) = n at *
      generalize rd (b.drop at_) (i : Int) = x at *
      have e1 : IntKind.u64.wrap (n * 256) = n * 256 := by rw [IntKind.wrap_u64]; omega
      have e2 : IntKind.u64.wrap x = x := by rw [IntKind.wrap_u64]; omega
      have e3 : IntKind.u64.wrap (n * 256 + x) = n * 256 + x := by rw [IntKind.wrap_u64]; omega
      go_wp2
      refine ⟨⟨i + 1, by omega, by go_num, ?_, trivial⟩, by simp [intOf]; omega⟩
      rw [hnx.out]
    · obtain rfl : i = sz := by omega
      have hlt : decide ((i : Int) < (i : Int)) = false := by simp
      go_wp2
      go_ret
      first | exact ⟨rfl, rfl⟩ | exact ⟨rfl, trivial⟩
/-- No byte but zeros. -/
def zs (b : List Int) : Bool := b.all (· == 0)
theorem zs_false (b : List Int) (i : Nat) (h : i < b.length) (hn : rd b (i : Int) ≠ 0) : zs b = false := by
  unfold zs
  rw [List.all_eq_false]
  exact ⟨_, rd_mem b i h, by simpa using hn⟩
theorem zs_true (b : List Int) (h : ∀ i, i < b.length → rd b (i : Int) = 0) : zs b = true := by
  unfold zs
  rw [List.all_eq_true]
  intro x hx
  obtain ⟨i, hi, rfl⟩ := List.mem_iff_getElem.1 hx
  have := h i hi
  rw [rd_nat, List.getElem?_eq_getElem hi] at this
  simpa using this
set_option maxHeartbeats 1000000 in
set_option maxRecDepth 100000 in
theorem zeros_call (w : World) (ad : Addr) (c : Nat) (b : List Int) (hlc : b.length ≤ c) (hC : Kd.C (Kd.int .u8) w (some ad) b.length b) (hl : b.length ≤ 140737488355328) :
    Calls Tryd.prog 33 #[.slice (some ad) b.length c] w fun e w' => e = .returned (.bool (zs b)) ∧ w' = w := by
  obtain ⟨Z, hZ⟩ : ∃ Z, Aside0 (Z = zs b) := ⟨_, ⟨rfl⟩⟩
  rw [← hZ.out]
  go_enter Tryd.func33, Tryd.ntmps33
  go_wp2
  go_loopw [7] (fun v7 wr => ∃ i : Nat, i ≤ b.length ∧ v7 = .int .i64 i ∧ (∀ j, j < i → rd b (j : Int) = 0) ∧ wr = w) (fun v7 _ => b.length - (intOf v7).toNat)
  case atStart => exact ⟨0, by omega, rfl, fun j hj => absurd hj (Nat.not_lt_zero j), rfl⟩
  case round =>
    obtain ⟨i, hi, rfl, hz, rfl⟩ := hrel
    have hzA := Aside0.mk hz
    clear hz
    rcases Nat.lt_or_ge i b.length with hil | hil
    · have hlt : decide ((i : Int) < (b.length : Int)) = true := by simp; omega
      have i0 : (0 : Int) ≤ (i : Int) := by omega
      have i1 : (i : Int) < (b.length : Int) := by omega
      obtain ⟨ad', ea, hc⟩ := Kd.at_int hC (i : Int) i0 (by omega)
      cases ea
      rw [Int.toNat_natCast] at hc
      by_cases hx : rd b (i : Int) = 0
      · rw [hx] at hc
        have hxA := Aside0.mk hx
        clear hx
        go_wp2
        refine ⟨⟨i + 1, by omega, by go_num, fun j hj => ?_, trivial⟩, by simp [intOf]; omega⟩
        rcases Nat.lt_or_ge j i with hji | hji
        · exact hzA.out j hji
        · obtain rfl : j = i := by omega
          exact hxA.out
      · have hZf : Z = false := by rw [hZ.out]; exact zs_false b i hil hx
        have hxn : (rd b (i : Int) != 0) = true := bne_iff_ne.mpr hx
        clear hZ
        subst hZf
        clear hx
        generalize rd b (i : Int) = x at *
        go_wp2
        go_ret
        first | exact ⟨rfl, rfl⟩ | exact ⟨rfl, trivial⟩
    · obtain rfl : i = b.length := by omega
      have hlt : decide ((b.length : Int) < (b.length : Int)) = false := by simp
      have hZt : Z = true := by rw [hZ.out]; exact zs_true b hzA.out
      clear hZ
      subst hZt
      go_wp2
      go_ret
      first | exact ⟨rfl, rfl⟩ | exact ⟨rfl, trivial⟩
set_option maxHeartbeats 1000000 in
set_option maxRecDepth 100000 in
theorem rzeros_call (w : World) (ad : Addr) (c : Nat) (b : List Int) (hlc : b.length ≤ c) (hC : Kd.C (Kd.int .u8) w (some ad) b.length b) (lo hi_ : Nat) (h0 : lo ≤ hi_) (h1 : hi_ ≤ b.length) (hl : b.length ≤ 140737488355328) :
    Calls Tryd.prog 37 #[.slice (some ad) b.length c, .int .i64 lo, .int .i64 hi_] w fun e w' => e = .returned (.bool (zs ((b.take hi_).drop lo))) ∧ w' = w := by
  have hlen : ((b.take hi_).drop lo).length = hi_ - lo := by rw [List.length_drop, List.length_take]; omega
  have hrd : ∀ j : Nat, j < hi_ - lo → rd ((b.take hi_).drop lo) (j : Int) = rd b ((lo + j : Nat) : Int) := by
    intro j hj
    rw [rd_drop, rd_nat, rd_nat, List.getElem?_take, if_pos (by omega)]
  have hrdA := Aside0.mk hrd
  have hlenA := Aside0.mk hlen
  clear hrd hlen
  obtain ⟨s, hs⟩ : ∃ s, (b.take hi_).drop lo = s := ⟨_, rfl⟩
  rw [hs] at hrdA hlenA ⊢
  obtain ⟨Z, hZ⟩ : ∃ Z, Aside0 (Z = zs s) := ⟨_, ⟨rfl⟩⟩
  rw [← hZ.out]
  clear hs
  go_enter Tryd.func37, Tryd.ntmps37
  go_wp2
  go_loopw [7] (fun v7 wr => ∃ i : Nat, i ≤ hi_ - lo ∧ v7 = .int .i64 ((lo + i : Nat) : Int) ∧ (∀ j, j < i → rd s (j : Int) = 0) ∧ wr = w) (fun v7 _ => hi_ - (intOf v7).toNat)
  case atStart => exact ⟨0, by omega, rfl, fun j hj => absurd hj (Nat.not_lt_zero j), rfl⟩
  case round =>
    obtain ⟨i, hi, rfl, hz, rfl⟩ := hrel
    have hzA := Aside0.mk hz
    clear hz
    rcases Nat.lt_or_ge i (hi_ - lo) with hil | hil
    · have hlt : decide (((lo + i : Nat) : Int) < (hi_ : Int)) = true := by simp; omega
      have i0 : (0 : Int) ≤ ((lo + i : Nat) : Int) := by omega
      have i1 : ((lo + i : Nat) : Int) < (b.length : Int) := by omega
      obtain ⟨ad', ea, hc⟩ := Kd.at_int hC ((lo + i : Nat) : Int) i0 (by omega)
      cases ea
      rw [Int.toNat_natCast, ← hrdA.out i hil] at hc
      by_cases hx : rd s (i : Int) = 0
      · rw [hx] at hc
        have hxA := Aside0.mk hx
        clear hx
        go_wp2
        refine ⟨⟨i + 1, by omega, by go_num, fun j hj => ?_, trivial⟩, by simp [intOf]; omega⟩
        rcases Nat.lt_or_ge j i with hji | hji
        · exact hzA.out j hji
        · obtain rfl : j = i := by omega
          exact hxA.out
      · have hZf : Z = false := by rw [hZ.out]; exact zs_false s i (by rw [hlenA.out]; omega) hx
        have hxn : (rd s (i : Int) != 0) = true := bne_iff_ne.mpr hx
        clear hZ
        subst hZf
        clear hx
        generalize rd s (i : Int) = x at *
        go_wp2
        go_ret
        first | exact ⟨rfl, rfl⟩ | exact ⟨rfl, trivial⟩
    · obtain rfl : i = hi_ - lo := by omega
      have hlt : decide (((lo + (hi_ - lo) : Nat) : Int) < (hi_ : Int)) = false := by simp; omega
      have hZt : Z = true := by rw [hZ.out]; exact zs_true s (fun j hj => hzA.out j (by rw [hlenA.out] at hj; exact hj))
      clear hZ
      subst hZt
      go_wp2
      go_ret
      first | exact ⟨rfl, rfl⟩ | exact ⟨rfl, trivial⟩
end Go.Proofs.YtglcapkmeecknaaDoor.g31
/-! ## G36 -/
namespace Go.Proofs.YtglcapkmeecknaaDoor.g36
open Go Go.RowKit Go.Proofs.YtglcapkmeecknaaDoor.tk Go.Proofs.YtglcapkmeecknaaDoor.g31 Go.Proofs.YtglcapkmeecknaaDoor.PHeaderPacks Go.Proofs.YtglcapkmeecknaaDoorW.PrintWords Go.Proofs.YtglcapkmeecknaaDoorW.PrintLast Go.Proofs.YtglcapkmeecknaaDoorW.PrintMore
set_option linter.unusedVariables false
set_option linter.unusedSimpArgs false
theorem mid (ad : Addr) (b : List Int) (c : Nat) (hlc : b.length ≤ c) (lo hi : Int) (l h : Nat) (el : lo = l) (eh : hi = h) (hlh : l ≤ h) (hh : h ≤ b.length) :
    ∃ ad2, (l < c → ad2 = ad.add l) ∧ (∀ W : World, (Instr.slice 25 (.slice (some ad) b.length c) (some (.int .i64 lo)) (some (.int .i64 hi)) none).run Tryd.prog W = .ok (.slice (some ad2) (h - l) (c - l)) W) ∧
      ((b.take h).drop l).length = h - l ∧ ∀ W : World, Kd.C (Kd.int .u8) W (some ad) b.length b → Kd.C (Kd.int .u8) W (some ad2) (h - l) ((b.take h).drop l) := by
  obtain ⟨i5, hi5, hz5, hs5, hb5⟩ := info_parts n78.info5
  have hlen : ((b.take h).drop l).length = h - l := by rw [List.length_drop, List.length_take]; omega
  refine ⟨if c = l then ad else ad.add l, fun hc => by rw [if_neg (by omega)], fun W => ?_, hlen, fun W hC => ?_⟩
  · have hcut := cut_mid (P := Tryd.prog) 25 5 .i64 .i64 Tryd.underlying25 hi5 1 hs5 (some ad) b.length c lo hi (by omega) (by omega) (by omega) hlc W
    rw [hcut, el, eh, Int.toNat_natCast, Int.toNat_natCast]
    have e : (if c = l then some ad else Option.map (fun x => x.add (l * 1)) (some ad)) = some (if c = l then ad else ad.add l) := by split <;> simp
    rw [e]
  · have h1 := Kd.C_drop (k := Kd.int .u8) (Kd.C_take (k := Kd.int .u8) hC (m := h) hh) (m := l) (c := c) (by rw [List.length_take]; omega) (by rw [List.length_take]; omega)
    rw [hlen, show (Kd.int .u8).sz = 1 from rfl] at h1
    have e : (if c = l then some ad else Option.map (fun x => x.add (l * 1)) (some ad)) = some (if c = l then ad else ad.add l) := by split <;> simp
    rw [e] at h1
    exact h1
theorem from_ (ad : Addr) (b : List Int) (c : Nat) (hlc : b.length ≤ c) (lo : Int) (l : Nat) (el : lo = l) (hlh : l ≤ b.length) :
    ∃ ad2, (l < c → ad2 = ad.add l) ∧ (∀ W : World, (Instr.slice 25 (.slice (some ad) b.length c) (some (.int .i64 lo)) none none).run Tryd.prog W = .ok (.slice (some ad2) (b.length - l) (c - l)) W) ∧
      (b.drop l).length = b.length - l ∧ ∀ W : World, Kd.C (Kd.int .u8) W (some ad) b.length b → Kd.C (Kd.int .u8) W (some ad2) (b.length - l) (b.drop l) := by
  obtain ⟨i5, hi5, hz5, hs5, hb5⟩ := info_parts n78.info5
  refine ⟨if c = l then ad else ad.add l, fun hc => by rw [if_neg (by omega)], fun W => ?_, List.length_drop, fun W hC => ?_⟩
  · have hcut := cut_from (P := Tryd.prog) 25 5 .i64 Tryd.underlying25 hi5 1 hs5 (some ad) b.length c lo (by omega) (by omega) W
    rw [hcut, el, Int.toNat_natCast]
    have e : (if c = l then some ad else Option.map (fun x => x.add (l * 1)) (some ad)) = some (if c = l then ad else ad.add l) := by split <;> simp
    rw [e]
  · have h1 := Kd.C_drop (k := Kd.int .u8) hC (m := l) (c := c) hlh hlc
    rw [List.length_drop, show (Kd.int .u8).sz = 1 from rfl] at h1
    have e : (if c = l then some ad else Option.map (fun x => x.add (l * 1)) (some ad)) = some (if c = l then ad else ad.add l) := by split <;> simp
    rw [e] at h1
    exact h1
theorem upto_ (ad : Addr) (b : List Int) (c : Nat) (hlc : b.length ≤ c) (hi : Int) (h : Nat) (eh : hi = h) (hh : h ≤ b.length) :
    (∀ W : World, (Instr.slice 25 (.slice (some ad) b.length c) none (some (.int .i64 hi)) none).run Tryd.prog W = .ok (.slice (some ad) h c) W) ∧
      (b.take h).length = h ∧ ∀ W : World, Kd.C (Kd.int .u8) W (some ad) b.length b → Kd.C (Kd.int .u8) W (some ad) h (b.take h) := by
  obtain ⟨i5, hi5, hz5, hs5, hb5⟩ := info_parts n78.info5
  have hlen : (b.take h).length = h := by rw [List.length_take]; omega
  refine ⟨fun W => ?_, hlen, fun W hC => ?_⟩
  · have hcut := cut_to (P := Tryd.prog) 25 5 .i64 Tryd.underlying25 hi5 (some ad) b.length c hi (by omega) (by omega) hlc W
    rw [hcut, eh, Int.toNat_natCast]
  · have h1 := Kd.C_take (k := Kd.int .u8) hC (m := h) hh
    rw [hlen] at h1
    exact h1
theorem str_ {w : World} {A : Option Addr} {n c : Nat} {xs : List Int} (h : Kd.C (Kd.int .u8) w A n xs) : (convert 25 9 (.slice A n c)).run Tryd.prog w = .ok (.string (strOfNums xs)) w :=
  Kd.C_string Tryd.underlying25 Tryd.underlying5 Tryd.underlying9 h
theorem take_mid (b : List Int) (lo hi k : Nat) (h : lo + k ≤ hi) : (b.take (lo + k)).drop lo = ((b.take hi).drop lo).take k := by
  rw [List.drop_take, List.drop_take, List.take_take]
  congr 1
  omega
/-- What the reference's text answers. -/
def rtS (s : List Int) : ByteArray := if zs (s.drop (fz s)) = true then tkS s else ⟨#[]⟩
set_option maxHeartbeats 2000000 in
set_option maxRecDepth 100000 in
theorem text_call (w : World) (ad : Addr) (c : Nat) (b : List Int) (hlc : b.length ≤ c) (hC : Kd.C (Kd.int .u8) w (some ad) b.length b) (lo hi_ : Nat) (h0 : lo < hi_) (h1 : hi_ ≤ b.length) (hl : b.length ≤ 140737488355328) :
    Calls Tryd.prog 36 #[.slice (some ad) b.length c, .int .i64 lo, .int .i64 hi_] w fun e w' => e = .returned (.tuple #[.string (rtS ((b.take hi_).drop lo)), .bool (tkB ((b.take hi_).drop lo))]) ∧ w' = w := by
  have hlen : ((b.take hi_).drop lo).length = hi_ - lo := by rw [List.length_drop, List.length_take]; omega
  have hrd : ∀ j : Nat, j < hi_ - lo → rd ((b.take hi_).drop lo) (j : Int) = rd b ((lo + j : Nat) : Int) := by
    intro j hj
    rw [rd_drop, rd_nat, rd_nat, List.getElem?_take, if_pos (by omega)]
  have hcm := fun (k : Nat) (hk : lo + k ≤ hi_) => mid ad b c hlc (lo : Int) ((lo + k : Nat) : Int) lo (lo + k) rfl rfl (by omega) (by omega)
  have hrdA := Aside0.mk hrd
  have hlenA := Aside0.mk hlen
  have htm := Aside0.mk (fun (k : Nat) (hk : lo + k ≤ hi_) => take_mid b lo hi_ k hk)
  have hcmA := Aside0.mk hcm
  clear hrd hlen hcm
  obtain ⟨s, hs⟩ : ∃ s, (b.take hi_).drop lo = s := ⟨_, rfl⟩
  rw [hs] at hrdA hlenA htm ⊢
  obtain ⟨Z, hZ⟩ : ∃ Z, Aside0 (Z = tkB s) := ⟨_, ⟨rfl⟩⟩
  rw [← hZ.out]
  obtain ⟨T, hT⟩ : ∃ T, Aside0 (T = rtS s) := ⟨_, ⟨rfl⟩⟩
  rw [← hT.out]
  clear hs
  go_enter Tryd.func36, Tryd.ntmps36
  go_wp2
  go_loopw [8] (fun v8 wr => ∃ i : Nat, i ≤ hi_ - lo ∧ v8 = .int .i64 ((lo + i : Nat) : Int) ∧ (∀ j, j < i → rd s (j : Int) ≠ 0) ∧ wr = w) (fun v8 _ => hi_ - (intOf v8).toNat)
  case atStart => exact ⟨0, by omega, rfl, fun j hj => absurd hj (Nat.not_lt_zero j), rfl⟩
  case round =>
    obtain ⟨i, hi, rfl, hz, rfl⟩ := hrel
    have hzA := Aside0.mk hz
    clear hz
    by_cases hgo : i < hi_ - lo ∧ rd s (i : Int) ≠ 0
    · obtain ⟨hil, hx⟩ := hgo
      have hlt : decide (((lo + i : Nat) : Int) < (hi_ : Int)) = true := by simp; omega
      have i0 : (0 : Int) ≤ ((lo + i : Nat) : Int) := by omega
      have i1 : ((lo + i : Nat) : Int) < (b.length : Int) := by omega
      obtain ⟨ad', ea, hc⟩ := Kd.at_int hC ((lo + i : Nat) : Int) i0 (by omega)
      cases ea
      rw [Int.toNat_natCast, ← hrdA.out i hil] at hc
      have hxn : (rd s (i : Int) != 0) = true := bne_iff_ne.mpr hx
      have hxA := Aside0.mk hx
      clear hx
      generalize hgx : rd s (i : Int) = x at *
      have hgxA := Aside0.mk hgx
      clear hgx
      go_wp2
      refine ⟨⟨i + 1, by omega, by go_num, fun j hj => ?_, trivial⟩, by simp [intOf]; omega⟩
      rcases Nat.lt_or_ge j i with hji | hji
      · exact hzA.out j hji
      · obtain rfl : j = i := by omega
        rw [hgxA.out]
        exact hxA.out
    · have hfz : fz s = i := by
        refine fz_at s i (by rw [hlenA.out]; exact hi) hzA.out ?_
        rcases Nat.lt_or_ge i (hi_ - lo) with h | h
        · right
          by_cases hx : rd s (i : Int) = 0
          · exact hx
          · exact absurd ⟨h, hx⟩ hgo
        · left; rw [hlenA.out]; omega
      have hfzA := Aside0.mk hfz
      have hSA := Aside0.mk (show tkS s = strOfNums (s.take i) by unfold tkS; rw [hfz])
      have hBA := Aside0.mk (show tkB s = (decide (i < hi_ - lo) && zs (s.drop i)) by unfold tkB zs; rw [hfz, hlenA.out])
      have hRA := Aside0.mk (show rtS s = if zs (s.drop i) = true then strOfNums (s.take i) else ⟨#[]⟩ by unfold rtS; rw [hfz, hSA.out])
      clear hfz
      have key : ∀ (Q : Exit → Act → World → Prop) (a : Act), True := fun _ _ => trivial
      obtain ⟨ad2, hadd, hcut, hml, hmC⟩ := hcmA.out i (by omega)
      obtain rfl := hadd (by omega)
      have hstr := str_ (c := c - lo) (hmC wr hC)
      rw [htm.out i (by omega), show lo + i - lo = i by omega] at hstr
      clear hml hmC hadd hcut
      generalize hS : strOfNums (s.take i) = S at *
      clear hS
      have arm : ∀ {P : Prop}, P → P := fun h => h
      by_cases hil : i < hi_ - lo
      · have hlt : decide (((lo + i : Nat) : Int) < (hi_ : Int)) = true := by simp; omega
        have i0 : (0 : Int) ≤ ((lo + i : Nat) : Int) := by omega
        have i1 : ((lo + i : Nat) : Int) < (b.length : Int) := by omega
        obtain ⟨ad', ea, hc⟩ := Kd.at_int hC ((lo + i : Nat) : Int) i0 (by omega)
        cases ea
        have hx0 : rd s (i : Int) = 0 := by
          by_cases hx : rd s (i : Int) = 0
          · exact hx
          · exact absurd ⟨hil, hx⟩ hgo
        rw [Int.toNat_natCast, ← hrdA.out i hil, hx0] at hc
        clear hx0 hgo
        go_wp2
        go_loopw [9] (fun v9 wr2 => ∃ j : Nat, i ≤ j ∧ j ≤ hi_ - lo ∧ v9 = .int .i64 ((lo + j : Nat) : Int) ∧ (∀ q, i ≤ q → q < j → rd s (q : Int) = 0) ∧ wr2 = wr) (fun v9 _ => hi_ - (intOf v9).toNat)
        case atStart => exact ⟨i, by omega, by omega, rfl, fun q h h' => by omega, rfl⟩
        case round =>
          obtain ⟨j, hij, hj, rfl, hz2, rfl⟩ := hrel
          have hz2A := Aside0.mk hz2
          clear hz2 hlt i0 i1 hc
          rcases Nat.lt_or_ge j (hi_ - lo) with hjl | hjl
          · have hlt : decide (((lo + j : Nat) : Int) < (hi_ : Int)) = true := by simp; omega
            have i0 : (0 : Int) ≤ ((lo + j : Nat) : Int) := by omega
            have i1 : ((lo + j : Nat) : Int) < (b.length : Int) := by omega
            obtain ⟨ad', ea, hc⟩ := Kd.at_int hC ((lo + j : Nat) : Int) i0 (by omega)
            cases ea
            rw [Int.toNat_natCast, ← hrdA.out j hjl] at hc
            by_cases hx : rd s (j : Int) = 0
            · rw [hx] at hc
              have hxA := Aside0.mk hx
              clear hx
              go_wp2
              refine ⟨⟨j + 1, by omega, by omega, by go_num, fun q h1 h2 => ?_, trivial⟩, by simp [intOf]; omega⟩
              rcases Nat.lt_or_ge q j with h | h
              · exact hz2A.out q h1 h
              · obtain rfl : q = j := by omega
                exact hxA.out
            · have hzs : zs (s.drop i) = false := zs_false _ (j - i) (by rw [List.length_drop, hlenA.out]; omega) (by rw [rd_drop, show i + (j - i) = j by omega]; exact hx)
              have hZf : Z = false := by rw [hZ.out, hBA.out, hzs, Bool.and_false]
              have hTf : T = ⟨#[]⟩ := by rw [hT.out, hRA.out, hzs]; rfl
              have hxn : (rd s (j : Int) != 0) = true := bne_iff_ne.mpr hx
              clear hZ hT hBA hRA hzs hx
              subst hZf
              subst hTf
              generalize rd s (j : Int) = x at *
              go_wp2
              go_ret2
              first | exact ⟨rfl, rfl⟩ | exact ⟨rfl, trivial⟩
          · obtain rfl : j = hi_ - lo := by omega
            have hlt : decide (((lo + (hi_ - lo) : Nat) : Int) < (hi_ : Int)) = false := by simp; omega
            have hlt2 : decide (((lo + i : Nat) : Int) < (hi_ : Int)) = true := by simp; omega
            have hzs : zs (s.drop i) = true := zs_true _ (fun q hq => by rw [rd_drop]; exact hz2A.out _ (by omega) (by rw [List.length_drop, hlenA.out] at hq; omega))
            have hZf : Z = true := by rw [hZ.out, hBA.out, hzs, decide_eq_true hil]; rfl
            have hTf : T = S := by rw [hT.out, hRA.out, hzs]; rfl
            clear hZ hT hBA hRA hzs
            subst hZf
            subst hTf
            go_wp2
            go_ret2
            first | exact ⟨rfl, rfl⟩ | exact ⟨rfl, trivial⟩
      · obtain rfl : i = hi_ - lo := by omega
        have hlt : decide (((lo + (hi_ - lo) : Nat) : Int) < (hi_ : Int)) = false := by simp; omega
        have hzs : zs (s.drop (hi_ - lo)) = true := by rw [List.drop_eq_nil_of_le (by rw [hlenA.out]; exact Nat.le_refl _)]; rfl
        have hZf : Z = false := by rw [hZ.out, hBA.out, decide_eq_false hil]; rfl
        have hTf : T = S := by rw [hT.out, hRA.out, hzs]; rfl
        clear hZ hT hBA hRA hzs hgo
        subst hZf
        subst hTf
        go_wp2
        go_loopw [9] (fun v9 wr2 => v9 = .int .i64 ((lo + (hi_ - lo) : Nat) : Int) ∧ wr2 = wr) (fun v9 _ => hi_ - (intOf v9).toNat)
        case atStart => exact ⟨rfl, rfl⟩
        case round =>
          obtain ⟨rfl, rfl⟩ := hrel
          have hlt3 : decide ((lo : Int) + ((hi_ - lo : Nat) : Int) < (hi_ : Int)) = false := by simp; omega
          go_wp2
          go_ret2
          first | exact ⟨rfl, rfl⟩ | exact ⟨rfl, trivial⟩
end Go.Proofs.YtglcapkmeecknaaDoor.g36
