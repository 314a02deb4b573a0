/- cofferref01.narrow: the words behind all blocks of 64 bytes. (Written by gen44.py.) cofferref01.first at 256: the words that SHA-256 begins with. (Written by gen42.py.) cofferref01.Sum at 256. (Written by gen28.py.) (Merged by merge.py.) -/
import Derived.Test.YtglcapkmeecknaaDoorMT
import Derived.Test.YtglcapkmeecknaaDoorMB
import Derived.IntWalk
import Derived.Test.YtglcapkmeecknaaDoorPHeaderPacksx1
import Derived.Test.YtglcapkmeecknaaDoorMA
import Derived.LoopN
import Derived.Outline
/-! ## N44 -/
namespace Go.Proofs.YtglcapkmeecknaaDoor.n44
open Go Go.RowKit Go.Proofs.YtglcapkmeecknaaDoor.sha Go.Proofs.YtglcapkmeecknaaDoor.mem Go.Proofs.YtglcapkmeecknaaDoorW.PrintWords Go.Proofs.YtglcapkmeecknaaDoorW.PrintLast Go.Proofs.YtglcapkmeecknaaDoorW.PrintMore
set_option linter.unusedVariables false
set_option linter.unusedSimpArgs false
attribute [local go_sem] nn_mod nn_wrap nn_wrap64 nn_mod64
theorem info5 : (Tryd.prog.info? 5).map (fun i => (i.zero, i.size, i.bytes)) = some (some (.int .u8 0), 1, 1) := by kernel_rfl
set_option maxHeartbeats 8000000 in
set_option maxRecDepth 100000 in
theorem narrow_call (kf : Nat → BitVec 32) (cub : Nat → Int) (hcub : ∀ t, t < 64 → 0 ≤ cub t ∧ cub t < 18446744073709551616 ∧ cub t / 4294967296 = nn (kf t)) (s : St) (hs : Array Value) (hhs : hs = stCells64 s)
    (A : Option Addr) (c : Nat) (p : List Int) (hc : p.length ≤ c) (m : Nat) (hp : p.length = 64 * m) (hm : m < 1099511627776) (hrng : ∀ x ∈ p, 0 ≤ x ∧ x < 256) (w : World) (hr : Kd.C (Kd.int .u8) w A p.length p) (hg2 : 2 < w.heap.size) (htab : ∀ t, t < 64 → w.cell? ⟨2, t, none⟩ = some (.int .u64 (cub t))) :
    Calls Tryd.prog 44 #[.agg hs, .slice A p.length c] w fun e w' => e = .returned (.agg (stCells64 (upto kf s p m))) ∧ Below w.heap.size w w' := by
  have HH := Aside0.mk hhs
  clear hhs
  have HP := Aside0.mk hp
  go_enter Tryd.func44, Tryd.ntmps44
  clear hp
  go_wp2
  have B0 : (((w.alloc (.cells hs 73)).alloc (.cells (Array.replicate 8 (.int .u64 0)) 73)).alloc (.cells (Array.replicate 64 (.int .u32 0)) 91)).heap[w.heap.size]? = some (.cells hs 73 (0, 0)) := blk_alloc (blk_alloc (blk_new w _) _) _
  have B1 : (((w.alloc (.cells hs 73)).alloc (.cells (Array.replicate 8 (.int .u64 0)) 73)).alloc (.cells (Array.replicate 64 (.int .u32 0)) 91)).heap[w.heap.size + 1]? = some (.cells (Array.replicate 8 (.int .u64 0)) 73 (0, 0)) := by
    have h := blk_alloc (blk_new (w.alloc (.cells hs 73)) (.cells (Array.replicate 8 (.int .u64 0)) 73)) (.cells (Array.replicate 64 (.int .u32 0)) 91)
    simpa using h
  have B2 : (((w.alloc (.cells hs 73)).alloc (.cells (Array.replicate 8 (.int .u64 0)) 73)).alloc (.cells (Array.replicate 64 (.int .u32 0)) 91)).heap[w.heap.size + 1 + 1]? = some (.cells (Array.replicate 64 (.int .u32 0)) 91 (0, 0)) := by
    have h := blk_new ((w.alloc (.cells hs 73)).alloc (.cells (Array.replicate 8 (.int .u64 0)) 73)) (.cells (Array.replicate 64 (.int .u32 0)) 91)
    simpa using h
  have BB : Below w.heap.size w (((w.alloc (.cells hs 73)).alloc (.cells (Array.replicate 8 (.int .u64 0)) 73)).alloc (.cells (Array.replicate 64 (.int .u32 0)) 91)) := below_alloc (below_alloc (below_alloc (Below.refl _ w) _) _) _
  have SZ : (((w.alloc (.cells hs 73)).alloc (.cells (Array.replicate 8 (.int .u64 0)) 73)).alloc (.cells (Array.replicate 64 (.int .u32 0)) 91)).heap.size = w.heap.size + 3 := by simp
  have E8 : Array.replicate 8 (Value.int .u64 0) = #[.int .u64 0, .int .u64 0, .int .u64 0, .int .u64 0, .int .u64 0, .int .u64 0, .int .u64 0, .int .u64 0] := rfl
  have E64 : Array.replicate 64 (Value.int .u32 0) = #[.int .u32 0, .int .u32 0, .int .u32 0, .int .u32 0, .int .u32 0, .int .u32 0, .int .u32 0, .int .u32 0, .int .u32 0, .int .u32 0, .int .u32 0, .int .u32 0, .int .u32 0, .int .u32 0, .int .u32 0, .int .u32 0, .int .u32 0, .int .u32 0, .int .u32 0, .int .u32 0, .int .u32 0, .int .u32 0, .int .u32 0, .int .u32 0, .int .u32 0, .int .u32 0, .int .u32 0, .int .u32 0, .int .u32 0, .int .u32 0, .int .u32 0, .int .u32 0, .int .u32 0, .int .u32 0, .int .u32 0, .int .u32 0, .int .u32 0, .int .u32 0, .int .u32 0, .int .u32 0, .int .u32 0, .int .u32 0, .int .u32 0, .int .u32 0, .int .u32 0, .int .u32 0, .int .u32 0, .int .u32 0, .int .u32 0, .int .u32 0, .int .u32 0, .int .u32 0, .int .u32 0, .int .u32 0, .int .u32 0, .int .u32 0, .int .u32 0, .int .u32 0, .int .u32 0, .int .u32 0, .int .u32 0, .int .u32 0, .int .u32 0, .int .u32 0] := rfl
  rw [E8, E64] at B0 B1 B2 BB SZ
  generalize hWa : ((w.alloc (.cells hs 73)).alloc (.cells #[.int .u64 0, .int .u64 0, .int .u64 0, .int .u64 0, .int .u64 0, .int .u64 0, .int .u64 0, .int .u64 0] 73)).alloc (.cells #[.int .u32 0, .int .u32 0, .int .u32 0, .int .u32 0, .int .u32 0, .int .u32 0, .int .u32 0, .int .u32 0, .int .u32 0, .int .u32 0, .int .u32 0, .int .u32 0, .int .u32 0, .int .u32 0, .int .u32 0, .int .u32 0, .int .u32 0, .int .u32 0, .int .u32 0, .int .u32 0, .int .u32 0, .int .u32 0, .int .u32 0, .int .u32 0, .int .u32 0, .int .u32 0, .int .u32 0, .int .u32 0, .int .u32 0, .int .u32 0, .int .u32 0, .int .u32 0, .int .u32 0, .int .u32 0, .int .u32 0, .int .u32 0, .int .u32 0, .int .u32 0, .int .u32 0, .int .u32 0, .int .u32 0, .int .u32 0, .int .u32 0, .int .u32 0, .int .u32 0, .int .u32 0, .int .u32 0, .int .u32 0, .int .u32 0, .int .u32 0, .int .u32 0, .int .u32 0, .int .u32 0, .int .u32 0, .int .u32 0, .int .u32 0, .int .u32 0, .int .u32 0, .int .u32 0, .int .u32 0, .int .u32 0, .int .u32 0, .int .u32 0, .int .u32 0] 91) = Wa at *
  clear hWa E8
  rw [← E64] at B2
  clear E64
  generalize hn : w.heap.size = n at *
  go_loopw [6] (fun v6 wr => ∃ (k : Nat) (L : Array Value), k ≤ 64 ∧ v6 = .int .i64 k ∧ L.size = 64 ∧ wr.heap[n + 1 + 1]? = some (.cells L 91 (0, 0)) ∧ isWord L k kf ∧ Turn (n + 1 + 1) Wa wr) (fun v6 _ => 64 - (intOf v6).toNat)
  case atStart => exact ⟨0, _, Nat.zero_le _, rfl, by simp, B2, fun t ht => absurd ht (by omega), Turn.refl _ _⟩
  case round =>
    obtain ⟨k, L, hk, rfl, hL, BW, hw, hT⟩ := hrel
    rcases Nat.lt_or_ge k 64 with hkl | hkl
    · have hlt : decide ((k : Int) < 64) = true := by simp; omega
      have tc : wr.cell? ⟨2, k, none⟩ = some (.int .u64 (cub k)) := (hT.cell (by show 2 < Wa.heap.size; omega) (by show 2 ≠ n + 1 + 1; omega)).trans ((BB.cell (by show 2 < n; omega)).trans (htab k hkl))
      obtain ⟨q0, q1, q2⟩ := hcub k hkl
      generalize cub k = cu at *
      have w3 : wr.cell? ⟨n + 1 + 1, k, none⟩ = L[k]? := blk_cell BW k
      have w4 : L[k]? = some L[k] := by simp
      rw [w4] at w3
      have f3 : wr.frozen? ⟨n + 1 + 1, k, none⟩ = false := blk_frozen BW k
      have hk0 : (0 : Int) ≤ (k : Int) := by omega
      have hk64 : (k : Int) < 64 := by omega
      have hk80 : (k : Int) < 80 := by omega
      go_wp2
      go_roundw
      case rel => exact ⟨k + 1, _, by omega, by go_num, by simp [hL], blk_set BW k _, isWord_set hw (by omega) rfl, hT.setCell _ _⟩
      case measure => simp [intOf]; omega
    · obtain rfl : k = 64 := by omega
      rw [show ((64 : Nat) : Int) = (64 : Int) from rfl]
      have hlt : decide ((64 : Int) < 64) = false := by simp
      have B0' := hT.blk B0 (by omega)
      have B1' := hT.blk B1 (by omega)
      have BB' : Below n w wr := Turn.below BB hT (by omega) (by omega)
      have SZ' : n + 3 ≤ wr.heap.size := by have := hT.size; omega
      clear hT B0 B1 B2 BB SZ
      have hK := Aside0.mk hw
      have hKL := Aside0.mk hL
      clear hw hL
      go_wp2
      have BV : (wr.alloc (.cells (Array.replicate 8 (.int .u32 0)) 93)).heap[wr.heap.size]? = some (.cells (Array.replicate 8 (.int .u32 0)) 93 (0, 0)) := blk_new wr _
      have B0 := blk_alloc B0' (.cells (Array.replicate 8 (.int .u32 0)) 93)
      have B1 := blk_alloc B1' (.cells (Array.replicate 8 (.int .u32 0)) 93)
      have B2 := blk_alloc BW (.cells (Array.replicate 8 (.int .u32 0)) 93)
      have BB : Below n w (wr.alloc (.cells (Array.replicate 8 (.int .u32 0)) 93)) := BB'.alloc (by omega) _
      have SZ : (wr.alloc (.cells (Array.replicate 8 (.int .u32 0)) 93)).heap.size = wr.heap.size + 1 := by simp
      have hV : n + 3 ≤ wr.heap.size := SZ'
      clear B0' B1' BW BB' SZ' hlt
      generalize wr.heap.size = V at *
      rw [show Array.replicate 8 (Value.int .u32 0) = #[.int .u32 0, .int .u32 0, .int .u32 0, .int .u32 0, .int .u32 0, .int .u32 0, .int .u32 0, .int .u32 0] from rfl] at BV B0 B1 B2 BB SZ
      generalize wr.alloc (.cells #[.int .u32 0, .int .u32 0, .int .u32 0, .int .u32 0, .int .u32 0, .int .u32 0, .int .u32 0, .int .u32 0] 93) = W1 at *
      rw [← show Array.replicate 8 (Value.int .u32 0) = #[.int .u32 0, .int .u32 0, .int .u32 0, .int .u32 0, .int .u32 0, .int .u32 0, .int .u32 0, .int .u32 0] from rfl] at BV
      go_loopw [8] (fun v8 wr => ∃ (k : Nat) (L : Array Value), k ≤ 8 ∧ v8 = .int .i64 k ∧ L.size = 8 ∧ wr.heap[V]? = some (.cells L 93 (0, 0)) ∧ isWord L k (stf s) ∧ Turn V W1 wr) (fun v8 _ => 8 - (intOf v8).toNat)
      case atStart => exact ⟨0, _, Nat.zero_le _, rfl, by simp, BV, fun t ht => absurd ht (by omega), Turn.refl _ _⟩
      case round =>
        obtain ⟨k, L8, hk, rfl, hL, BW, hw, hT⟩ := hrel
        rcases Nat.lt_or_ge k 8 with hkl | hkl
        · have hlt : decide ((k : Int) < 8) = true := by simp; omega
          have tc : wr.cell? ⟨n, k, none⟩ = some (.int .u64 (nn (stf s k))) := (blk_cell (hT.blk B0 (by omega)) k).trans (by rw [HH.out]; exact stCells64_word s k hkl)
          have w3 : wr.cell? ⟨V, k, none⟩ = L8[k]? := blk_cell BW k
          have w4 : L8[k]? = some L8[k] := by simp
          rw [w4] at w3
          have f3 : wr.frozen? ⟨V, k, none⟩ = false := blk_frozen BW k
          have hk0 : (0 : Int) ≤ (k : Int) := by omega
          have hk8 : (k : Int) < 8 := by omega
          go_wp2
          go_roundw
          case rel => exact ⟨k + 1, _, by omega, by go_num, by simp [hL], blk_set BW k _, isWord_set hw (by omega) rfl, hT.setCell _ _⟩
          case measure => simp [intOf]; omega
        · obtain rfl : k = 8 := by omega
          rw [show ((8 : Nat) : Int) = (8 : Int) from rfl]
          have hlt : decide ((8 : Int) < 8) = false := by simp
          have C0 := hT.blk B0 (by omega)
          have C1 := hT.blk B1 (by omega)
          have C2 := hT.blk B2 (by omega)
          have CB : Below n w wr := Turn.below BB hT (by omega) (by omega)
          have CZ : V + 1 ≤ wr.heap.size := by have := hT.size; omega
          have CV : wr.heap[V]? = some (.cells (stCells (upto kf s p 0)) 93 (0, 0)) := by rw [BW, of_word hw hL]; rfl
          clear hT B0 B1 B2 BB SZ BV BW hw hL
          obtain ⟨W2, hW2⟩ : ∃ W2 : World, W2 = wr := ⟨_, rfl⟩
          rw [← hW2] at C0 C1 C2 CB CZ CV ⊢
          clear hW2
          go_wp2
          go_loopw [9] (fun v9 wr => ∃ (j : Nat), j ≤ m ∧ v9 = .int .i64 (64 * (j : Int)) ∧ wr.heap[V]? = some (.cells (stCells (upto kf s p j)) 93 (0, 0)) ∧ Turn V W2 wr) (fun v9 _ => 64 * m - (intOf v9).toNat)
          case atStart => exact ⟨0, by omega, rfl, CV, Turn.refl _ _⟩
          case round =>
            clear CV
            obtain ⟨j, hj, rfl, CV, hT⟩ := hrel
            rcases Nat.lt_or_ge j m with hjl | hjl
            · have hlt : decide (64 * (j : Int) < (p.length : Int)) = true := by rw [HP.out]; simp; omega
              have D2 := hT.blk C2 (by omega)
              have DB : Below n w wr := Turn.below CB hT (by omega) (by omega)
              have j0 : (0 : Int) ≤ 64 * (j : Int) := by omega
              have j1 : 64 * (j : Int) ≤ 64 * (j : Int) + 64 := by omega
              have j2 : 64 * (j : Int) + 64 ≤ (p.length : Int) := by rw [HP.out]; omega
              have n0 : (64 * (j : Int)).toNat = 64 * j := by omega
              have n1 : (64 * (j : Int) + 64).toNat = 64 * j + 64 := by omega
              have hpl : p.length ≤ 9223372036854775807 := by rw [HP.out]; omega
              obtain ⟨i5, hi5, hz5, hs5, hb5⟩ := info_parts info5
              have hcut : ∀ W : World, _ := cut_mid (P := Tryd.prog) 25 5 .i64 .i64 Tryd.underlying25 hi5 1 hs5 A p.length c (64 * (j : Int)) (64 * (j : Int) + 64) j0 j1 j2 hc
              have hmid := Kd.C_mid (lo := 64 * j) (hi := 64 * j + 64) (Kd.C_below hr (by rw [hn]; exact DB)) (by omega) (by omega) hc
              go_wp2
              have e1 : IntKind.i64.wrap (64 * (j : Int) + 64) = 64 * (j : Int) + 64 := IntWalk.i64_in _ (by omega)
              refine wp_region_still_tail 7 (by kernel_rfl) (by kernel_rfl) ?_
              simp only [List.take_succ_cons, List.take_zero, List.drop_succ_cons, List.drop_zero]
              rw [show ({ heap := wr.heap, tape := wr.tape, drawn := wr.drawn + 1, os := wr.os, output := wr.output } : World) = wr.drew from rfl]
              refine still_row_step rfl 93 (.tmp 7) rfl V rfl 93 _ (0, 0) _ (blk_drew CV) Tryd.underlying93 rfl (by kernel_rfl) ?_
              still_step
              still_step
              still_step
              still_step
              still_step
              refine still_row_step rfl 91 (.tmp 5) rfl (n + 1 + 1) rfl 91 _ (0, 0) _ (blk_drew D2) Tryd.underlying91 rfl (by rw [hKL.out]; kernel_rfl) ?_
              refine wpStill_nil ?_
              clear e1 hcut
              have hlen : ((p.take (64 * j + 64)).drop (64 * j)).length = 64 := by rw [List.length_drop, List.length_take, HP.out]; omega
              rw [show (Kd.int .u8).sz = 1 from rfl, Nat.mul_one, hlen] at hmid
              have hrm : ∀ x ∈ (p.take (64 * j + 64)).drop (64 * j), 0 ≤ x ∧ x < 256 := fun x hx => hrng x (List.mem_of_mem_take (List.mem_of_mem_drop hx))
              have hup : Aside0 (upto kf s p (j + 1) = taken kf (upto kf s p j) ((p.take (64 * j + 64)).drop (64 * j))) := ⟨rfl⟩
              generalize hbl : (p.take (64 * j + 64)).drop (64 * j) = bl at *
              generalize hA9 : (if c = 64 * j then A else Option.map (fun x => x.add (64 * j)) A) = A9 at *
              clear hbl hA9
              go_wp2_with fail
              refine (t32.taken32_call kf (upto kf s p j) _ _ rfl hKL.out hK.out A9 (c - 64 * j) bl hlen hrm wr.drew (Kd.C_drew hmid)).mono ?_
              rintro e W3 ⟨rfl, hb3⟩
              have DV := blk_below (blk_drew CV) hb3
              rw [← hup.out]
              generalize hx9 : upto kf s p (j + 1) = x at *
              have HX9 := Aside0.mk hx9
              clear hx9
              generalize upto kf s p j = y at *
              have TV : Turn V W2 W3 := hT.drew.of_below hb3
              unfold stCells at DV
              have d0 : W3.cell? ⟨V, 0, none⟩ = some (.int .u32 (nn y.a)) := (blk_cell DV 0).trans rfl
              have d1 : W3.cell? ⟨V, 1, none⟩ = some (.int .u32 (nn y.b)) := (blk_cell DV 1).trans rfl
              have d2 : W3.cell? ⟨V, 2, none⟩ = some (.int .u32 (nn y.c)) := (blk_cell DV 2).trans rfl
              have d3 : W3.cell? ⟨V, 3, none⟩ = some (.int .u32 (nn y.d)) := (blk_cell DV 3).trans rfl
              have d4 : W3.cell? ⟨V, 4, none⟩ = some (.int .u32 (nn y.e)) := (blk_cell DV 4).trans rfl
              have d5 : W3.cell? ⟨V, 5, none⟩ = some (.int .u32 (nn y.f)) := (blk_cell DV 5).trans rfl
              have d6 : W3.cell? ⟨V, 6, none⟩ = some (.int .u32 (nn y.g)) := (blk_cell DV 6).trans rfl
              have d7 : W3.cell? ⟨V, 7, none⟩ = some (.int .u32 (nn y.h)) := (blk_cell DV 7).trans rfl
              have z0 := blk_frozen DV 0
              have z1 := blk_frozen DV 1
              have z2 := blk_frozen DV 2
              have z3 := blk_frozen DV 3
              have z4 := blk_frozen DV 4
              have z5 := blk_frozen DV 5
              have z6 := blk_frozen DV 6
              have z7 := blk_frozen DV 7
              have R := blk_set (blk_set (blk_set (blk_set (blk_set (blk_set (blk_set (blk_set DV 0 (.int .u32 (nn x.a))) 1 (.int .u32 (nn x.b))) 2 (.int .u32 (nn x.c))) 3 (.int .u32 (nn x.d))) 4 (.int .u32 (nn x.e))) 5 (.int .u32 (nn x.f))) 6 (.int .u32 (nn x.g))) 7 (.int .u32 (nn x.h))
              have RR := Aside0.mk R
              clear R DV
              unfold stCells
              go_wp2
              exact ⟨⟨j + 1, by omega, congrArg _ (by omega), by rw [HX9.out]; exact RR.out, (((((((TV.setCell _ _).setCell _ _).setCell _ _).setCell _ _).setCell _ _).setCell _ _).setCell _ _).setCell _ _⟩, by simp [intOf]; omega⟩
            · obtain rfl : j = m := by omega
              have hlt : decide (64 * (j : Int) < (p.length : Int)) = false := by rw [HP.out]; simp
              have D0 := hT.blk C0 (by omega)
              have D1 := hT.blk C1 (by omega)
              have DB : Below n w wr := Turn.below CB hT (by omega) (by omega)
              have DZ : V + 1 ≤ wr.heap.size := by have := hT.size; omega
              clear hT C0 C1 C2 CB CZ
              generalize hfin : upto kf s p j = x at *
              have HF := Aside0.mk hfin
              clear hfin
              obtain ⟨W3, hW3⟩ : ∃ W3 : World, W3 = wr := ⟨_, rfl⟩
              rw [← hW3] at D0 D1 CV DB DZ ⊢
              clear hW3
              have hL8 : hs.size = 8 := by rw [HH.out]; rfl
              go_wp2
              go_loopw [10] (fun v10 wr => ∃ (k : Nat) (L : Array Value), k ≤ 8 ∧ v10 = .int .i64 k ∧ L.size = 8 ∧ wr.heap[n]? = some (.cells L 73 (0, 0)) ∧ isWord64 L k (stf x) ∧ Turn n W3 wr) (fun v10 _ => 8 - (intOf v10).toNat)
              case atStart => exact ⟨0, _, Nat.zero_le _, rfl, hL8, D0, fun t ht => absurd ht (by omega), Turn.refl _ _⟩
              case round =>
                obtain ⟨k, L8, hk, rfl, hL, BW, hw, hT⟩ := hrel
                rcases Nat.lt_or_ge k 8 with hkl | hkl
                · have hlt : decide ((k : Int) < 8) = true := by simp; omega
                  have tc : wr.cell? ⟨V, k, none⟩ = some (.int .u32 (nn (stf x k))) := (blk_cell (hT.blk CV (by omega)) k).trans (stCells_word x k hkl)
                  have w3 : wr.cell? ⟨n, k, none⟩ = L8[k]? := blk_cell BW k
                  have w4 : L8[k]? = some L8[k] := by simp
                  rw [w4] at w3
                  have f3 : wr.frozen? ⟨n, k, none⟩ = false := blk_frozen BW k
                  have hk0 : (0 : Int) ≤ (k : Int) := by omega
                  have hk8 : (k : Int) < 8 := by omega
                  go_wp2
                  go_roundw
                  case rel => exact ⟨k + 1, _, by omega, by go_num, by simp [hL], blk_set BW k _, isWord64_set hw (by omega) rfl, hT.setCell _ _⟩
                  case measure => simp [intOf]; omega
                · obtain rfl : k = 8 := by omega
                  rw [show ((8 : Nat) : Int) = (8 : Int) from rfl]
                  have hlt : decide ((8 : Int) < 8) = false := by simp
                  have E1 := hT.blk D1 (by omega)
                  have EB : Below n w wr := Turn.below DB hT (by omega) (by omega)
                  rw [of_word64 hw hL] at BW
                  unfold stCells64 at BW
                  have h0 : wr.cell? ⟨n, 0, none⟩ = some (.int .u64 (nn x.a)) := (blk_cell BW 0).trans rfl
                  have h1 : wr.cell? ⟨n, 1, none⟩ = some (.int .u64 (nn x.b)) := (blk_cell BW 1).trans rfl
                  have h2 : wr.cell? ⟨n, 2, none⟩ = some (.int .u64 (nn x.c)) := (blk_cell BW 2).trans rfl
                  have h3 : wr.cell? ⟨n, 3, none⟩ = some (.int .u64 (nn x.d)) := (blk_cell BW 3).trans rfl
                  have h4 : wr.cell? ⟨n, 4, none⟩ = some (.int .u64 (nn x.e)) := (blk_cell BW 4).trans rfl
                  have h5 : wr.cell? ⟨n, 5, none⟩ = some (.int .u64 (nn x.f)) := (blk_cell BW 5).trans rfl
                  have h6 : wr.cell? ⟨n, 6, none⟩ = some (.int .u64 (nn x.g)) := (blk_cell BW 6).trans rfl
                  have h7 : wr.cell? ⟨n, 7, none⟩ = some (.int .u64 (nn x.h)) := (blk_cell BW 7).trans rfl
                  have d0 : wr.cell? ⟨n + 1, 0, none⟩ = some (.int .u64 0) := (blk_cell E1 0).trans rfl
                  have d1 : wr.cell? ⟨n + 1, 1, none⟩ = some (.int .u64 0) := (blk_cell E1 1).trans rfl
                  have d2 : wr.cell? ⟨n + 1, 2, none⟩ = some (.int .u64 0) := (blk_cell E1 2).trans rfl
                  have d3 : wr.cell? ⟨n + 1, 3, none⟩ = some (.int .u64 0) := (blk_cell E1 3).trans rfl
                  have d4 : wr.cell? ⟨n + 1, 4, none⟩ = some (.int .u64 0) := (blk_cell E1 4).trans rfl
                  have d5 : wr.cell? ⟨n + 1, 5, none⟩ = some (.int .u64 0) := (blk_cell E1 5).trans rfl
                  have d6 : wr.cell? ⟨n + 1, 6, none⟩ = some (.int .u64 0) := (blk_cell E1 6).trans rfl
                  have d7 : wr.cell? ⟨n + 1, 7, none⟩ = some (.int .u64 0) := (blk_cell E1 7).trans rfl
                  have z0 := blk_frozen E1 0
                  have z1 := blk_frozen E1 1
                  have z2 := blk_frozen E1 2
                  have z3 := blk_frozen E1 3
                  have z4 := blk_frozen E1 4
                  have z5 := blk_frozen E1 5
                  have z6 := blk_frozen E1 6
                  have z7 := blk_frozen E1 7
                  have RR := Aside0.mk (blk_set (blk_set (blk_set (blk_set (blk_set (blk_set (blk_set (blk_set E1 0 (.int .u64 (nn x.a))) 1 (.int .u64 (nn x.b))) 2 (.int .u64 (nn x.c))) 3 (.int .u64 (nn x.d))) 4 (.int .u64 (nn x.e))) 5 (.int .u64 (nn x.f))) 6 (.int .u64 (nn x.g))) 7 (.int .u64 (nn x.h)))
                  have HE := Aside0.mk EB
                  clear E1 BW EB
                  go_wp2
                  refine bodyPost_ret (v := .agg (stCells64 (upto kf s p j))) (results_cell_row Tryd.results44 _ _ (n + 1) 73 (stCells64 (upto kf s p j)) (0, 0) _ rfl (by rw [HF.out]; exact RR.out) Tryd.underlying73 rfl (by kernel_rfl)) rfl ⟨rfl, ?_⟩
                  rw [hn]
                  exact (((((((HE.out.setCell (p := ⟨n + 1, 0, none⟩) (by show n ≤ n + 1; omega) _).setCell (p := ⟨n + 1, 1, none⟩) (by show n ≤ n + 1; omega) _).setCell (p := ⟨n + 1, 2, none⟩) (by show n ≤ n + 1; omega) _).setCell (p := ⟨n + 1, 3, none⟩) (by show n ≤ n + 1; omega) _).setCell (p := ⟨n + 1, 4, none⟩) (by show n ≤ n + 1; omega) _).setCell (p := ⟨n + 1, 5, none⟩) (by show n ≤ n + 1; omega) _).setCell (p := ⟨n + 1, 6, none⟩) (by show n ≤ n + 1; omega) _).setCell (p := ⟨n + 1, 7, none⟩) (by show n ≤ n + 1; omega) _
end Go.Proofs.YtglcapkmeecknaaDoor.n44
/-! ## F42 -/
namespace Go.Proofs.YtglcapkmeecknaaDoor.f42
open Go Go.RowKit Go.Proofs.YtglcapkmeecknaaDoor.sha Go.Proofs.YtglcapkmeecknaaDoor.mem Go.Proofs.YtglcapkmeecknaaDoorW.PrintWords Go.Proofs.YtglcapkmeecknaaDoorW.PrintLast Go.Proofs.YtglcapkmeecknaaDoorW.PrintMore
set_option linter.unusedVariables false
set_option linter.unusedSimpArgs false
attribute [local go_sem] nn_mod nn_wrap nn_wrap64 nn_mod64
set_option maxHeartbeats 8000000 in
set_option maxRecDepth 100000 in
theorem first_call (x : St) (sq : Nat → Int) (hsq : ∀ t, t < 8 → 0 ≤ sq t ∧ sq t < 18446744073709551616 ∧ sq t / 4294967296 = nn (stf x t)) (w : World) (hg : 1 < w.heap.size) (htab : ∀ t, t < 8 → w.cell? ⟨1, t, none⟩ = some (.int .u64 (sq t))) :
    Calls Tryd.prog 42 #[.int .i64 256] w fun e w' => e = .returned (.agg (stCells64 x)) ∧ Below w.heap.size w w' := by
  go_enter Tryd.func42, Tryd.ntmps42
  go_wp2
  have B0 : ((w.alloc (.cells (Array.replicate 8 (.int .u64 0)) 73)).alloc (.cells (Array.replicate 8 (.int .u64 0)) 73)).heap[w.heap.size]? = some (.cells (Array.replicate 8 (.int .u64 0)) 73 (0, 0)) := blk_alloc (blk_new w _) _
  have B1 : ((w.alloc (.cells (Array.replicate 8 (.int .u64 0)) 73)).alloc (.cells (Array.replicate 8 (.int .u64 0)) 73)).heap[w.heap.size + 1]? = some (.cells (Array.replicate 8 (.int .u64 0)) 73 (0, 0)) := by
    have h := blk_new (w.alloc (.cells (Array.replicate 8 (.int .u64 0)) 73)) (.cells (Array.replicate 8 (.int .u64 0)) 73)
    simpa using h
  have BB : Below w.heap.size w ((w.alloc (.cells (Array.replicate 8 (.int .u64 0)) 73)).alloc (.cells (Array.replicate 8 (.int .u64 0)) 73)) := below_alloc (below_alloc (Below.refl _ w) _) _
  have SZ : ((w.alloc (.cells (Array.replicate 8 (.int .u64 0)) 73)).alloc (.cells (Array.replicate 8 (.int .u64 0)) 73)).heap.size = w.heap.size + 2 := by simp
  have E8 : Array.replicate 8 (Value.int .u64 0) = #[.int .u64 0, .int .u64 0, .int .u64 0, .int .u64 0, .int .u64 0, .int .u64 0, .int .u64 0, .int .u64 0] := rfl
  rw [E8] at B0 B1 BB SZ
  generalize hWa : (w.alloc (.cells #[.int .u64 0, .int .u64 0, .int .u64 0, .int .u64 0, .int .u64 0, .int .u64 0, .int .u64 0, .int .u64 0] 73)).alloc (.cells #[.int .u64 0, .int .u64 0, .int .u64 0, .int .u64 0, .int .u64 0, .int .u64 0, .int .u64 0, .int .u64 0] 73) = Wa at *
  clear hWa
  rw [← E8] at B0 B1
  clear E8
  generalize hn : w.heap.size = n at *
  go_loopw [4] (fun v4 wr => ∃ (k : Nat) (L : Array Value), k ≤ 8 ∧ v4 = .int .i64 k ∧ L.size = 8 ∧ wr.heap[n + 1]? = some (.cells L 73 (0, 0)) ∧ isWord64 L k (stf x) ∧ Turn (n + 1) Wa wr) (fun v4 _ => 8 - (intOf v4).toNat)
  case atStart => exact ⟨0, _, Nat.zero_le _, rfl, by simp, B1, fun t ht => absurd ht (by omega), Turn.refl _ _⟩
  case round =>
    obtain ⟨k, L, hk, rfl, hL, BW, hw, hT⟩ := hrel
    rcases Nat.lt_or_ge k 8 with hkl | hkl
    · have hlt : decide ((k : Int) < 8) = true := by simp; omega
      have tc : wr.cell? ⟨1, k, none⟩ = some (.int .u64 (sq k)) := (hT.cell (by show 1 < Wa.heap.size; omega) (by show 1 ≠ n + 1; omega)).trans ((BB.cell (by show 1 < n; omega)).trans (htab k hkl))
      obtain ⟨q0, q1, q2⟩ := hsq k hkl
      generalize sq k = cu at *
      have w3 : wr.cell? ⟨n + 1, k, none⟩ = L[k]? := blk_cell BW k
      have w4 : L[k]? = some L[k] := by simp
      rw [w4] at w3
      have f3 : wr.frozen? ⟨n + 1, k, none⟩ = false := blk_frozen BW k
      have hk0 : (0 : Int) ≤ (k : Int) := by omega
      have hk8 : (k : Int) < 8 := by omega
      have hk16 : (k : Int) < 16 := by omega
      go_wp2
      go_roundw
      case rel => exact ⟨k + 1, _, by omega, by go_num, by simp [hL], blk_set BW k _, isWord64_set hw (by omega) rfl, hT.setCell _ _⟩
      case measure => simp [intOf]; omega
    · obtain rfl : k = 8 := by omega
      rw [show ((8 : Nat) : Int) = (8 : Int) from rfl]
      have hlt : decide ((8 : Int) < 8) = false := by simp
      have E1 := hT.blk B0 (by omega)
      have EB : Below n w wr := Turn.below BB hT (by omega) (by omega)
      rw [of_word64 hw hL] at BW
      unfold stCells64 at BW
      have h0 : wr.cell? ⟨n + 1, 0, none⟩ = some (.int .u64 (nn x.a)) := (blk_cell BW 0).trans rfl
      have d0 : wr.cell? ⟨n, 0, none⟩ = some (.int .u64 0) := (blk_cell E1 0).trans rfl
      have z0 := blk_frozen E1 0
      have h1 : wr.cell? ⟨n + 1, 1, none⟩ = some (.int .u64 (nn x.b)) := (blk_cell BW 1).trans rfl
      have d1 : wr.cell? ⟨n, 1, none⟩ = some (.int .u64 0) := (blk_cell E1 1).trans rfl
      have z1 := blk_frozen E1 1
      have h2 : wr.cell? ⟨n + 1, 2, none⟩ = some (.int .u64 (nn x.c)) := (blk_cell BW 2).trans rfl
      have d2 : wr.cell? ⟨n, 2, none⟩ = some (.int .u64 0) := (blk_cell E1 2).trans rfl
      have z2 := blk_frozen E1 2
      have h3 : wr.cell? ⟨n + 1, 3, none⟩ = some (.int .u64 (nn x.d)) := (blk_cell BW 3).trans rfl
      have d3 : wr.cell? ⟨n, 3, none⟩ = some (.int .u64 0) := (blk_cell E1 3).trans rfl
      have z3 := blk_frozen E1 3
      have h4 : wr.cell? ⟨n + 1, 4, none⟩ = some (.int .u64 (nn x.e)) := (blk_cell BW 4).trans rfl
      have d4 : wr.cell? ⟨n, 4, none⟩ = some (.int .u64 0) := (blk_cell E1 4).trans rfl
      have z4 := blk_frozen E1 4
      have h5 : wr.cell? ⟨n + 1, 5, none⟩ = some (.int .u64 (nn x.f)) := (blk_cell BW 5).trans rfl
      have d5 : wr.cell? ⟨n, 5, none⟩ = some (.int .u64 0) := (blk_cell E1 5).trans rfl
      have z5 := blk_frozen E1 5
      have h6 : wr.cell? ⟨n + 1, 6, none⟩ = some (.int .u64 (nn x.g)) := (blk_cell BW 6).trans rfl
      have d6 : wr.cell? ⟨n, 6, none⟩ = some (.int .u64 0) := (blk_cell E1 6).trans rfl
      have z6 := blk_frozen E1 6
      have h7 : wr.cell? ⟨n + 1, 7, none⟩ = some (.int .u64 (nn x.h)) := (blk_cell BW 7).trans rfl
      have d7 : wr.cell? ⟨n, 7, none⟩ = some (.int .u64 0) := (blk_cell E1 7).trans rfl
      have z7 := blk_frozen E1 7
      have RR := Aside0.mk (blk_set (blk_set (blk_set (blk_set (blk_set (blk_set (blk_set (blk_set E1 0 (.int .u64 (nn x.a))) 1 (.int .u64 (nn x.b))) 2 (.int .u64 (nn x.c))) 3 (.int .u64 (nn x.d))) 4 (.int .u64 (nn x.e))) 5 (.int .u64 (nn x.f))) 6 (.int .u64 (nn x.g))) 7 (.int .u64 (nn x.h)))
      have HE := Aside0.mk EB
      clear E1 BW EB
      go_wp2
      refine bodyPost_ret (v := .agg (stCells64 x)) (results_cell_row Tryd.results42 _ _ n 73 (stCells64 x) (0, 0) _ rfl RR.out Tryd.underlying73 rfl (by kernel_rfl)) rfl ⟨rfl, ?_⟩
      rw [hn]
      exact ((((((((HE.out.setCell (p := ⟨n, 0, none⟩) (Nat.le_refl n) _).setCell (p := ⟨n, 1, none⟩) (Nat.le_refl n) _).setCell (p := ⟨n, 2, none⟩) (Nat.le_refl n) _).setCell (p := ⟨n, 3, none⟩) (Nat.le_refl n) _).setCell (p := ⟨n, 4, none⟩) (Nat.le_refl n) _).setCell (p := ⟨n, 5, none⟩) (Nat.le_refl n) _).setCell (p := ⟨n, 6, none⟩) (Nat.le_refl n) _).setCell (p := ⟨n, 7, none⟩) (Nat.le_refl n) _)
end Go.Proofs.YtglcapkmeecknaaDoor.f42
/-! ## S28 -/
namespace Go.Proofs.YtglcapkmeecknaaDoor.s28
open Go Go.RowKit Go.Proofs.YtglcapkmeecknaaDoor.PHeaderPacks Go.Proofs.YtglcapkmeecknaaDoor.sha Go.Proofs.YtglcapkmeecknaaDoor.mem Go.Proofs.YtglcapkmeecknaaDoorW.PrintWords Go.Proofs.YtglcapkmeecknaaDoorW.PrintLast Go.Proofs.YtglcapkmeecknaaDoorW.PrintMore
set_option linter.unusedVariables false
set_option linter.unusedSimpArgs false
attribute [local go_sem] nn_mod nn_wrap nn_wrap64 nn_mod64
theorem size256 : cofferref01_Size.f 256 = some 32 := by kernel_rfl
/-- What the reference's tables hold: the first words, the constants. -/
structure RefTab (kf : Nat → BitVec 32) (x : St) (w : World) : Prop where
  sq : ∃ sq : Nat → Int, (∀ t, t < 8 → 0 ≤ sq t ∧ sq t < 18446744073709551616 ∧ sq t / 4294967296 = nn (stf x t)) ∧ ∀ t, t < 8 → w.cell? ⟨1, t, none⟩ = some (.int .u64 (sq t))
  cub : ∃ cub : Nat → Int, (∀ t, t < 64 → 0 ≤ cub t ∧ cub t < 18446744073709551616 ∧ cub t / 4294967296 = nn (kf t)) ∧ ∀ t, t < 64 → w.cell? ⟨2, t, none⟩ = some (.int .u64 (cub t))
  size : 2 < w.heap.size
theorem RefTab.below {kf : Nat → BitVec 32} {x : St} {w w' : World} (h : RefTab kf x w) (hb : Below w.heap.size w w') : RefTab kf x w' := by
  obtain ⟨⟨sq, s1, s2⟩, ⟨cub, c1, c2⟩, hs⟩ := h
  exact ⟨⟨sq, s1, fun t ht => (hb.cell (by show 1 < w.heap.size; omega)).trans (s2 t ht)⟩, ⟨cub, c1, fun t ht => (hb.cell (by show 2 < w.heap.size; omega)).trans (c2 t ht)⟩, Nat.lt_of_lt_of_le hs hb.size⟩
set_option maxHeartbeats 8000000 in
set_option maxRecDepth 100000 in
theorem sum_call (kf : Nat → BitVec 32) (x : St) (A : Option Addr) (c : Nat) (b : List Int) (hb : b.length ≤ c) (K : Nat) (lay : List Int) (hlay : cofferref01_laid.f K b 64 = some lay) (m : Nat) (hlm : lay.length = 64 * m) (hm : m < 1099511627776) (hrng : ∀ x ∈ lay, 0 ≤ x ∧ x < 256)
    (w : World) (hr : Kd.C (Kd.int .u8) w A b.length b) (ht : RefTab kf x w) :
    Calls Tryd.prog 28 #[.int .i64 256, .slice A b.length c] w fun e w' => ∃ v, e = .returned v ∧ Kd.R (Kd.int .u8) 5 w' w.heap.size (fun _ => True) v (dig (upto kf x lay m)) ∧ Below w.heap.size w w' := by
  have HL := Aside0.mk hlm
  clear hlm
  go_enter Tryd.func28, Tryd.ntmps28
  go_wp2_with fail
  refine (cofferref01_Block.calls 1 256 64 _ rfl).mono ?_
  rintro e w1 ⟨rfl, hd1⟩
  have b1 : Below w.heap.size w w1 := hd1.below
  go_wp2_with fail
  obtain ⟨⟨sq, q1, q2⟩, _, hs2⟩ := ht.below b1
  refine (f42.first_call x sq q1 w1 (by omega) q2).mono ?_
  rintro e w2 ⟨rfl, hb2⟩
  have b2 : Below w.heap.size w w2 := b1.trans (hb2.mono b1.size)
  unfold stCells64
  clear q1 q2 hs2
  have B6 : (w2.alloc (.cells (stCells64 x) 73)).heap[w2.heap.size]? = some (.cells (stCells64 x) 73 (0, 0)) := blk_new w2 _
  have b3 : Below w.heap.size w (w2.alloc (.cells (stCells64 x) 73)) := b2.alloc b2.size _
  have SZ : w2.heap.size < (w2.alloc (.cells (stCells64 x) 73)).heap.size := by simp
  have hG : w.heap.size ≤ w2.heap.size := b2.size
  unfold stCells64 at b3 B6 SZ
  go_wp2_with fail
  generalize hG9 : w2.heap.size = G at *
  clear hG9
  generalize hW3 : w2.alloc (.cells #[.int .u64 (nn x.a), .int .u64 (nn x.b), .int .u64 (nn x.c), .int .u64 (nn x.d), .int .u64 (nn x.e), .int .u64 (nn x.f), .int .u64 (nn x.g), .int .u64 (nn x.h)] 73) = W3 at *
  clear hW3
  refine (cofferref01_laid.calls K A c b 64 lay W3 (Kd.C_below hr b3) hb hlay).mono ?_
  rintro e W4 ⟨v7, rfl, R7, hb4⟩
  obtain ⟨A7, c7, rfl⟩ := Kd.R_slice R7
  have B6' := blk_below B6 hb4
  have b4 : Below w.heap.size w W4 := b3.trans (hb4.mono b3.size)
  have SZ4 : G < W4.heap.size := Nat.lt_of_lt_of_le SZ hb4.size
  clear B6 b3 SZ
  have h0 : W4.cell? ⟨G, 0, none⟩ = some (.int .u64 (nn x.a)) := (blk_cell B6' 0).trans rfl
  have h1 : W4.cell? ⟨G, 1, none⟩ = some (.int .u64 (nn x.b)) := (blk_cell B6' 1).trans rfl
  have h2 : W4.cell? ⟨G, 2, none⟩ = some (.int .u64 (nn x.c)) := (blk_cell B6' 2).trans rfl
  have h3 : W4.cell? ⟨G, 3, none⟩ = some (.int .u64 (nn x.d)) := (blk_cell B6' 3).trans rfl
  have h4 : W4.cell? ⟨G, 4, none⟩ = some (.int .u64 (nn x.e)) := (blk_cell B6' 4).trans rfl
  have h5 : W4.cell? ⟨G, 5, none⟩ = some (.int .u64 (nn x.f)) := (blk_cell B6' 5).trans rfl
  have h6 : W4.cell? ⟨G, 6, none⟩ = some (.int .u64 (nn x.g)) := (blk_cell B6' 6).trans rfl
  have h7 : W4.cell? ⟨G, 7, none⟩ = some (.int .u64 (nn x.h)) := (blk_cell B6' 7).trans rfl
  go_wp2_with fail
  clear h0 h1 h2 h3 h4 h5 h6 h7
  obtain ⟨_, l7, r7⟩ := Kd.R_reads' R7
  obtain ⟨_, ⟨cub, q1, q2⟩, hs2⟩ := ht.below b4
  refine (n44.narrow_call kf cub q1 x _ rfl A7 c7 lay l7 m HL.out hm hrng W4 r7 hs2 q2).mono ?_
  rintro e W5 ⟨rfl, hb5⟩
  have B7 := blk_below B6' hb5
  have b5 : Below w.heap.size w W5 := b4.trans (hb5.mono b4.size)
  have SZ5 : G < W5.heap.size := Nat.lt_of_lt_of_le SZ4 hb5.size
  clear q1 q2 hs2 B6' b4 SZ4 r7 l7 R7
  generalize hS : upto kf x lay m = s at *
  have HS := Aside0.mk hS
  clear hS
  have d0 : W5.cell? ⟨G, 0, none⟩ = some (.int .u64 (nn x.a)) := (blk_cell B7 0).trans rfl
  have d1 : W5.cell? ⟨G, 1, none⟩ = some (.int .u64 (nn x.b)) := (blk_cell B7 1).trans rfl
  have d2 : W5.cell? ⟨G, 2, none⟩ = some (.int .u64 (nn x.c)) := (blk_cell B7 2).trans rfl
  have d3 : W5.cell? ⟨G, 3, none⟩ = some (.int .u64 (nn x.d)) := (blk_cell B7 3).trans rfl
  have d4 : W5.cell? ⟨G, 4, none⟩ = some (.int .u64 (nn x.e)) := (blk_cell B7 4).trans rfl
  have d5 : W5.cell? ⟨G, 5, none⟩ = some (.int .u64 (nn x.f)) := (blk_cell B7 5).trans rfl
  have d6 : W5.cell? ⟨G, 6, none⟩ = some (.int .u64 (nn x.g)) := (blk_cell B7 6).trans rfl
  have d7 : W5.cell? ⟨G, 7, none⟩ = some (.int .u64 (nn x.h)) := (blk_cell B7 7).trans rfl
  have z0 := blk_frozen B7 0
  have z1 := blk_frozen B7 1
  have z2 := blk_frozen B7 2
  have z3 := blk_frozen B7 3
  have z4 := blk_frozen B7 4
  have z5 := blk_frozen B7 5
  have z6 := blk_frozen B7 6
  have z7 := blk_frozen B7 7
  have R := blk_set8 B7 (.int .u64 (nn s.a)) (.int .u64 (nn s.b)) (.int .u64 (nn s.c)) (.int .u64 (nn s.d)) (.int .u64 (nn s.e)) (.int .u64 (nn s.f)) (.int .u64 (nn s.g)) (.int .u64 (nn s.h))
  have RB := ((((((((b5.setCell (p := ⟨G, 0, none⟩) hG (.int .u64 (nn s.a))).setCell (p := ⟨G, 1, none⟩) hG (.int .u64 (nn s.b))).setCell (p := ⟨G, 2, none⟩) hG (.int .u64 (nn s.c))).setCell (p := ⟨G, 3, none⟩) hG (.int .u64 (nn s.d))).setCell (p := ⟨G, 4, none⟩) hG (.int .u64 (nn s.e))).setCell (p := ⟨G, 5, none⟩) hG (.int .u64 (nn s.f))).setCell (p := ⟨G, 6, none⟩) hG (.int .u64 (nn s.g))).setCell (p := ⟨G, 7, none⟩) hG (.int .u64 (nn s.h)))
  have RZ : G < (((((((((W5.setCell ⟨G, 0, none⟩ (.int .u64 (nn s.a))).setCell ⟨G, 1, none⟩ (.int .u64 (nn s.b))).setCell ⟨G, 2, none⟩ (.int .u64 (nn s.c))).setCell ⟨G, 3, none⟩ (.int .u64 (nn s.d))).setCell ⟨G, 4, none⟩ (.int .u64 (nn s.e))).setCell ⟨G, 5, none⟩ (.int .u64 (nn s.f))).setCell ⟨G, 6, none⟩ (.int .u64 (nn s.g))).setCell ⟨G, 7, none⟩ (.int .u64 (nn s.h)))).heap.size := by simpa using SZ5
  have RR := Aside0.mk R
  have RC := Aside0.mk RB
  have RS := Aside0.mk RZ
  clear R RB RZ B7 b5 SZ5
  unfold stCells64
  go_wp2
  clear d0 d1 d2 d3 d4 d5 d6 d7 z0 z1 z2 z3 z4 z5 z6 z7
  have BG : (((((((((W5.setCell ⟨G, 0, none⟩ (.int .u64 (nn s.a))).setCell ⟨G, 1, none⟩ (.int .u64 (nn s.b))).setCell ⟨G, 2, none⟩ (.int .u64 (nn s.c))).setCell ⟨G, 3, none⟩ (.int .u64 (nn s.d))).setCell ⟨G, 4, none⟩ (.int .u64 (nn s.e))).setCell ⟨G, 5, none⟩ (.int .u64 (nn s.f))).setCell ⟨G, 6, none⟩ (.int .u64 (nn s.g))).setCell ⟨G, 7, none⟩ (.int .u64 (nn s.h)))).heap[G]? = some (.cells (stCells64 s) 73 (0, 0)) := RR.out
  have BC := RC.out
  have BS := RS.out
  clear RR RC RS
  generalize ((((((((W5.setCell ⟨G, 0, none⟩ (.int .u64 (nn s.a))).setCell ⟨G, 1, none⟩ (.int .u64 (nn s.b))).setCell ⟨G, 2, none⟩ (.int .u64 (nn s.c))).setCell ⟨G, 3, none⟩ (.int .u64 (nn s.d))).setCell ⟨G, 4, none⟩ (.int .u64 (nn s.e))).setCell ⟨G, 5, none⟩ (.int .u64 (nn s.f))).setCell ⟨G, 6, none⟩ (.int .u64 (nn s.g))).setCell ⟨G, 7, none⟩ (.int .u64 (nn s.h))) = W6 at *
  go_loopw [10, 11] (fun v10 v11 wr => ∃ i : Nat, i ≤ 8 ∧ v11 = .int .i64 i ∧ Kd.R (Kd.int .u8) 5 wr w.heap.size (fun k_ => k_ ≠ G) v10 (digTo s i) ∧ wr.heap[G]? = some (.cells (stCells64 s) 73 (0, 0)) ∧ G < wr.heap.size ∧ Below w.heap.size w wr) (fun _ v11 _ => 8 - (intOf v11).toNat)
  case atStart => exact ⟨0, by omega, rfl, Kd.R_nil _ _ _ _ _, BG, BS, BC⟩
  case round =>
    clear BG BS BC
    obtain ⟨i, hi, rfl, HO, BG, BS, HB⟩ := hrel
    have hlen := Aside0.mk (digTo_len s i)
    obtain ⟨Ao, co, eo⟩ := Kd.R_slice HO
    subst eo
    rcases Nat.lt_or_ge i 8 with hil | hil
    · have hl32 : decide (((digTo s i).length : Int) < 32) = true := by rw [hlen.out]; simp; omega
      go_wp2_with fail
      refine (cofferref01_Size.calls 256 32 _ size256).mono ?_
      rintro e V0 ⟨rfl, hd0⟩
      have HO0 := Kd.R_below HO hd0.below
      have BG0 := blk_below BG hd0.below
      have BS0 : G < V0.heap.size := Nat.lt_of_lt_of_le BS hd0.below.size
      have HB0 : Below w.heap.size w V0 := HB.trans (hd0.below.mono HB.size)
      clear HO BG BS HB hd0
      have hi0 : (0 : Int) ≤ (i : Int) := by omega
      have hi8 : (i : Int) < 8 := by omega
      go_wp2_with fail
      refine wp_loop_rounds 5 ?_
      rw [rounds_succ]
      obtain ⟨y, hy⟩ : ∃ y, Aside0 (stf s i = y) := ⟨_, ⟨rfl⟩⟩
      have hl0 : decide (((digTo s i).length : Int) < 32) = true := by rw [hlen.out]; simp; omega
      go_wp2_with fail
      refine (cofferref01_Size.calls 256 32 _ size256).mono ?_
      rintro e U0 ⟨rfl, hd0⟩
      have HOa0 := Kd.R_below HO0 hd0.below
      have BGa0 := blk_below BG0 hd0.below
      have BSa0 : G < U0.heap.size := Nat.lt_of_lt_of_le BS0 hd0.below.size
      have HBa0 : Below w.heap.size w U0 := HB0.trans (hd0.below.mono HB0.size)
      clear HO0 BG0 BS0 HB0 hd0
      have hc0 : U0.cell? ⟨G, i, none⟩ = some (.int .u64 (nn y)) := by rw [← hy.out]; exact (blk_cell BGa0 i).trans (stCells64_word s i hil)
      go_wp2_with ((with_reducible refine gate_builtin (b := .append) (xs := #[.tmp 62, .tmp 71]) rfl ?_); at_builtin; refine Kd.R_append (Kd.int .u8) (w0 := w) w.heap.size rfl (.tmp 62) (.tmp 71) 25 5 (.int .u8 0) 1 rfl Tryd.underlying25 n44.info5 rfl (by decide) (by omega) (.slice Ao (digTo s i).length co) (digTo s i) (nn y / 16777216 % 256) [.int .u8 (nn y / 16777216 % 256)] (fun k_ => k_ ≠ G) (fun _ => False) rfl rfl ?aP (fun _ hk => hk.elim) ?aF ?aO ?aB ?aS ?aL ?_; (case aP => exact rfl); (case aF => exact (fun k_ hk => by omega)); (case aO => exact HOa0); (case aB => exact HBa0); (case aS => exact HBa0.size); (case aL => rw [hlen.out]; omega); intro v0 V1 ho0 hb0 hg0 hat0)
      have BG1 := blk_grown BGa0 hg0 (fun e => HOa0.1 _ e.symm rfl)
      have BS1 : G < V1.heap.size := Nat.lt_of_lt_of_le BSa0 hg0.size
      have HB1 := hb0
      obtain ⟨L1, hL1⟩ : ∃ L, Aside0 (L = (digTo s i) ++ [nn y / 16777216 % 256]) := ⟨_, ⟨rfl⟩⟩
      have hlen1 : Aside0 (L1.length = 4 * i + 1) := ⟨by rw [hL1.out, List.length_append, hlen.out]; rfl⟩
      rw [← hL1.out] at ho0
      have HO1 := ho0
      obtain ⟨A1, c1, eo1⟩ := Kd.R_slice HO1
      subst eo1
      clear HOa0 BGa0 BSa0 HBa0 hc0 ho0 hb0 hg0 hat0 hl0
      rw [rounds_succ]
      have hl1 : decide ((L1.length : Int) < 32) = true := by rw [hlen1.out]; simp; omega
      go_wp2_with fail
      refine (cofferref01_Size.calls 256 32 _ size256).mono ?_
      rintro e U1 ⟨rfl, hd1⟩
      have HOa1 := Kd.R_below HO1 hd1.below
      have BGa1 := blk_below BG1 hd1.below
      have BSa1 : G < U1.heap.size := Nat.lt_of_lt_of_le BS1 hd1.below.size
      have HBa1 : Below w.heap.size w U1 := HB1.trans (hd1.below.mono HB1.size)
      clear HO1 BG1 BS1 HB1 hd1
      have hc1 : U1.cell? ⟨G, i, none⟩ = some (.int .u64 (nn y)) := by rw [← hy.out]; exact (blk_cell BGa1 i).trans (stCells64_word s i hil)
      go_wp2_with ((with_reducible refine gate_builtin (b := .append) (xs := #[.tmp 62, .tmp 71]) rfl ?_); at_builtin; refine Kd.R_append (Kd.int .u8) (w0 := w) w.heap.size rfl (.tmp 62) (.tmp 71) 25 5 (.int .u8 0) 1 rfl Tryd.underlying25 n44.info5 rfl (by decide) (by omega) (.slice A1 L1.length c1) L1 (nn y / 65536 % 256) [.int .u8 (nn y / 65536 % 256)] (fun k_ => k_ ≠ G) (fun _ => False) rfl rfl ?aP (fun _ hk => hk.elim) ?aF ?aO ?aB ?aS ?aL ?_; (case aP => exact rfl); (case aF => exact (fun k_ hk => by omega)); (case aO => exact HOa1); (case aB => exact HBa1); (case aS => exact HBa1.size); (case aL => rw [hlen1.out]; omega); intro v1 V2 ho1 hb1 hg1 hat1)
      have BG2 := blk_grown BGa1 hg1 (fun e => HOa1.1 _ e.symm rfl)
      have BS2 : G < V2.heap.size := Nat.lt_of_lt_of_le BSa1 hg1.size
      have HB2 := hb1
      obtain ⟨L2, hL2⟩ : ∃ L, Aside0 (L = L1 ++ [nn y / 65536 % 256]) := ⟨_, ⟨rfl⟩⟩
      have hlen2 : Aside0 (L2.length = 4 * i + 2) := ⟨by rw [hL2.out, List.length_append, hlen1.out]; rfl⟩
      rw [← hL2.out] at ho1
      have HO2 := ho1
      obtain ⟨A2, c2, eo2⟩ := Kd.R_slice HO2
      subst eo2
      clear HOa1 BGa1 BSa1 HBa1 hc1 ho1 hb1 hg1 hat1 hl1
      rw [rounds_succ]
      have hl2 : decide ((L2.length : Int) < 32) = true := by rw [hlen2.out]; simp; omega
      go_wp2_with fail
      refine (cofferref01_Size.calls 256 32 _ size256).mono ?_
      rintro e U2 ⟨rfl, hd2⟩
      have HOa2 := Kd.R_below HO2 hd2.below
      have BGa2 := blk_below BG2 hd2.below
      have BSa2 : G < U2.heap.size := Nat.lt_of_lt_of_le BS2 hd2.below.size
      have HBa2 : Below w.heap.size w U2 := HB2.trans (hd2.below.mono HB2.size)
      clear HO2 BG2 BS2 HB2 hd2
      have hc2 : U2.cell? ⟨G, i, none⟩ = some (.int .u64 (nn y)) := by rw [← hy.out]; exact (blk_cell BGa2 i).trans (stCells64_word s i hil)
      go_wp2_with ((with_reducible refine gate_builtin (b := .append) (xs := #[.tmp 62, .tmp 71]) rfl ?_); at_builtin; refine Kd.R_append (Kd.int .u8) (w0 := w) w.heap.size rfl (.tmp 62) (.tmp 71) 25 5 (.int .u8 0) 1 rfl Tryd.underlying25 n44.info5 rfl (by decide) (by omega) (.slice A2 L2.length c2) L2 (nn y / 256 % 256) [.int .u8 (nn y / 256 % 256)] (fun k_ => k_ ≠ G) (fun _ => False) rfl rfl ?aP (fun _ hk => hk.elim) ?aF ?aO ?aB ?aS ?aL ?_; (case aP => exact rfl); (case aF => exact (fun k_ hk => by omega)); (case aO => exact HOa2); (case aB => exact HBa2); (case aS => exact HBa2.size); (case aL => rw [hlen2.out]; omega); intro v2 V3 ho2 hb2 hg2 hat2)
      have BG3 := blk_grown BGa2 hg2 (fun e => HOa2.1 _ e.symm rfl)
      have BS3 : G < V3.heap.size := Nat.lt_of_lt_of_le BSa2 hg2.size
      have HB3 := hb2
      obtain ⟨L3, hL3⟩ : ∃ L, Aside0 (L = L2 ++ [nn y / 256 % 256]) := ⟨_, ⟨rfl⟩⟩
      have hlen3 : Aside0 (L3.length = 4 * i + 3) := ⟨by rw [hL3.out, List.length_append, hlen2.out]; rfl⟩
      rw [← hL3.out] at ho2
      have HO3 := ho2
      obtain ⟨A3, c3, eo3⟩ := Kd.R_slice HO3
      subst eo3
      clear HOa2 BGa2 BSa2 HBa2 hc2 ho2 hb2 hg2 hat2 hl2
      rw [rounds_succ]
      have hl3 : decide ((L3.length : Int) < 32) = true := by rw [hlen3.out]; simp; omega
      go_wp2_with fail
      refine (cofferref01_Size.calls 256 32 _ size256).mono ?_
      rintro e U3 ⟨rfl, hd3⟩
      have HOa3 := Kd.R_below HO3 hd3.below
      have BGa3 := blk_below BG3 hd3.below
      have BSa3 : G < U3.heap.size := Nat.lt_of_lt_of_le BS3 hd3.below.size
      have HBa3 : Below w.heap.size w U3 := HB3.trans (hd3.below.mono HB3.size)
      clear HO3 BG3 BS3 HB3 hd3
      have hc3 : U3.cell? ⟨G, i, none⟩ = some (.int .u64 (nn y)) := by rw [← hy.out]; exact (blk_cell BGa3 i).trans (stCells64_word s i hil)
      go_wp2_with ((with_reducible refine gate_builtin (b := .append) (xs := #[.tmp 62, .tmp 71]) rfl ?_); at_builtin; refine Kd.R_append (Kd.int .u8) (w0 := w) w.heap.size rfl (.tmp 62) (.tmp 71) 25 5 (.int .u8 0) 1 rfl Tryd.underlying25 n44.info5 rfl (by decide) (by omega) (.slice A3 L3.length c3) L3 (nn y % 256) [.int .u8 (nn y % 256)] (fun k_ => k_ ≠ G) (fun _ => False) rfl rfl ?aP (fun _ hk => hk.elim) ?aF ?aO ?aB ?aS ?aL ?_; (case aP => exact rfl); (case aF => exact (fun k_ hk => by omega)); (case aO => exact HOa3); (case aB => exact HBa3); (case aS => exact HBa3.size); (case aL => rw [hlen3.out]; omega); intro v3 V4 ho3 hb3 hg3 hat3)
      have BG4 := blk_grown BGa3 hg3 (fun e => HOa3.1 _ e.symm rfl)
      have BS4 : G < V4.heap.size := Nat.lt_of_lt_of_le BSa3 hg3.size
      have HB4 := hb3
      obtain ⟨L4, hL4⟩ : ∃ L, Aside0 (L = L3 ++ [nn y % 256]) := ⟨_, ⟨rfl⟩⟩
      have hlen4 : Aside0 (L4.length = 4 * i + 4) := ⟨by rw [hL4.out, List.length_append, hlen3.out]; rfl⟩
      rw [← hL4.out] at ho3
      have HO4 := ho3
      obtain ⟨A4, c4, eo4⟩ := Kd.R_slice HO4
      subst eo4
      clear HOa3 BGa3 BSa3 HBa3 hc3 ho3 hb3 hg3 hat3 hl3
      rw [rounds_succ]
      go_wp2
      have hL : L4 = digTo s (i + 1) := by
        rw [digTo_succ, hy.out, hL4.out, hL3.out, hL2.out, hL1.out]
        simp only [List.append_assoc, List.cons_append, List.nil_append, wbytes]
      rw [hL] at HO4
      refine ⟨⟨i + 1, by omega, by simp, by rw [hL]; exact HO4, BG4, BS4, HB4⟩, ?_⟩
      simp only [intOf]
      omega
    · obtain rfl : i = 8 := by omega
      have hl32 : decide (((digTo s 8).length : Int) < 32) = false := by rw [hlen.out]; simp
      go_wp2_with fail
      refine (cofferref01_Size.calls 256 32 _ size256).mono ?_
      rintro e V0 ⟨rfl, hd0⟩
      have HO0 := Kd.R_below HO hd0.below
      have HB0 : Below w.heap.size w V0 := HB.trans (hd0.below.mono HB.size)
      go_wp2
      go_ret
      exact ⟨.slice Ao (digTo s 8).length co, rfl, by rw [HS.out]; exact Kd.R_mono HO0 (fun _ _ => trivial), HB0⟩
end Go.Proofs.YtglcapkmeecknaaDoor.s28
