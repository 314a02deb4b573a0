/- cofferref01.narrow: the words behind all blocks of 64 bytes. (Written by gen44.py.) cofferref01.first at 256: the words that SHA-256 begins with. (Written by gen42.py.) A digest's bytes. cofferref01.Sum at 256. (Written by gen28.py.) digest.big: a word's four bytes behind a row of the caller's own. (Written by gen72.py.) digest.state.end where what was fed are whole blocks. (Written by gen61.py.) digest.New at 256. (Written by gen51.py.) digest.Sum at 256 of parts of whole blocks. (Written by gen40.py.) header.sumOf: the digest of a copy's bytes. (Written by gen27.py.) What the reference lays behind the bytes that it digests. cofferref08.Sum: the reference's digest of a copy's bytes. (Written by gen12.py.) (Merged by merge.py.) -/
import Derived.Test.YtglcapkmeecknaaDoorQT
import Derived.Test.YtglcapkmeecknaaDoorQA
import Derived.IntWalk
import Derived.Test.YtglcapkmeecknaaDoorPHeaderPacksx1
import Derived.LoopN
import Derived.Outline
import Derived.Test.YtglcapkmeecknaaDoorQC
import Derived.Deep.RegionWith
/-! ## N44 -/
namespace Go.Proofs.YtglcapkmeecknaaDoor.n44
open Go Go.RowKit Go.Proofs.YtglcapkmeecknaaDoor.sha Go.Proofs.YtglcapkmeecknaaDoor.mem Go.Proofs.YtglcapkmeecknaaDoorW.PrintWords Go.Proofs.YtglcapkmeecknaaDoorW.PrintLast Go.Proofs.YtglcapkmeecknaaDoorW.PrintMore
set_option linter.unusedVariables false
set_option linter.unusedSimpArgs false
attribute [local go_sem] nn_mod nn_wrap nn_wrap64 nn_mod64
theorem info5 : (Tryd.prog.info? 5).map (fun i => (i.zero, i.size, i.bytes)) = some (some (.int .u8 0), 1, 1) := by kernel_rfl
set_option maxHeartbeats 8000000 in
set_option maxRecDepth 100000 in
theorem narrow_call (kf : Nat → BitVec 32) (cub : Nat → Int) (hcub : ∀ t, t < 64 → 0 ≤ cub t ∧ cub t < 18446744073709551616 ∧ cub t / 4294967296 = nn (kf t)) (s : St) (hs : Array Value) (hhs : hs = stCells64 s)
    (A : Option Addr) (c : Nat) (p : List Int) (hc : p.length ≤ c) (m : Nat) (hp : p.length = 64 * m) (hm : m < 1099511627776) (hrng : ∀ x ∈ p, 0 ≤ x ∧ x < 256) (w : World) (hr : Kd.C (Kd.int .u8) w A p.length p) (hg2 : 2 < w.heap.size) (htab : ∀ t, t < 64 → w.cell? ⟨2, t, none⟩ = some (.int .u64 (cub t))) :
    Calls Tryd.prog 44 #[.agg hs, .slice A p.length c] w fun e w' => e = .returned (.agg (stCells64 (upto kf s p m))) ∧ Below w.heap.size w w' := by
  have HH := Aside0.mk hhs
  clear hhs
  have HP := Aside0.mk hp
  go_enter Tryd.func44, Tryd.ntmps44
  clear hp
  go_wp2
  have B0 : (((w.alloc (.cells hs 73)).alloc (.cells (Array.replicate 8 (.int .u64 0)) 73)).alloc (.cells (Array.replicate 64 (.int .u32 0)) 91)).heap[w.heap.size]? = some (.cells hs 73 (0, 0)) := blk_alloc (blk_alloc (blk_new w _) _) _
  have B1 : (((w.alloc (.cells hs 73)).alloc (.cells (Array.replicate 8 (.int .u64 0)) 73)).alloc (.cells (Array.replicate 64 (.int .u32 0)) 91)).heap[w.heap.size + 1]? = some (.cells (Array.replicate 8 (.int .u64 0)) 73 (0, 0)) := by
    have h := blk_alloc (blk_new (w.alloc (.cells hs 73)) (.cells (Array.replicate 8 (.int .u64 0)) 73)) (.cells (Array.replicate 64 (.int .u32 0)) 91)
    simpa using h
  have B2 : (((w.alloc (.cells hs 73)).alloc (.cells (Array.replicate 8 (.int .u64 0)) 73)).alloc (.cells (Array.replicate 64 (.int .u32 0)) 91)).heap[w.heap.size + 1 + 1]? = some (.cells (Array.replicate 64 (.int .u32 0)) 91 (0, 0)) := by
    have h := blk_new ((w.alloc (.cells hs 73)).alloc (.cells (Array.replicate 8 (.int .u64 0)) 73)) (.cells (Array.replicate 64 (.int .u32 0)) 91)
    simpa using h
  have BB : Below w.heap.size w (((w.alloc (.cells hs 73)).alloc (.cells (Array.replicate 8 (.int .u64 0)) 73)).alloc (.cells (Array.replicate 64 (.int .u32 0)) 91)) := below_alloc (below_alloc (below_alloc (Below.refl _ w) _) _) _
  have SZ : (((w.alloc (.cells hs 73)).alloc (.cells (Array.replicate 8 (.int .u64 0)) 73)).alloc (.cells (Array.replicate 64 (.int .u32 0)) 91)).heap.size = w.heap.size + 3 := by simp
  have E8 : Array.replicate 8 (Value.int .u64 0) = #[.int .u64 0, .int .u64 0, .int .u64 0, .int .u64 0, .int .u64 0, .int .u64 0, .int .u64 0, .int .u64 0] := rfl
  have E64 : Array.replicate 64 (Value.int .u32 0) = #[.int .u32 0, .int .u32 0, .int .u32 0, .int .u32 0, .int .u32 0, .int .u32 0, .int .u32 0, .int .u32 0, .int .u32 0, .int .u32 0, .int .u32 0, .int .u32 0, .int .u32 0, .int .u32 0, .int .u32 0, .int .u32 0, .int .u32 0, .int .u32 0, .int .u32 0, .int .u32 0, .int .u32 0, .int .u32 0, .int .u32 0, .int .u32 0, .int .u32 0, .int .u32 0, .int .u32 0, .int .u32 0, .int .u32 0, .int .u32 0, .int .u32 0, .int .u32 0, .int .u32 0, .int .u32 0, .int .u32 0, .int .u32 0, .int .u32 0, .int .u32 0, .int .u32 0, .int .u32 0, .int .u32 0, .int .u32 0, .int .u32 0, .int .u32 0, .int .u32 0, .int .u32 0, .int .u32 0, .int .u32 0, .int .u32 0, .int .u32 0, .int .u32 0, .int .u32 0, .int .u32 0, .int .u32 0, .int .u32 0, .int .u32 0, .int .u32 0, .int .u32 0, .int .u32 0, .int .u32 0, .int .u32 0, .int .u32 0, .int .u32 0, .int .u32 0] := rfl
  rw [E8, E64] at B0 B1 B2 BB SZ
  generalize hWa : ((w.alloc (.cells hs 73)).alloc (.cells #[.int .u64 0, .int .u64 0, .int .u64 0, .int .u64 0, .int .u64 0, .int .u64 0, .int .u64 0, .int .u64 0] 73)).alloc (.cells #[.int .u32 0, .int .u32 0, .int .u32 0, .int .u32 0, .int .u32 0, .int .u32 0, .int .u32 0, .int .u32 0, .int .u32 0, .int .u32 0, .int .u32 0, .int .u32 0, .int .u32 0, .int .u32 0, .int .u32 0, .int .u32 0, .int .u32 0, .int .u32 0, .int .u32 0, .int .u32 0, .int .u32 0, .int .u32 0, .int .u32 0, .int .u32 0, .int .u32 0, .int .u32 0, .int .u32 0, .int .u32 0, .int .u32 0, .int .u32 0, .int .u32 0, .int .u32 0, .int .u32 0, .int .u32 0, .int .u32 0, .int .u32 0, .int .u32 0, .int .u32 0, .int .u32 0, .int .u32 0, .int .u32 0, .int .u32 0, .int .u32 0, .int .u32 0, .int .u32 0, .int .u32 0, .int .u32 0, .int .u32 0, .int .u32 0, .int .u32 0, .int .u32 0, .int .u32 0, .int .u32 0, .int .u32 0, .int .u32 0, .int .u32 0, .int .u32 0, .int .u32 0, .int .u32 0, .int .u32 0, .int .u32 0, .int .u32 0, .int .u32 0, .int .u32 0] 91) = Wa at *
  clear hWa E8
  rw [← E64] at B2
  clear E64
  generalize hn : w.heap.size = n at *
  go_loopw [6] (fun v6 wr => ∃ (k : Nat) (L : Array Value), k ≤ 64 ∧ v6 = .int .i64 k ∧ L.size = 64 ∧ wr.heap[n + 1 + 1]? = some (.cells L 91 (0, 0)) ∧ isWord L k kf ∧ Turn (n + 1 + 1) Wa wr) (fun v6 _ => 64 - (intOf v6).toNat)
  case atStart => exact ⟨0, _, Nat.zero_le _, rfl, by simp, B2, fun t ht => absurd ht (by omega), Turn.refl _ _⟩
  case round =>
    obtain ⟨k, L, hk, rfl, hL, BW, hw, hT⟩ := hrel
    rcases Nat.lt_or_ge k 64 with hkl | hkl
    · have hlt : decide ((k : Int) < 64) = true := by simp; omega
      have tc : wr.cell? ⟨2, k, none⟩ = some (.int .u64 (cub k)) := (hT.cell (by show 2 < Wa.heap.size; omega) (by show 2 ≠ n + 1 + 1; omega)).trans ((BB.cell (by show 2 < n; omega)).trans (htab k hkl))
      obtain ⟨q0, q1, q2⟩ := hcub k hkl
      generalize cub k = cu at *
      have w3 : wr.cell? ⟨n + 1 + 1, k, none⟩ = L[k]? := blk_cell BW k
      have w4 : L[k]? = some L[k] := by simp
      rw [w4] at w3
      have f3 : wr.frozen? ⟨n + 1 + 1, k, none⟩ = false := blk_frozen BW k
      have hk0 : (0 : Int) ≤ (k : Int) := by omega
      have hk64 : (k : Int) < 64 := by omega
      have hk80 : (k : Int) < 80 := by omega
      go_wp2
      go_roundw
      case rel => exact ⟨k + 1, _, by omega, by go_num, by simp [hL], blk_set BW k _, isWord_set hw (by omega) rfl, hT.setCell _ _⟩
      case measure => simp [intOf]; omega
    · obtain rfl : k = 64 := by omega
      rw [show ((64 : Nat) : Int) = (64 : Int) from rfl]
      have hlt : decide ((64 : Int) < 64) = false := by simp
      have B0' := hT.blk B0 (by omega)
      have B1' := hT.blk B1 (by omega)
      have BB' : Below n w wr := Turn.below BB hT (by omega) (by omega)
      have SZ' : n + 3 ≤ wr.heap.size := by have := hT.size; omega
      clear hT B0 B1 B2 BB SZ
      have hK := Aside0.mk hw
      have hKL := Aside0.mk hL
      clear hw hL
      go_wp2
      have BV : (wr.alloc (.cells (Array.replicate 8 (.int .u32 0)) 93)).heap[wr.heap.size]? = some (.cells (Array.replicate 8 (.int .u32 0)) 93 (0, 0)) := blk_new wr _
      have B0 := blk_alloc B0' (.cells (Array.replicate 8 (.int .u32 0)) 93)
      have B1 := blk_alloc B1' (.cells (Array.replicate 8 (.int .u32 0)) 93)
      have B2 := blk_alloc BW (.cells (Array.replicate 8 (.int .u32 0)) 93)
      have BB : Below n w (wr.alloc (.cells (Array.replicate 8 (.int .u32 0)) 93)) := BB'.alloc (by omega) _
      have SZ : (wr.alloc (.cells (Array.replicate 8 (.int .u32 0)) 93)).heap.size = wr.heap.size + 1 := by simp
      have hV : n + 3 ≤ wr.heap.size := SZ'
      clear B0' B1' BW BB' SZ' hlt
      generalize wr.heap.size = V at *
      rw [show Array.replicate 8 (Value.int .u32 0) = #[.int .u32 0, .int .u32 0, .int .u32 0, .int .u32 0, .int .u32 0, .int .u32 0, .int .u32 0, .int .u32 0] from rfl] at BV B0 B1 B2 BB SZ
      generalize wr.alloc (.cells #[.int .u32 0, .int .u32 0, .int .u32 0, .int .u32 0, .int .u32 0, .int .u32 0, .int .u32 0, .int .u32 0] 93) = W1 at *
      rw [← show Array.replicate 8 (Value.int .u32 0) = #[.int .u32 0, .int .u32 0, .int .u32 0, .int .u32 0, .int .u32 0, .int .u32 0, .int .u32 0, .int .u32 0] from rfl] at BV
      go_loopw [8] (fun v8 wr => ∃ (k : Nat) (L : Array Value), k ≤ 8 ∧ v8 = .int .i64 k ∧ L.size = 8 ∧ wr.heap[V]? = some (.cells L 93 (0, 0)) ∧ isWord L k (stf s) ∧ Turn V W1 wr) (fun v8 _ => 8 - (intOf v8).toNat)
      case atStart => exact ⟨0, _, Nat.zero_le _, rfl, by simp, BV, fun t ht => absurd ht (by omega), Turn.refl _ _⟩
      case round =>
        obtain ⟨k, L8, hk, rfl, hL, BW, hw, hT⟩ := hrel
        rcases Nat.lt_or_ge k 8 with hkl | hkl
        · have hlt : decide ((k : Int) < 8) = true := by simp; omega
          have tc : wr.cell? ⟨n, k, none⟩ = some (.int .u64 (nn (stf s k))) := (blk_cell (hT.blk B0 (by omega)) k).trans (by rw [HH.out]; exact stCells64_word s k hkl)
          have w3 : wr.cell? ⟨V, k, none⟩ = L8[k]? := blk_cell BW k
          have w4 : L8[k]? = some L8[k] := by simp
          rw [w4] at w3
          have f3 : wr.frozen? ⟨V, k, none⟩ = false := blk_frozen BW k
          have hk0 : (0 : Int) ≤ (k : Int) := by omega
          have hk8 : (k : Int) < 8 := by omega
          go_wp2
          go_roundw
          case rel => exact ⟨k + 1, _, by omega, by go_num, by simp [hL], blk_set BW k _, isWord_set hw (by omega) rfl, hT.setCell _ _⟩
          case measure => simp [intOf]; omega
        · obtain rfl : k = 8 := by omega
          rw [show ((8 : Nat) : Int) = (8 : Int) from rfl]
          have hlt : decide ((8 : Int) < 8) = false := by simp
          have C0 := hT.blk B0 (by omega)
          have C1 := hT.blk B1 (by omega)
          have C2 := hT.blk B2 (by omega)
          have CB : Below n w wr := Turn.below BB hT (by omega) (by omega)
          have CZ : V + 1 ≤ wr.heap.size := by have := hT.size; omega
          have CV : wr.heap[V]? = some (.cells (stCells (upto kf s p 0)) 93 (0, 0)) := by rw [BW, of_word hw hL]; rfl
          clear hT B0 B1 B2 BB SZ BV BW hw hL
          obtain ⟨W2, hW2⟩ : ∃ W2 : World, W2 = wr := ⟨_, rfl⟩
          rw [← hW2] at C0 C1 C2 CB CZ CV ⊢
          clear hW2
          go_wp2
          go_loopw [9] (fun v9 wr => ∃ (j : Nat), j ≤ m ∧ v9 = .int .i64 (64 * (j : Int)) ∧ wr.heap[V]? = some (.cells (stCells (upto kf s p j)) 93 (0, 0)) ∧ Turn V W2 wr) (fun v9 _ => 64 * m - (intOf v9).toNat)
          case atStart => exact ⟨0, by omega, rfl, CV, Turn.refl _ _⟩
          case round =>
            clear CV
            obtain ⟨j, hj, rfl, CV, hT⟩ := hrel
            rcases Nat.lt_or_ge j m with hjl | hjl
            · have hlt : decide (64 * (j : Int) < (p.length : Int)) = true := by rw [HP.out]; simp; omega
              have D2 := hT.blk C2 (by omega)
              have DB : Below n w wr := Turn.below CB hT (by omega) (by omega)
              have j0 : (0 : Int) ≤ 64 * (j : Int) := by omega
              have j1 : 64 * (j : Int) ≤ 64 * (j : Int) + 64 := by omega
              have j2 : 64 * (j : Int) + 64 ≤ (p.length : Int) := by rw [HP.out]; omega
              have n0 : (64 * (j : Int)).toNat = 64 * j := by omega
              have n1 : (64 * (j : Int) + 64).toNat = 64 * j + 64 := by omega
              have hpl : p.length ≤ 9223372036854775807 := by rw [HP.out]; omega
              obtain ⟨i5, hi5, hz5, hs5, hb5⟩ := info_parts info5
              have hcut : ∀ W : World, _ := cut_mid (P := Tryd.prog) 25 5 .i64 .i64 Tryd.underlying25 hi5 1 hs5 A p.length c (64 * (j : Int)) (64 * (j : Int) + 64) j0 j1 j2 hc
              have hmid := Kd.C_mid (lo := 64 * j) (hi := 64 * j + 64) (Kd.C_below hr (by rw [hn]; exact DB)) (by omega) (by omega) hc
              go_wp2
              have e1 : IntKind.i64.wrap (64 * (j : Int) + 64) = 64 * (j : Int) + 64 := IntWalk.i64_in _ (by omega)
              refine wp_region_still_tail 7 (by kernel_rfl) (by kernel_rfl) ?_
              simp only [List.take_succ_cons, List.take_zero, List.drop_succ_cons, List.drop_zero]
              rw [show ({ heap := wr.heap, tape := wr.tape, drawn := wr.drawn + 1, os := wr.os, output := wr.output } : World) = wr.drew from rfl]
              refine still_row_step rfl 93 (.tmp 7) rfl V rfl 93 _ (0, 0) _ (blk_drew CV) Tryd.underlying93 rfl (by kernel_rfl) ?_
              still_step
              still_step
              still_step
              still_step
              still_step
              refine still_row_step rfl 91 (.tmp 5) rfl (n + 1 + 1) rfl 91 _ (0, 0) _ (blk_drew D2) Tryd.underlying91 rfl (by rw [hKL.out]; kernel_rfl) ?_
              refine wpStill_nil ?_
              clear e1 hcut
              have hlen : ((p.take (64 * j + 64)).drop (64 * j)).length = 64 := by rw [List.length_drop, List.length_take, HP.out]; omega
              rw [show (Kd.int .u8).sz = 1 from rfl, Nat.mul_one, hlen] at hmid
              have hrm : ∀ x ∈ (p.take (64 * j + 64)).drop (64 * j), 0 ≤ x ∧ x < 256 := fun x hx => hrng x (List.mem_of_mem_take (List.mem_of_mem_drop hx))
              have hup : Aside0 (upto kf s p (j + 1) = taken kf (upto kf s p j) ((p.take (64 * j + 64)).drop (64 * j))) := ⟨rfl⟩
              generalize hbl : (p.take (64 * j + 64)).drop (64 * j) = bl at *
              generalize hA9 : (if c = 64 * j then A else Option.map (fun x => x.add (64 * j)) A) = A9 at *
              clear hbl hA9
              go_wp2_with fail
              refine (t32.taken32_call kf (upto kf s p j) _ _ rfl hKL.out hK.out A9 (c - 64 * j) bl hlen hrm wr.drew (Kd.C_drew hmid)).mono ?_
              rintro e W3 ⟨rfl, hb3⟩
              have DV := blk_below (blk_drew CV) hb3
              rw [← hup.out]
              generalize hx9 : upto kf s p (j + 1) = x at *
              have HX9 := Aside0.mk hx9
              clear hx9
              generalize upto kf s p j = y at *
              have TV : Turn V W2 W3 := hT.drew.of_below hb3
              unfold stCells at DV
              have d0 : W3.cell? ⟨V, 0, none⟩ = some (.int .u32 (nn y.a)) := (blk_cell DV 0).trans rfl
              have d1 : W3.cell? ⟨V, 1, none⟩ = some (.int .u32 (nn y.b)) := (blk_cell DV 1).trans rfl
              have d2 : W3.cell? ⟨V, 2, none⟩ = some (.int .u32 (nn y.c)) := (blk_cell DV 2).trans rfl
              have d3 : W3.cell? ⟨V, 3, none⟩ = some (.int .u32 (nn y.d)) := (blk_cell DV 3).trans rfl
              have d4 : W3.cell? ⟨V, 4, none⟩ = some (.int .u32 (nn y.e)) := (blk_cell DV 4).trans rfl
              have d5 : W3.cell? ⟨V, 5, none⟩ = some (.int .u32 (nn y.f)) := (blk_cell DV 5).trans rfl
              have d6 : W3.cell? ⟨V, 6, none⟩ = some (.int .u32 (nn y.g)) := (blk_cell DV 6).trans rfl
              have d7 : W3.cell? ⟨V, 7, none⟩ = some (.int .u32 (nn y.h)) := (blk_cell DV 7).trans rfl
              have z0 := blk_frozen DV 0
              have z1 := blk_frozen DV 1
              have z2 := blk_frozen DV 2
              have z3 := blk_frozen DV 3
              have z4 := blk_frozen DV 4
              have z5 := blk_frozen DV 5
              have z6 := blk_frozen DV 6
              have z7 := blk_frozen DV 7
              have R := blk_set (blk_set (blk_set (blk_set (blk_set (blk_set (blk_set (blk_set DV 0 (.int .u32 (nn x.a))) 1 (.int .u32 (nn x.b))) 2 (.int .u32 (nn x.c))) 3 (.int .u32 (nn x.d))) 4 (.int .u32 (nn x.e))) 5 (.int .u32 (nn x.f))) 6 (.int .u32 (nn x.g))) 7 (.int .u32 (nn x.h))
              have RR := Aside0.mk R
              clear R DV
              unfold stCells
              go_wp2
              exact ⟨⟨j + 1, by omega, congrArg _ (by omega), by rw [HX9.out]; exact RR.out, (((((((TV.setCell _ _).setCell _ _).setCell _ _).setCell _ _).setCell _ _).setCell _ _).setCell _ _).setCell _ _⟩, by simp [intOf]; omega⟩
            · obtain rfl : j = m := by omega
              have hlt : decide (64 * (j : Int) < (p.length : Int)) = false := by rw [HP.out]; simp
              have D0 := hT.blk C0 (by omega)
              have D1 := hT.blk C1 (by omega)
              have DB : Below n w wr := Turn.below CB hT (by omega) (by omega)
              have DZ : V + 1 ≤ wr.heap.size := by have := hT.size; omega
              clear hT C0 C1 C2 CB CZ
              generalize hfin : upto kf s p j = x at *
              have HF := Aside0.mk hfin
              clear hfin
              obtain ⟨W3, hW3⟩ : ∃ W3 : World, W3 = wr := ⟨_, rfl⟩
              rw [← hW3] at D0 D1 CV DB DZ ⊢
              clear hW3
              have hL8 : hs.size = 8 := by rw [HH.out]; rfl
              go_wp2
              go_loopw [10] (fun v10 wr => ∃ (k : Nat) (L : Array Value), k ≤ 8 ∧ v10 = .int .i64 k ∧ L.size = 8 ∧ wr.heap[n]? = some (.cells L 73 (0, 0)) ∧ isWord64 L k (stf x) ∧ Turn n W3 wr) (fun v10 _ => 8 - (intOf v10).toNat)
              case atStart => exact ⟨0, _, Nat.zero_le _, rfl, hL8, D0, fun t ht => absurd ht (by omega), Turn.refl _ _⟩
              case round =>
                obtain ⟨k, L8, hk, rfl, hL, BW, hw, hT⟩ := hrel
                rcases Nat.lt_or_ge k 8 with hkl | hkl
                · have hlt : decide ((k : Int) < 8) = true := by simp; omega
                  have tc : wr.cell? ⟨V, k, none⟩ = some (.int .u32 (nn (stf x k))) := (blk_cell (hT.blk CV (by omega)) k).trans (stCells_word x k hkl)
                  have w3 : wr.cell? ⟨n, k, none⟩ = L8[k]? := blk_cell BW k
                  have w4 : L8[k]? = some L8[k] := by simp
                  rw [w4] at w3
                  have f3 : wr.frozen? ⟨n, k, none⟩ = false := blk_frozen BW k
                  have hk0 : (0 : Int) ≤ (k : Int) := by omega
                  have hk8 : (k : Int) < 8 := by omega
                  go_wp2
                  go_roundw
                  case rel => exact ⟨k + 1, _, by omega, by go_num, by simp [hL], blk_set BW k _, isWord64_set hw (by omega) rfl, hT.setCell _ _⟩
                  case measure => simp [intOf]; omega
                · obtain rfl : k = 8 := by omega
                  rw [show ((8 : Nat) : Int) = (8 : Int) from rfl]
                  have hlt : decide ((8 : Int) < 8) = false := by simp
                  have E1 := hT.blk D1 (by omega)
                  have EB : Below n w wr := Turn.below DB hT (by omega) (by omega)
                  rw [of_word64 hw hL] at BW
                  unfold stCells64 at BW
                  have h0 : wr.cell? ⟨n, 0, none⟩ = some (.int .u64 (nn x.a)) := (blk_cell BW 0).trans rfl
                  have h1 : wr.cell? ⟨n, 1, none⟩ = some (.int .u64 (nn x.b)) := (blk_cell BW 1).trans rfl
                  have h2 : wr.cell? ⟨n, 2, none⟩ = some (.int .u64 (nn x.c)) := (blk_cell BW 2).trans rfl
                  have h3 : wr.cell? ⟨n, 3, none⟩ = some (.int .u64 (nn x.d)) := (blk_cell BW 3).trans rfl
                  have h4 : wr.cell? ⟨n, 4, none⟩ = some (.int .u64 (nn x.e)) := (blk_cell BW 4).trans rfl
                  have h5 : wr.cell? ⟨n, 5, none⟩ = some (.int .u64 (nn x.f)) := (blk_cell BW 5).trans rfl
                  have h6 : wr.cell? ⟨n, 6, none⟩ = some (.int .u64 (nn x.g)) := (blk_cell BW 6).trans rfl
                  have h7 : wr.cell? ⟨n, 7, none⟩ = some (.int .u64 (nn x.h)) := (blk_cell BW 7).trans rfl
                  have d0 : wr.cell? ⟨n + 1, 0, none⟩ = some (.int .u64 0) := (blk_cell E1 0).trans rfl
                  have d1 : wr.cell? ⟨n + 1, 1, none⟩ = some (.int .u64 0) := (blk_cell E1 1).trans rfl
                  have d2 : wr.cell? ⟨n + 1, 2, none⟩ = some (.int .u64 0) := (blk_cell E1 2).trans rfl
                  have d3 : wr.cell? ⟨n + 1, 3, none⟩ = some (.int .u64 0) := (blk_cell E1 3).trans rfl
                  have d4 : wr.cell? ⟨n + 1, 4, none⟩ = some (.int .u64 0) := (blk_cell E1 4).trans rfl
                  have d5 : wr.cell? ⟨n + 1, 5, none⟩ = some (.int .u64 0) := (blk_cell E1 5).trans rfl
                  have d6 : wr.cell? ⟨n + 1, 6, none⟩ = some (.int .u64 0) := (blk_cell E1 6).trans rfl
                  have d7 : wr.cell? ⟨n + 1, 7, none⟩ = some (.int .u64 0) := (blk_cell E1 7).trans rfl
                  have z0 := blk_frozen E1 0
                  have z1 := blk_frozen E1 1
                  have z2 := blk_frozen E1 2
                  have z3 := blk_frozen E1 3
                  have z4 := blk_frozen E1 4
                  have z5 := blk_frozen E1 5
                  have z6 := blk_frozen E1 6
                  have z7 := blk_frozen E1 7
                  have RR := Aside0.mk (blk_set (blk_set (blk_set (blk_set (blk_set (blk_set (blk_set (blk_set E1 0 (.int .u64 (nn x.a))) 1 (.int .u64 (nn x.b))) 2 (.int .u64 (nn x.c))) 3 (.int .u64 (nn x.d))) 4 (.int .u64 (nn x.e))) 5 (.int .u64 (nn x.f))) 6 (.int .u64 (nn x.g))) 7 (.int .u64 (nn x.h)))
                  have HE := Aside0.mk EB
                  clear E1 BW EB
                  go_wp2
                  refine bodyPost_ret (v := .agg (stCells64 (upto kf s p j))) (results_cell_row Tryd.results44 _ _ (n + 1) 73 (stCells64 (upto kf s p j)) (0, 0) _ rfl (by rw [HF.out]; exact RR.out) Tryd.underlying73 rfl (by kernel_rfl)) rfl ⟨rfl, ?_⟩
                  rw [hn]
                  exact (((((((HE.out.setCell (p := ⟨n + 1, 0, none⟩) (by show n ≤ n + 1; omega) _).setCell (p := ⟨n + 1, 1, none⟩) (by show n ≤ n + 1; omega) _).setCell (p := ⟨n + 1, 2, none⟩) (by show n ≤ n + 1; omega) _).setCell (p := ⟨n + 1, 3, none⟩) (by show n ≤ n + 1; omega) _).setCell (p := ⟨n + 1, 4, none⟩) (by show n ≤ n + 1; omega) _).setCell (p := ⟨n + 1, 5, none⟩) (by show n ≤ n + 1; omega) _).setCell (p := ⟨n + 1, 6, none⟩) (by show n ≤ n + 1; omega) _).setCell (p := ⟨n + 1, 7, none⟩) (by show n ≤ n + 1; omega) _
end Go.Proofs.YtglcapkmeecknaaDoor.n44
/-! ## F42 -/
namespace Go.Proofs.YtglcapkmeecknaaDoor.f42
open Go Go.RowKit Go.Proofs.YtglcapkmeecknaaDoor.sha Go.Proofs.YtglcapkmeecknaaDoor.mem Go.Proofs.YtglcapkmeecknaaDoorW.PrintWords Go.Proofs.YtglcapkmeecknaaDoorW.PrintLast Go.Proofs.YtglcapkmeecknaaDoorW.PrintMore
set_option linter.unusedVariables false
set_option linter.unusedSimpArgs false
attribute [local go_sem] nn_mod nn_wrap nn_wrap64 nn_mod64
set_option maxHeartbeats 8000000 in
set_option maxRecDepth 100000 in
theorem first_call (x : St) (sq : Nat → Int) (hsq : ∀ t, t < 8 → 0 ≤ sq t ∧ sq t < 18446744073709551616 ∧ sq t / 4294967296 = nn (stf x t)) (w : World) (hg : 1 < w.heap.size) (htab : ∀ t, t < 8 → w.cell? ⟨1, t, none⟩ = some (.int .u64 (sq t))) :
    Calls Tryd.prog 42 #[.int .i64 256] w fun e w' => e = .returned (.agg (stCells64 x)) ∧ Below w.heap.size w w' := by
  go_enter Tryd.func42, Tryd.ntmps42
  go_wp2
  have B0 : ((w.alloc (.cells (Array.replicate 8 (.int .u64 0)) 73)).alloc (.cells (Array.replicate 8 (.int .u64 0)) 73)).heap[w.heap.size]? = some (.cells (Array.replicate 8 (.int .u64 0)) 73 (0, 0)) := blk_alloc (blk_new w _) _
  have B1 : ((w.alloc (.cells (Array.replicate 8 (.int .u64 0)) 73)).alloc (.cells (Array.replicate 8 (.int .u64 0)) 73)).heap[w.heap.size + 1]? = some (.cells (Array.replicate 8 (.int .u64 0)) 73 (0, 0)) := by
    have h := blk_new (w.alloc (.cells (Array.replicate 8 (.int .u64 0)) 73)) (.cells (Array.replicate 8 (.int .u64 0)) 73)
    simpa using h
  have BB : Below w.heap.size w ((w.alloc (.cells (Array.replicate 8 (.int .u64 0)) 73)).alloc (.cells (Array.replicate 8 (.int .u64 0)) 73)) := below_alloc (below_alloc (Below.refl _ w) _) _
  have SZ : ((w.alloc (.cells (Array.replicate 8 (.int .u64 0)) 73)).alloc (.cells (Array.replicate 8 (.int .u64 0)) 73)).heap.size = w.heap.size + 2 := by simp
  have E8 : Array.replicate 8 (Value.int .u64 0) = #[.int .u64 0, .int .u64 0, .int .u64 0, .int .u64 0, .int .u64 0, .int .u64 0, .int .u64 0, .int .u64 0] := rfl
  rw [E8] at B0 B1 BB SZ
  generalize hWa : (w.alloc (.cells #[.int .u64 0, .int .u64 0, .int .u64 0, .int .u64 0, .int .u64 0, .int .u64 0, .int .u64 0, .int .u64 0] 73)).alloc (.cells #[.int .u64 0, .int .u64 0, .int .u64 0, .int .u64 0, .int .u64 0, .int .u64 0, .int .u64 0, .int .u64 0] 73) = Wa at *
  clear hWa
  rw [← E8] at B0 B1
  clear E8
  generalize hn : w.heap.size = n at *
  go_loopw [4] (fun v4 wr => ∃ (k : Nat) (L : Array Value), k ≤ 8 ∧ v4 = .int .i64 k ∧ L.size = 8 ∧ wr.heap[n + 1]? = some (.cells L 73 (0, 0)) ∧ isWord64 L k (stf x) ∧ Turn (n + 1) Wa wr) (fun v4 _ => 8 - (intOf v4).toNat)
  case atStart => exact ⟨0, _, Nat.zero_le _, rfl, by simp, B1, fun t ht => absurd ht (by omega), Turn.refl _ _⟩
  case round =>
    obtain ⟨k, L, hk, rfl, hL, BW, hw, hT⟩ := hrel
    rcases Nat.lt_or_ge k 8 with hkl | hkl
    · have hlt : decide ((k : Int) < 8) = true := by simp; omega
      have tc : wr.cell? ⟨1, k, none⟩ = some (.int .u64 (sq k)) := (hT.cell (by show 1 < Wa.heap.size; omega) (by show 1 ≠ n + 1; omega)).trans ((BB.cell (by show 1 < n; omega)).trans (htab k hkl))
      obtain ⟨q0, q1, q2⟩ := hsq k hkl
      generalize sq k = cu at *
      have w3 : wr.cell? ⟨n + 1, k, none⟩ = L[k]? := blk_cell BW k
      have w4 : L[k]? = some L[k] := by simp
      rw [w4] at w3
      have f3 : wr.frozen? ⟨n + 1, k, none⟩ = false := blk_frozen BW k
      have hk0 : (0 : Int) ≤ (k : Int) := by omega
      have hk8 : (k : Int) < 8 := by omega
      have hk16 : (k : Int) < 16 := by omega
      go_wp2
      go_roundw
      case rel => exact ⟨k + 1, _, by omega, by go_num, by simp [hL], blk_set BW k _, isWord64_set hw (by omega) rfl, hT.setCell _ _⟩
      case measure => simp [intOf]; omega
    · obtain rfl : k = 8 := by omega
      rw [show ((8 : Nat) : Int) = (8 : Int) from rfl]
      have hlt : decide ((8 : Int) < 8) = false := by simp
      have E1 := hT.blk B0 (by omega)
      have EB : Below n w wr := Turn.below BB hT (by omega) (by omega)
      rw [of_word64 hw hL] at BW
      unfold stCells64 at BW
      have h0 : wr.cell? ⟨n + 1, 0, none⟩ = some (.int .u64 (nn x.a)) := (blk_cell BW 0).trans rfl
      have d0 : wr.cell? ⟨n, 0, none⟩ = some (.int .u64 0) := (blk_cell E1 0).trans rfl
      have z0 := blk_frozen E1 0
      have h1 : wr.cell? ⟨n + 1, 1, none⟩ = some (.int .u64 (nn x.b)) := (blk_cell BW 1).trans rfl
      have d1 : wr.cell? ⟨n, 1, none⟩ = some (.int .u64 0) := (blk_cell E1 1).trans rfl
      have z1 := blk_frozen E1 1
      have h2 : wr.cell? ⟨n + 1, 2, none⟩ = some (.int .u64 (nn x.c)) := (blk_cell BW 2).trans rfl
      have d2 : wr.cell? ⟨n, 2, none⟩ = some (.int .u64 0) := (blk_cell E1 2).trans rfl
      have z2 := blk_frozen E1 2
      have h3 : wr.cell? ⟨n + 1, 3, none⟩ = some (.int .u64 (nn x.d)) := (blk_cell BW 3).trans rfl
      have d3 : wr.cell? ⟨n, 3, none⟩ = some (.int .u64 0) := (blk_cell E1 3).trans rfl
      have z3 := blk_frozen E1 3
      have h4 : wr.cell? ⟨n + 1, 4, none⟩ = some (.int .u64 (nn x.e)) := (blk_cell BW 4).trans rfl
      have d4 : wr.cell? ⟨n, 4, none⟩ = some (.int .u64 0) := (blk_cell E1 4).trans rfl
      have z4 := blk_frozen E1 4
      have h5 : wr.cell? ⟨n + 1, 5, none⟩ = some (.int .u64 (nn x.f)) := (blk_cell BW 5).trans rfl
      have d5 : wr.cell? ⟨n, 5, none⟩ = some (.int .u64 0) := (blk_cell E1 5).trans rfl
      have z5 := blk_frozen E1 5
      have h6 : wr.cell? ⟨n + 1, 6, none⟩ = some (.int .u64 (nn x.g)) := (blk_cell BW 6).trans rfl
      have d6 : wr.cell? ⟨n, 6, none⟩ = some (.int .u64 0) := (blk_cell E1 6).trans rfl
      have z6 := blk_frozen E1 6
      have h7 : wr.cell? ⟨n + 1, 7, none⟩ = some (.int .u64 (nn x.h)) := (blk_cell BW 7).trans rfl
      have d7 : wr.cell? ⟨n, 7, none⟩ = some (.int .u64 0) := (blk_cell E1 7).trans rfl
      have z7 := blk_frozen E1 7
      have RR := Aside0.mk (blk_set (blk_set (blk_set (blk_set (blk_set (blk_set (blk_set (blk_set E1 0 (.int .u64 (nn x.a))) 1 (.int .u64 (nn x.b))) 2 (.int .u64 (nn x.c))) 3 (.int .u64 (nn x.d))) 4 (.int .u64 (nn x.e))) 5 (.int .u64 (nn x.f))) 6 (.int .u64 (nn x.g))) 7 (.int .u64 (nn x.h)))
      have HE := Aside0.mk EB
      clear E1 BW EB
      go_wp2
      refine bodyPost_ret (v := .agg (stCells64 x)) (results_cell_row Tryd.results42 _ _ n 73 (stCells64 x) (0, 0) _ rfl RR.out Tryd.underlying73 rfl (by kernel_rfl)) rfl ⟨rfl, ?_⟩
      rw [hn]
      exact ((((((((HE.out.setCell (p := ⟨n, 0, none⟩) (Nat.le_refl n) _).setCell (p := ⟨n, 1, none⟩) (Nat.le_refl n) _).setCell (p := ⟨n, 2, none⟩) (Nat.le_refl n) _).setCell (p := ⟨n, 3, none⟩) (Nat.le_refl n) _).setCell (p := ⟨n, 4, none⟩) (Nat.le_refl n) _).setCell (p := ⟨n, 5, none⟩) (Nat.le_refl n) _).setCell (p := ⟨n, 6, none⟩) (Nat.le_refl n) _).setCell (p := ⟨n, 7, none⟩) (Nat.le_refl n) _)
end Go.Proofs.YtglcapkmeecknaaDoor.f42
/-! ## Dig -/
namespace Go.Proofs.YtglcapkmeecknaaDoor.sha
open Go Go.RowKit
/-- A word's bytes, the highest first. -/
def wbytes (x : BitVec 32) : List Int := [nn x / 16777216 % 256, nn x / 65536 % 256, nn x / 256 % 256, nn x % 256]
def digTo (s : St) (i : Nat) : List Int := (List.range i).flatMap fun j => wbytes (stf s j)
def dig (s : St) : List Int := digTo s 8
theorem digTo_len (s : St) : ∀ i, (digTo s i).length = 4 * i
  | 0 => rfl
  | i + 1 => by
    have := digTo_len s i
    unfold digTo at *
    rw [List.range_succ, List.flatMap_append, List.length_append, this]
    simp [wbytes]; omega
theorem digTo_succ (s : St) (i : Nat) : digTo s (i + 1) = digTo s i ++ wbytes (stf s i) := by
  unfold digTo
  rw [List.range_succ, List.flatMap_append]
  simp
end Go.Proofs.YtglcapkmeecknaaDoor.sha
/-! ## S28 -/
namespace Go.Proofs.YtglcapkmeecknaaDoor.s28
open Go Go.RowKit Go.Proofs.YtglcapkmeecknaaDoor.PHeaderPacks Go.Proofs.YtglcapkmeecknaaDoor.sha Go.Proofs.YtglcapkmeecknaaDoor.mem Go.Proofs.YtglcapkmeecknaaDoorW.PrintWords Go.Proofs.YtglcapkmeecknaaDoorW.PrintLast Go.Proofs.YtglcapkmeecknaaDoorW.PrintMore
set_option linter.unusedVariables false
set_option linter.unusedSimpArgs false
attribute [local go_sem] nn_mod nn_wrap nn_wrap64 nn_mod64
theorem size256 : cofferref01_Size.f 256 = some 32 := by kernel_rfl
/-- What the reference's tables hold: the first words, the constants. -/
structure RefTab (kf : Nat → BitVec 32) (x : St) (w : World) : Prop where
  sq : ∃ sq : Nat → Int, (∀ t, t < 8 → 0 ≤ sq t ∧ sq t < 18446744073709551616 ∧ sq t / 4294967296 = nn (stf x t)) ∧ ∀ t, t < 8 → w.cell? ⟨1, t, none⟩ = some (.int .u64 (sq t))
  cub : ∃ cub : Nat → Int, (∀ t, t < 64 → 0 ≤ cub t ∧ cub t < 18446744073709551616 ∧ cub t / 4294967296 = nn (kf t)) ∧ ∀ t, t < 64 → w.cell? ⟨2, t, none⟩ = some (.int .u64 (cub t))
  size : 2 < w.heap.size
theorem RefTab.below {kf : Nat → BitVec 32} {x : St} {w w' : World} (h : RefTab kf x w) (hb : Below w.heap.size w w') : RefTab kf x w' := by
  obtain ⟨⟨sq, s1, s2⟩, ⟨cub, c1, c2⟩, hs⟩ := h
  exact ⟨⟨sq, s1, fun t ht => (hb.cell (by show 1 < w.heap.size; omega)).trans (s2 t ht)⟩, ⟨cub, c1, fun t ht => (hb.cell (by show 2 < w.heap.size; omega)).trans (c2 t ht)⟩, Nat.lt_of_lt_of_le hs hb.size⟩
set_option maxHeartbeats 8000000 in
set_option maxRecDepth 100000 in
theorem sum_call (kf : Nat → BitVec 32) (x : St) (A : Option Addr) (c : Nat) (b : List Int) (hb : b.length ≤ c) (K : Nat) (lay : List Int) (hlay : cofferref01_laid.f K b 64 = some lay) (m : Nat) (hlm : lay.length = 64 * m) (hm : m < 1099511627776) (hrng : ∀ x ∈ lay, 0 ≤ x ∧ x < 256)
    (w : World) (hr : Kd.C (Kd.int .u8) w A b.length b) (ht : RefTab kf x w) :
    Calls Tryd.prog 28 #[.int .i64 256, .slice A b.length c] w fun e w' => ∃ v, e = .returned v ∧ Kd.R (Kd.int .u8) 5 w' w.heap.size (fun _ => True) v (dig (upto kf x lay m)) ∧ Below w.heap.size w w' := by
  have HL := Aside0.mk hlm
  clear hlm
  go_enter Tryd.func28, Tryd.ntmps28
  go_wp2_with fail
  refine (cofferref01_Block.calls 1 256 64 _ rfl).mono ?_
  rintro e w1 ⟨rfl, hd1⟩
  have b1 : Below w.heap.size w w1 := hd1.below
  go_wp2_with fail
  obtain ⟨⟨sq, q1, q2⟩, _, hs2⟩ := ht.below b1
  refine (f42.first_call x sq q1 w1 (by omega) q2).mono ?_
  rintro e w2 ⟨rfl, hb2⟩
  have b2 : Below w.heap.size w w2 := b1.trans (hb2.mono b1.size)
  unfold stCells64
  clear q1 q2 hs2
  have B6 : (w2.alloc (.cells (stCells64 x) 73)).heap[w2.heap.size]? = some (.cells (stCells64 x) 73 (0, 0)) := blk_new w2 _
  have b3 : Below w.heap.size w (w2.alloc (.cells (stCells64 x) 73)) := b2.alloc b2.size _
  have SZ : w2.heap.size < (w2.alloc (.cells (stCells64 x) 73)).heap.size := by simp
  have hG : w.heap.size ≤ w2.heap.size := b2.size
  unfold stCells64 at b3 B6 SZ
  go_wp2_with fail
  generalize hG9 : w2.heap.size = G at *
  clear hG9
  generalize hW3 : w2.alloc (.cells #[.int .u64 (nn x.a), .int .u64 (nn x.b), .int .u64 (nn x.c), .int .u64 (nn x.d), .int .u64 (nn x.e), .int .u64 (nn x.f), .int .u64 (nn x.g), .int .u64 (nn x.h)] 73) = W3 at *
  clear hW3
  refine (cofferref01_laid.calls K A c b 64 lay W3 (Kd.C_below hr b3) hb hlay).mono ?_
  rintro e W4 ⟨v7, rfl, R7, hb4⟩
  obtain ⟨A7, c7, rfl⟩ := Kd.R_slice R7
  have B6' := blk_below B6 hb4
  have b4 : Below w.heap.size w W4 := b3.trans (hb4.mono b3.size)
  have SZ4 : G < W4.heap.size := Nat.lt_of_lt_of_le SZ hb4.size
  clear B6 b3 SZ
  have h0 : W4.cell? ⟨G, 0, none⟩ = some (.int .u64 (nn x.a)) := (blk_cell B6' 0).trans rfl
  have h1 : W4.cell? ⟨G, 1, none⟩ = some (.int .u64 (nn x.b)) := (blk_cell B6' 1).trans rfl
  have h2 : W4.cell? ⟨G, 2, none⟩ = some (.int .u64 (nn x.c)) := (blk_cell B6' 2).trans rfl
  have h3 : W4.cell? ⟨G, 3, none⟩ = some (.int .u64 (nn x.d)) := (blk_cell B6' 3).trans rfl
  have h4 : W4.cell? ⟨G, 4, none⟩ = some (.int .u64 (nn x.e)) := (blk_cell B6' 4).trans rfl
  have h5 : W4.cell? ⟨G, 5, none⟩ = some (.int .u64 (nn x.f)) := (blk_cell B6' 5).trans rfl
  have h6 : W4.cell? ⟨G, 6, none⟩ = some (.int .u64 (nn x.g)) := (blk_cell B6' 6).trans rfl
  have h7 : W4.cell? ⟨G, 7, none⟩ = some (.int .u64 (nn x.h)) := (blk_cell B6' 7).trans rfl
  go_wp2_with fail
  clear h0 h1 h2 h3 h4 h5 h6 h7
  obtain ⟨_, l7, r7⟩ := Kd.R_reads' R7
  obtain ⟨_, ⟨cub, q1, q2⟩, hs2⟩ := ht.below b4
  refine (n44.narrow_call kf cub q1 x _ rfl A7 c7 lay l7 m HL.out hm hrng W4 r7 hs2 q2).mono ?_
  rintro e W5 ⟨rfl, hb5⟩
  have B7 := blk_below B6' hb5
  have b5 : Below w.heap.size w W5 := b4.trans (hb5.mono b4.size)
  have SZ5 : G < W5.heap.size := Nat.lt_of_lt_of_le SZ4 hb5.size
  clear q1 q2 hs2 B6' b4 SZ4 r7 l7 R7
  generalize hS : upto kf x lay m = s at *
  have HS := Aside0.mk hS
  clear hS
  have d0 : W5.cell? ⟨G, 0, none⟩ = some (.int .u64 (nn x.a)) := (blk_cell B7 0).trans rfl
  have d1 : W5.cell? ⟨G, 1, none⟩ = some (.int .u64 (nn x.b)) := (blk_cell B7 1).trans rfl
  have d2 : W5.cell? ⟨G, 2, none⟩ = some (.int .u64 (nn x.c)) := (blk_cell B7 2).trans rfl
  have d3 : W5.cell? ⟨G, 3, none⟩ = some (.int .u64 (nn x.d)) := (blk_cell B7 3).trans rfl
  have d4 : W5.cell? ⟨G, 4, none⟩ = some (.int .u64 (nn x.e)) := (blk_cell B7 4).trans rfl
  have d5 : W5.cell? ⟨G, 5, none⟩ = some (.int .u64 (nn x.f)) := (blk_cell B7 5).trans rfl
  have d6 : W5.cell? ⟨G, 6, none⟩ = some (.int .u64 (nn x.g)) := (blk_cell B7 6).trans rfl
  have d7 : W5.cell? ⟨G, 7, none⟩ = some (.int .u64 (nn x.h)) := (blk_cell B7 7).trans rfl
  have z0 := blk_frozen B7 0
  have z1 := blk_frozen B7 1
  have z2 := blk_frozen B7 2
  have z3 := blk_frozen B7 3
  have z4 := blk_frozen B7 4
  have z5 := blk_frozen B7 5
  have z6 := blk_frozen B7 6
  have z7 := blk_frozen B7 7
  have R := blk_set8 B7 (.int .u64 (nn s.a)) (.int .u64 (nn s.b)) (.int .u64 (nn s.c)) (.int .u64 (nn s.d)) (.int .u64 (nn s.e)) (.int .u64 (nn s.f)) (.int .u64 (nn s.g)) (.int .u64 (nn s.h))
  have RB := ((((((((b5.setCell (p := ⟨G, 0, none⟩) hG (.int .u64 (nn s.a))).setCell (p := ⟨G, 1, none⟩) hG (.int .u64 (nn s.b))).setCell (p := ⟨G, 2, none⟩) hG (.int .u64 (nn s.c))).setCell (p := ⟨G, 3, none⟩) hG (.int .u64 (nn s.d))).setCell (p := ⟨G, 4, none⟩) hG (.int .u64 (nn s.e))).setCell (p := ⟨G, 5, none⟩) hG (.int .u64 (nn s.f))).setCell (p := ⟨G, 6, none⟩) hG (.int .u64 (nn s.g))).setCell (p := ⟨G, 7, none⟩) hG (.int .u64 (nn s.h)))
  have RZ : G < (((((((((W5.setCell ⟨G, 0, none⟩ (.int .u64 (nn s.a))).setCell ⟨G, 1, none⟩ (.int .u64 (nn s.b))).setCell ⟨G, 2, none⟩ (.int .u64 (nn s.c))).setCell ⟨G, 3, none⟩ (.int .u64 (nn s.d))).setCell ⟨G, 4, none⟩ (.int .u64 (nn s.e))).setCell ⟨G, 5, none⟩ (.int .u64 (nn s.f))).setCell ⟨G, 6, none⟩ (.int .u64 (nn s.g))).setCell ⟨G, 7, none⟩ (.int .u64 (nn s.h)))).heap.size := by simpa using SZ5
  have RR := Aside0.mk R
  have RC := Aside0.mk RB
  have RS := Aside0.mk RZ
  clear R RB RZ B7 b5 SZ5
  unfold stCells64
  go_wp2
  clear d0 d1 d2 d3 d4 d5 d6 d7 z0 z1 z2 z3 z4 z5 z6 z7
  have BG : (((((((((W5.setCell ⟨G, 0, none⟩ (.int .u64 (nn s.a))).setCell ⟨G, 1, none⟩ (.int .u64 (nn s.b))).setCell ⟨G, 2, none⟩ (.int .u64 (nn s.c))).setCell ⟨G, 3, none⟩ (.int .u64 (nn s.d))).setCell ⟨G, 4, none⟩ (.int .u64 (nn s.e))).setCell ⟨G, 5, none⟩ (.int .u64 (nn s.f))).setCell ⟨G, 6, none⟩ (.int .u64 (nn s.g))).setCell ⟨G, 7, none⟩ (.int .u64 (nn s.h)))).heap[G]? = some (.cells (stCells64 s) 73 (0, 0)) := RR.out
  have BC := RC.out
  have BS := RS.out
  clear RR RC RS
  generalize ((((((((W5.setCell ⟨G, 0, none⟩ (.int .u64 (nn s.a))).setCell ⟨G, 1, none⟩ (.int .u64 (nn s.b))).setCell ⟨G, 2, none⟩ (.int .u64 (nn s.c))).setCell ⟨G, 3, none⟩ (.int .u64 (nn s.d))).setCell ⟨G, 4, none⟩ (.int .u64 (nn s.e))).setCell ⟨G, 5, none⟩ (.int .u64 (nn s.f))).setCell ⟨G, 6, none⟩ (.int .u64 (nn s.g))).setCell ⟨G, 7, none⟩ (.int .u64 (nn s.h))) = W6 at *
  go_loopw [10, 11] (fun v10 v11 wr => ∃ i : Nat, i ≤ 8 ∧ v11 = .int .i64 i ∧ Kd.R (Kd.int .u8) 5 wr w.heap.size (fun k_ => k_ ≠ G) v10 (digTo s i) ∧ wr.heap[G]? = some (.cells (stCells64 s) 73 (0, 0)) ∧ G < wr.heap.size ∧ Below w.heap.size w wr) (fun _ v11 _ => 8 - (intOf v11).toNat)
  case atStart => exact ⟨0, by omega, rfl, Kd.R_nil _ _ _ _ _, BG, BS, BC⟩
  case round =>
    clear BG BS BC
    obtain ⟨i, hi, rfl, HO, BG, BS, HB⟩ := hrel
    have hlen := Aside0.mk (digTo_len s i)
    obtain ⟨Ao, co, eo⟩ := Kd.R_slice HO
    subst eo
    rcases Nat.lt_or_ge i 8 with hil | hil
    · have hl32 : decide (((digTo s i).length : Int) < 32) = true := by rw [hlen.out]; simp; omega
      go_wp2_with fail
      refine (cofferref01_Size.calls 256 32 _ size256).mono ?_
      rintro e V0 ⟨rfl, hd0⟩
      have HO0 := Kd.R_below HO hd0.below
      have BG0 := blk_below BG hd0.below
      have BS0 : G < V0.heap.size := Nat.lt_of_lt_of_le BS hd0.below.size
      have HB0 : Below w.heap.size w V0 := HB.trans (hd0.below.mono HB.size)
      clear HO BG BS HB hd0
      have hi0 : (0 : Int) ≤ (i : Int) := by omega
      have hi8 : (i : Int) < 8 := by omega
      go_wp2_with fail
      refine wp_loop_rounds 5 ?_
      rw [rounds_succ]
      obtain ⟨y, hy⟩ : ∃ y, Aside0 (stf s i = y) := ⟨_, ⟨rfl⟩⟩
      have hl0 : decide (((digTo s i).length : Int) < 32) = true := by rw [hlen.out]; simp; omega
      go_wp2_with fail
      refine (cofferref01_Size.calls 256 32 _ size256).mono ?_
      rintro e U0 ⟨rfl, hd0⟩
      have HOa0 := Kd.R_below HO0 hd0.below
      have BGa0 := blk_below BG0 hd0.below
      have BSa0 : G < U0.heap.size := Nat.lt_of_lt_of_le BS0 hd0.below.size
      have HBa0 : Below w.heap.size w U0 := HB0.trans (hd0.below.mono HB0.size)
      clear HO0 BG0 BS0 HB0 hd0
      have hc0 : U0.cell? ⟨G, i, none⟩ = some (.int .u64 (nn y)) := by rw [← hy.out]; exact (blk_cell BGa0 i).trans (stCells64_word s i hil)
      go_wp2_with ((with_reducible refine gate_builtin (b := .append) (xs := #[.tmp 62, .tmp 71]) rfl ?_); at_builtin; refine Kd.R_append (Kd.int .u8) (w0 := w) w.heap.size rfl (.tmp 62) (.tmp 71) 25 5 (.int .u8 0) 1 rfl Tryd.underlying25 n44.info5 rfl (by decide) (by omega) (.slice Ao (digTo s i).length co) (digTo s i) (nn y / 16777216 % 256) [.int .u8 (nn y / 16777216 % 256)] (fun k_ => k_ ≠ G) (fun _ => False) rfl rfl ?aP (fun _ hk => hk.elim) ?aF ?aO ?aB ?aS ?aL ?_; (case aP => exact rfl); (case aF => exact (fun k_ hk => by omega)); (case aO => exact HOa0); (case aB => exact HBa0); (case aS => exact HBa0.size); (case aL => rw [hlen.out]; omega); intro v0 V1 ho0 hb0 hg0 hat0)
      have BG1 := blk_grown BGa0 hg0 (fun e => HOa0.1 _ e.symm rfl)
      have BS1 : G < V1.heap.size := Nat.lt_of_lt_of_le BSa0 hg0.size
      have HB1 := hb0
      obtain ⟨L1, hL1⟩ : ∃ L, Aside0 (L = (digTo s i) ++ [nn y / 16777216 % 256]) := ⟨_, ⟨rfl⟩⟩
      have hlen1 : Aside0 (L1.length = 4 * i + 1) := ⟨by rw [hL1.out, List.length_append, hlen.out]; rfl⟩
      rw [← hL1.out] at ho0
      have HO1 := ho0
      obtain ⟨A1, c1, eo1⟩ := Kd.R_slice HO1
      subst eo1
      clear HOa0 BGa0 BSa0 HBa0 hc0 ho0 hb0 hg0 hat0 hl0
      rw [rounds_succ]
      have hl1 : decide ((L1.length : Int) < 32) = true := by rw [hlen1.out]; simp; omega
      go_wp2_with fail
      refine (cofferref01_Size.calls 256 32 _ size256).mono ?_
      rintro e U1 ⟨rfl, hd1⟩
      have HOa1 := Kd.R_below HO1 hd1.below
      have BGa1 := blk_below BG1 hd1.below
      have BSa1 : G < U1.heap.size := Nat.lt_of_lt_of_le BS1 hd1.below.size
      have HBa1 : Below w.heap.size w U1 := HB1.trans (hd1.below.mono HB1.size)
      clear HO1 BG1 BS1 HB1 hd1
      have hc1 : U1.cell? ⟨G, i, none⟩ = some (.int .u64 (nn y)) := by rw [← hy.out]; exact (blk_cell BGa1 i).trans (stCells64_word s i hil)
      go_wp2_with ((with_reducible refine gate_builtin (b := .append) (xs := #[.tmp 62, .tmp 71]) rfl ?_); at_builtin; refine Kd.R_append (Kd.int .u8) (w0 := w) w.heap.size rfl (.tmp 62) (.tmp 71) 25 5 (.int .u8 0) 1 rfl Tryd.underlying25 n44.info5 rfl (by decide) (by omega) (.slice A1 L1.length c1) L1 (nn y / 65536 % 256) [.int .u8 (nn y / 65536 % 256)] (fun k_ => k_ ≠ G) (fun _ => False) rfl rfl ?aP (fun _ hk => hk.elim) ?aF ?aO ?aB ?aS ?aL ?_; (case aP => exact rfl); (case aF => exact (fun k_ hk => by omega)); (case aO => exact HOa1); (case aB => exact HBa1); (case aS => exact HBa1.size); (case aL => rw [hlen1.out]; omega); intro v1 V2 ho1 hb1 hg1 hat1)
      have BG2 := blk_grown BGa1 hg1 (fun e => HOa1.1 _ e.symm rfl)
      have BS2 : G < V2.heap.size := Nat.lt_of_lt_of_le BSa1 hg1.size
      have HB2 := hb1
      obtain ⟨L2, hL2⟩ : ∃ L, Aside0 (L = L1 ++ [nn y / 65536 % 256]) := ⟨_, ⟨rfl⟩⟩
      have hlen2 : Aside0 (L2.length = 4 * i + 2) := ⟨by rw [hL2.out, List.length_append, hlen1.out]; rfl⟩
      rw [← hL2.out] at ho1
      have HO2 := ho1
      obtain ⟨A2, c2, eo2⟩ := Kd.R_slice HO2
      subst eo2
      clear HOa1 BGa1 BSa1 HBa1 hc1 ho1 hb1 hg1 hat1 hl1
      rw [rounds_succ]
      have hl2 : decide ((L2.length : Int) < 32) = true := by rw [hlen2.out]; simp; omega
      go_wp2_with fail
      refine (cofferref01_Size.calls 256 32 _ size256).mono ?_
      rintro e U2 ⟨rfl, hd2⟩
      have HOa2 := Kd.R_below HO2 hd2.below
      have BGa2 := blk_below BG2 hd2.below
      have BSa2 : G < U2.heap.size := Nat.lt_of_lt_of_le BS2 hd2.below.size
      have HBa2 : Below w.heap.size w U2 := HB2.trans (hd2.below.mono HB2.size)
      clear HO2 BG2 BS2 HB2 hd2
      have hc2 : U2.cell? ⟨G, i, none⟩ = some (.int .u64 (nn y)) := by rw [← hy.out]; exact (blk_cell BGa2 i).trans (stCells64_word s i hil)
      go_wp2_with ((with_reducible refine gate_builtin (b := .append) (xs := #[.tmp 62, .tmp 71]) rfl ?_); at_builtin; refine Kd.R_append (Kd.int .u8) (w0 := w) w.heap.size rfl (.tmp 62) (.tmp 71) 25 5 (.int .u8 0) 1 rfl Tryd.underlying25 n44.info5 rfl (by decide) (by omega) (.slice A2 L2.length c2) L2 (nn y / 256 % 256) [.int .u8 (nn y / 256 % 256)] (fun k_ => k_ ≠ G) (fun _ => False) rfl rfl ?aP (fun _ hk => hk.elim) ?aF ?aO ?aB ?aS ?aL ?_; (case aP => exact rfl); (case aF => exact (fun k_ hk => by omega)); (case aO => exact HOa2); (case aB => exact HBa2); (case aS => exact HBa2.size); (case aL => rw [hlen2.out]; omega); intro v2 V3 ho2 hb2 hg2 hat2)
      have BG3 := blk_grown BGa2 hg2 (fun e => HOa2.1 _ e.symm rfl)
      have BS3 : G < V3.heap.size := Nat.lt_of_lt_of_le BSa2 hg2.size
      have HB3 := hb2
      obtain ⟨L3, hL3⟩ : ∃ L, Aside0 (L = L2 ++ [nn y / 256 % 256]) := ⟨_, ⟨rfl⟩⟩
      have hlen3 : Aside0 (L3.length = 4 * i + 3) := ⟨by rw [hL3.out, List.length_append, hlen2.out]; rfl⟩
      rw [← hL3.out] at ho2
      have HO3 := ho2
      obtain ⟨A3, c3, eo3⟩ := Kd.R_slice HO3
      subst eo3
      clear HOa2 BGa2 BSa2 HBa2 hc2 ho2 hb2 hg2 hat2 hl2
      rw [rounds_succ]
      have hl3 : decide ((L3.length : Int) < 32) = true := by rw [hlen3.out]; simp; omega
      go_wp2_with fail
      refine (cofferref01_Size.calls 256 32 _ size256).mono ?_
      rintro e U3 ⟨rfl, hd3⟩
      have HOa3 := Kd.R_below HO3 hd3.below
      have BGa3 := blk_below BG3 hd3.below
      have BSa3 : G < U3.heap.size := Nat.lt_of_lt_of_le BS3 hd3.below.size
      have HBa3 : Below w.heap.size w U3 := HB3.trans (hd3.below.mono HB3.size)
      clear HO3 BG3 BS3 HB3 hd3
      have hc3 : U3.cell? ⟨G, i, none⟩ = some (.int .u64 (nn y)) := by rw [← hy.out]; exact (blk_cell BGa3 i).trans (stCells64_word s i hil)
      go_wp2_with ((with_reducible refine gate_builtin (b := .append) (xs := #[.tmp 62, .tmp 71]) rfl ?_); at_builtin; refine Kd.R_append (Kd.int .u8) (w0 := w) w.heap.size rfl (.tmp 62) (.tmp 71) 25 5 (.int .u8 0) 1 rfl Tryd.underlying25 n44.info5 rfl (by decide) (by omega) (.slice A3 L3.length c3) L3 (nn y % 256) [.int .u8 (nn y % 256)] (fun k_ => k_ ≠ G) (fun _ => False) rfl rfl ?aP (fun _ hk => hk.elim) ?aF ?aO ?aB ?aS ?aL ?_; (case aP => exact rfl); (case aF => exact (fun k_ hk => by omega)); (case aO => exact HOa3); (case aB => exact HBa3); (case aS => exact HBa3.size); (case aL => rw [hlen3.out]; omega); intro v3 V4 ho3 hb3 hg3 hat3)
      have BG4 := blk_grown BGa3 hg3 (fun e => HOa3.1 _ e.symm rfl)
      have BS4 : G < V4.heap.size := Nat.lt_of_lt_of_le BSa3 hg3.size
      have HB4 := hb3
      obtain ⟨L4, hL4⟩ : ∃ L, Aside0 (L = L3 ++ [nn y % 256]) := ⟨_, ⟨rfl⟩⟩
      have hlen4 : Aside0 (L4.length = 4 * i + 4) := ⟨by rw [hL4.out, List.length_append, hlen3.out]; rfl⟩
      rw [← hL4.out] at ho3
      have HO4 := ho3
      obtain ⟨A4, c4, eo4⟩ := Kd.R_slice HO4
      subst eo4
      clear HOa3 BGa3 BSa3 HBa3 hc3 ho3 hb3 hg3 hat3 hl3
      rw [rounds_succ]
      go_wp2
      have hL : L4 = digTo s (i + 1) := by
        rw [digTo_succ, hy.out, hL4.out, hL3.out, hL2.out, hL1.out]
        simp only [List.append_assoc, List.cons_append, List.nil_append, wbytes]
      rw [hL] at HO4
      refine ⟨⟨i + 1, by omega, by simp, by rw [hL]; exact HO4, BG4, BS4, HB4⟩, ?_⟩
      simp only [intOf]
      omega
    · obtain rfl : i = 8 := by omega
      have hl32 : decide (((digTo s 8).length : Int) < 32) = false := by rw [hlen.out]; simp
      go_wp2_with fail
      refine (cofferref01_Size.calls 256 32 _ size256).mono ?_
      rintro e V0 ⟨rfl, hd0⟩
      have HO0 := Kd.R_below HO hd0.below
      have HB0 : Below w.heap.size w V0 := HB.trans (hd0.below.mono HB.size)
      go_wp2
      go_ret
      exact ⟨.slice Ao (digTo s 8).length co, rfl, by rw [HS.out]; exact Kd.R_mono HO0 (fun _ _ => trivial), HB0⟩
end Go.Proofs.YtglcapkmeecknaaDoor.s28
/-! ## B72 -/
namespace Go.Proofs.YtglcapkmeecknaaDoor.b72
open Go Go.RowKit Go.Proofs.YtglcapkmeecknaaDoor.sha Go.Proofs.YtglcapkmeecknaaDoor.mem Go.Proofs.YtglcapkmeecknaaDoorW.PrintWords Go.Proofs.YtglcapkmeecknaaDoorW.PrintLast Go.Proofs.YtglcapkmeecknaaDoorW.PrintMore
set_option linter.unusedVariables false
set_option linter.unusedSimpArgs false
attribute [local go_sem] nn_mod nn_wrap nn_wrap64 nn_mod64
set_option maxHeartbeats 2000000 in
set_option maxRecDepth 100000 in
theorem big_call (x : BitVec 32) (w0 w : World) (G : Nat) (o : Obj) (v : Value) (L : List Int) (n : Nat) (hL : L.length = n) (hn : n ≤ 1000) (hB : Below w0.heap.size w0 w) (ho : Kd.R (Kd.int .u8) 5 w w0.heap.size (fun k_ => k_ ≠ G) v L) (hG : w.heap[G]? = some o) :
    Calls Tryd.prog 72 #[v, .int .u64 (nn x), .int .i64 4] w fun e w' => ∃ v', e = .returned v' ∧ Kd.R (Kd.int .u8) 5 w' w0.heap.size (fun k_ => k_ ≠ G) v' (L ++ wbytes x) ∧ w'.heap[G]? = some o ∧ Below w0.heap.size w0 w' := by
  have hlen0 := Aside0.mk hL
  clear hL
  obtain ⟨L0, hL0⟩ : ∃ L', Aside0 (L' = L) := ⟨_, ⟨rfl⟩⟩
  rw [← hL0.out] at hlen0 ho ⊢
  clear hL0
  have HO0 := ho
  obtain ⟨A0, c0, eo0⟩ := Kd.R_slice HO0
  subst eo0
  have BG0 := hG
  have BS0 : G < w.heap.size := blk_lt hG
  have HB0 := hB
  clear ho hG hB
  go_enter Tryd.func72, Tryd.ntmps72
  go_wp2_with fail
  refine wp_loop_rounds 5 ?_
  rw [rounds_succ]
  have hn0 : 0 ≤ nn x / 16777216 := Int.ediv_nonneg (nn_lo x) (by omega)
  go_wp2_with ((with_reducible refine gate_builtin (b := .append) (xs := #[.tmp 14, .tmp 20]) rfl ?_); at_builtin; refine Kd.R_append (Kd.int .u8) (w0 := w0) w0.heap.size rfl (.tmp 14) (.tmp 20) 25 5 (.int .u8 0) 1 rfl Tryd.underlying25 n44.info5 rfl (by decide) (by omega) (.slice A0 L0.length c0) L0 (nn x / 16777216 % 256) [.int .u8 (nn x / 16777216 % 256)] (fun k_ => k_ ≠ G) (fun _ => False) rfl rfl ?aP (fun _ hk => hk.elim) ?aF ?aO ?aB ?aS ?aL ?_; (case aP => exact rfl); (case aF => exact (fun k_ hk => by omega)); (case aO => exact HO0); (case aB => exact HB0); (case aS => exact HB0.size); (case aL => rw [hlen0.out]; omega); intro v0 V1 ho0 hb0 hg0 hat0)
  have BG1 := blk_grown BG0 hg0 (fun e => HO0.1 _ e.symm rfl)
  have BS1 : G < V1.heap.size := Nat.lt_of_lt_of_le BS0 hg0.size
  have HB1 := hb0
  obtain ⟨L1, hL1⟩ : ∃ L', Aside0 (L' = L0 ++ [nn x / 16777216 % 256]) := ⟨_, ⟨rfl⟩⟩
  have hlen1 : Aside0 (L1.length = n + 1) := ⟨by rw [hL1.out, List.length_append, hlen0.out]; rfl⟩
  rw [← hL1.out] at ho0
  have HO1 := ho0
  obtain ⟨A1, c1, eo1⟩ := Kd.R_slice HO1
  subst eo1
  clear HO0 BG0 BS0 HB0 ho0 hb0 hg0 hat0
  rw [rounds_succ]
  have hn1 : 0 ≤ nn x / 65536 := Int.ediv_nonneg (nn_lo x) (by omega)
  go_wp2_with ((with_reducible refine gate_builtin (b := .append) (xs := #[.tmp 14, .tmp 20]) rfl ?_); at_builtin; refine Kd.R_append (Kd.int .u8) (w0 := w0) w0.heap.size rfl (.tmp 14) (.tmp 20) 25 5 (.int .u8 0) 1 rfl Tryd.underlying25 n44.info5 rfl (by decide) (by omega) (.slice A1 L1.length c1) L1 (nn x / 65536 % 256) [.int .u8 (nn x / 65536 % 256)] (fun k_ => k_ ≠ G) (fun _ => False) rfl rfl ?aP (fun _ hk => hk.elim) ?aF ?aO ?aB ?aS ?aL ?_; (case aP => exact rfl); (case aF => exact (fun k_ hk => by omega)); (case aO => exact HO1); (case aB => exact HB1); (case aS => exact HB1.size); (case aL => rw [hlen1.out]; omega); intro v1 V2 ho1 hb1 hg1 hat1)
  have BG2 := blk_grown BG1 hg1 (fun e => HO1.1 _ e.symm rfl)
  have BS2 : G < V2.heap.size := Nat.lt_of_lt_of_le BS1 hg1.size
  have HB2 := hb1
  obtain ⟨L2, hL2⟩ : ∃ L', Aside0 (L' = L1 ++ [nn x / 65536 % 256]) := ⟨_, ⟨rfl⟩⟩
  have hlen2 : Aside0 (L2.length = n + 2) := ⟨by rw [hL2.out, List.length_append, hlen1.out]; rfl⟩
  rw [← hL2.out] at ho1
  have HO2 := ho1
  obtain ⟨A2, c2, eo2⟩ := Kd.R_slice HO2
  subst eo2
  clear HO1 BG1 BS1 HB1 ho1 hb1 hg1 hat1
  rw [rounds_succ]
  have hn2 : 0 ≤ nn x / 256 := Int.ediv_nonneg (nn_lo x) (by omega)
  go_wp2_with ((with_reducible refine gate_builtin (b := .append) (xs := #[.tmp 14, .tmp 20]) rfl ?_); at_builtin; refine Kd.R_append (Kd.int .u8) (w0 := w0) w0.heap.size rfl (.tmp 14) (.tmp 20) 25 5 (.int .u8 0) 1 rfl Tryd.underlying25 n44.info5 rfl (by decide) (by omega) (.slice A2 L2.length c2) L2 (nn x / 256 % 256) [.int .u8 (nn x / 256 % 256)] (fun k_ => k_ ≠ G) (fun _ => False) rfl rfl ?aP (fun _ hk => hk.elim) ?aF ?aO ?aB ?aS ?aL ?_; (case aP => exact rfl); (case aF => exact (fun k_ hk => by omega)); (case aO => exact HO2); (case aB => exact HB2); (case aS => exact HB2.size); (case aL => rw [hlen2.out]; omega); intro v2 V3 ho2 hb2 hg2 hat2)
  have BG3 := blk_grown BG2 hg2 (fun e => HO2.1 _ e.symm rfl)
  have BS3 : G < V3.heap.size := Nat.lt_of_lt_of_le BS2 hg2.size
  have HB3 := hb2
  obtain ⟨L3, hL3⟩ : ∃ L', Aside0 (L' = L2 ++ [nn x / 256 % 256]) := ⟨_, ⟨rfl⟩⟩
  have hlen3 : Aside0 (L3.length = n + 3) := ⟨by rw [hL3.out, List.length_append, hlen2.out]; rfl⟩
  rw [← hL3.out] at ho2
  have HO3 := ho2
  obtain ⟨A3, c3, eo3⟩ := Kd.R_slice HO3
  subst eo3
  clear HO2 BG2 BS2 HB2 ho2 hb2 hg2 hat2
  rw [rounds_succ]
  have hn3 : 0 ≤ nn x / 1 := Int.ediv_nonneg (nn_lo x) (by omega)
  go_wp2_with ((with_reducible refine gate_builtin (b := .append) (xs := #[.tmp 14, .tmp 20]) rfl ?_); at_builtin; refine Kd.R_append (Kd.int .u8) (w0 := w0) w0.heap.size rfl (.tmp 14) (.tmp 20) 25 5 (.int .u8 0) 1 rfl Tryd.underlying25 n44.info5 rfl (by decide) (by omega) (.slice A3 L3.length c3) L3 (nn x % 256) [.int .u8 (nn x % 256)] (fun k_ => k_ ≠ G) (fun _ => False) rfl rfl ?aP (fun _ hk => hk.elim) ?aF ?aO ?aB ?aS ?aL ?_; (case aP => exact rfl); (case aF => exact (fun k_ hk => by omega)); (case aO => exact HO3); (case aB => exact HB3); (case aS => exact HB3.size); (case aL => rw [hlen3.out]; omega); intro v3 V4 ho3 hb3 hg3 hat3)
  have BG4 := blk_grown BG3 hg3 (fun e => HO3.1 _ e.symm rfl)
  have BS4 : G < V4.heap.size := Nat.lt_of_lt_of_le BS3 hg3.size
  have HB4 := hb3
  obtain ⟨L4, hL4⟩ : ∃ L', Aside0 (L' = L3 ++ [nn x % 256]) := ⟨_, ⟨rfl⟩⟩
  have hlen4 : Aside0 (L4.length = n + 4) := ⟨by rw [hL4.out, List.length_append, hlen3.out]; rfl⟩
  rw [← hL4.out] at ho3
  have HO4 := ho3
  obtain ⟨A4, c4, eo4⟩ := Kd.R_slice HO4
  subst eo4
  clear HO3 BG3 BS3 HB3 ho3 hb3 hg3 hat3
  rw [rounds_succ]
  go_wp2
  go_ret
  refine ⟨.slice A4 L4.length c4, rfl, ?_, BG4, HB4⟩
  have e : L4 = L0 ++ wbytes x := by
    rw [hL4.out, hL3.out, hL2.out, hL1.out]
    simp only [List.append_assoc, List.cons_append, List.nil_append, wbytes]
  rw [← e]
  exact HO4
end Go.Proofs.YtglcapkmeecknaaDoor.b72
/-! ## E61 -/
namespace Go.Proofs.YtglcapkmeecknaaDoor.e61
open Go Go.RowKit Go.Proofs.YtglcapkmeecknaaDoor.sha Go.Proofs.YtglcapkmeecknaaDoor.mem Go.Proofs.YtglcapkmeecknaaDoor.k70 Go.Proofs.YtglcapkmeecknaaDoor.b58 Go.Proofs.YtglcapkmeecknaaDoorW.PrintWords Go.Proofs.YtglcapkmeecknaaDoorW.PrintLast Go.Proofs.YtglcapkmeecknaaDoorW.PrintMore
set_option linter.unusedVariables false
set_option linter.unusedSimpArgs false
attribute [local go_sem] nn_mod nn_wrap nn_wrap64 nn_mod64
/-- What stands behind so many whole blocks: one block more; its first k bytes from the end. -/
def padAt (bits : Int) (k q : Nat) : Int := if q = 0 then 128 else if 64 ≤ q + k then bits / (2 : Int) ^ (8 * (63 - q)) % 256 else 0
def padOf (bits : Int) : List Int := (List.range 64).map (padAt bits 8)
theorem padOf_len (bits : Int) : (padOf bits).length = 64 := by simp [padOf]
theorem padOf_rng (bits : Int) : ∀ x ∈ padOf bits, 0 ≤ x ∧ x < 256 := by
  intro x hx
  obtain ⟨q, _, rfl⟩ := List.mem_map.1 hx
  unfold padAt
  split
  · omega
  · split
    · omega
    · omega
theorem C_of_cells {w : World} {g o : Nat} {xs : List Int} (hl : xs.length ≤ 9223372036854775807) (h : ∀ j, j < xs.length → w.cell? ⟨g, o + j, none⟩ = some (.int .u8 (xs.getD j 0))) : Kd.C (Kd.int .u8) w (some ⟨g, o, none⟩) xs.length xs :=
  Kd.C_of_reads (enc := Value.int .u8) (h1 := fun _ => rfl) (d := (0 : Int)) ⟨rfl, hl, fun _ => ⟨_, rfl, fun j hj => by
    rw [show (⟨g, o, none⟩ : Addr).add j = ⟨g, o + j, none⟩ by unfold Addr.add; split <;> simp_all]
    exact h j hj⟩⟩
theorem info22 : (Tryd.prog.info? 22).map (fun i => i.size) = some 1 := by kernel_rfl
theorem index73 (xs : Array Value) (k : Nat) (x : BitVec 32) (hk : k < 8) (hv : xs[k]? = some (.int .u64 (nn x))) : ∀ W : World, (Instr.index 73 (.agg xs) (.int .i64 (k : Int))).run Tryd.prog W = .ok (.int .u64 (nn x)) W := by
  intro W
  obtain ⟨i, hi, hs⟩ : ∃ i, Tryd.prog.info? 22 = some i ∧ i.size = 1 := by
    have h := info22
    cases e : Tryd.prog.info? 22 with
    | none => rw [e] at h; cases h
    | some i => rw [e] at h; exact ⟨i, rfl, Option.some.inj h⟩
  have h1 : (0 : Int) ≤ (k : Int) := by omega
  simp [Instr.index, run_underlying Tryd.underlying73, asIntOf, h1, sizeOf, typeInfo, hi, hs, go_sem, hv, part]
  intro h
  omega
structure PadTo (bits : Int) (k : Nat) (L : Array Value) : Prop where
  size : L.size = 256
  at_ : ∀ q, q < 64 → L[q]? = some (.int .u8 (padAt bits k q))
theorem zero115 : Tryd.zeroCells115 = Array.replicate 256 (.int .u8 0) := by kernel_rfl
theorem pad_zero (bits : Int) : PadTo bits 0 (Tryd.zeroCells115.setIfInBounds 0 (.int .u8 128)) := by
  rw [zero115]
  refine ⟨by simp, fun q hq => ?_⟩
  rw [Array.getElem?_setIfInBounds]
  by_cases e : 0 = q
  · subst e; simp [padAt]
  · rw [if_neg e, Array.getElem?_replicate, if_pos (by omega)]
    unfold padAt
    rw [if_neg (by omega), if_neg (by omega)]
theorem pad_step {bits : Int} {k : Nat} {L : Array Value} (h : PadTo bits k L) (hk : k < 8) {x : Int} (hx : x = bits / (2 : Int) ^ (8 * k) % 256) : PadTo bits (k + 1) (L.setIfInBounds (63 - k) (.int .u8 x)) := by
  refine ⟨by rw [Array.size_setIfInBounds, h.size], fun q hq => ?_⟩
  rw [Array.getElem?_setIfInBounds]
  by_cases e : 63 - k = q
  · subst e
    rw [if_pos rfl, if_pos (by rw [h.size]; omega), hx]
    unfold padAt
    rw [if_neg (by omega), if_pos (by omega), show 63 - (63 - k) = k by omega]
  · rw [if_neg e, h.at_ q hq]
    unfold padAt
    by_cases h0 : q = 0
    · rw [if_pos h0, if_pos h0]
    · rw [if_neg h0, if_neg h0]
      by_cases h1 : 64 ≤ q + k
      · rw [if_pos h1, if_pos (by omega)]
      · rw [if_neg h1, if_neg (by omega)]
set_option maxHeartbeats 2000000 in
set_option maxRecDepth 100000 in
theorem end_call (kf : Nat → BitVec 32) (cub : Nat → Int) (hcub : ∀ t, t < 64 → 0 ≤ cub t ∧ cub t < 18446744073709551616 ∧ cub t / 4294967296 = nn (kf t)) (s : St) (half : List Value) (hh : half.length = 128)
    (count : Int) (hc0 : 0 ≤ count) (hc1 : count < 1099511627776) (hcm : count % 64 = 0)
    (w : World) (hg5 : 5 < w.heap.size) (htab : ∀ t, t < 64 → w.cell? ⟨5, t, none⟩ = some (.int .u64 (cub t))) :
    Calls Tryd.prog 61 #[.agg (stateCells count s half)] w fun e w' => ∃ a c, e = .returned (.slice (some a) 32 c) ∧ w.heap.size ≤ a.block ∧ 32 ≤ c ∧ Kd.C (Kd.int .u8) w' (some a) 32 (dig (taken kf s (padOf (count * 8)))) ∧ Below w.heap.size w w' := by
  have hsz : (stateCells count s half).size = 142 := by rw [state_size, hh]
  obtain ⟨cs, hcs⟩ : ∃ cs, Aside0 (cs = stateCells count s half) := ⟨_, ⟨rfl⟩⟩
  rw [← hcs.out] at hsz ⊢
  go_enter Tryd.func61, Tryd.ntmps61
  go_wp2_with (first | ((with_reducible refine gate_dst (N := 1) rfl ?_); refine box_event ?hg (N := 1) ?hd (cs := cs) (t := 102) ?hr ?_; (case hd => rfl); (case hg => rfl); (case hr => first | (go_simp; done) | (go_simp; rfl)); intro g hg W1 BG hb1; subst hg; generalize hn : w.heap.size = n at *; have HN := Aside0.mk hn; clear hn; have c1 : W1.cell? ⟨n, 1, none⟩ = some (.int .i64 64) := (blk_cell BG 1).trans (by rw [hcs.out, state_at]; rfl); have c5 : W1.cell? ⟨n, 5, none⟩ = some (.int .u64 count) := (blk_cell BG 5).trans (by rw [hcs.out, state_at]; rfl); have c2 : W1.cell? ⟨n, 2, none⟩ = some (.int .i64 4) := (blk_cell BG 2).trans (by rw [hcs.out, state_at]; rfl)) | fail)
  have BP : (W1.alloc (.cells (Tryd.zeroCells115.setIfInBounds 0 (.int .u8 128)) 115)).heap[W1.heap.size]? = some (.cells (Tryd.zeroCells115.setIfInBounds 0 (.int .u8 128)) 115 (0, 0)) := blk_new W1 _
  have BG1 := blk_alloc BG (.cells (Tryd.zeroCells115.setIfInBounds 0 (.int .u8 128)) 115)
  have hnV : n < W1.heap.size := blk_lt BG
  have HB1 := hb1.alloc (by omega) (.cells (Tryd.zeroCells115.setIfInBounds 0 (.int .u8 128)) 115)
  have SZ : W1.heap.size < (W1.alloc (.cells (Tryd.zeroCells115.setIfInBounds 0 (.int .u8 128)) 115)).heap.size := by simp
  have hp := pad_zero (count * 8)
  clear c1 c2 c5 hb1 BG
  generalize Tryd.zeroCells115.setIfInBounds 0 (.int .u8 128) = L at *
  generalize W1.heap.size = V at *
  generalize W1.alloc (.cells L 115) = W2 at *
  go_loopw [5] (fun v5 wr => ∃ j : Nat, 1 ≤ j ∧ j ≤ 56 ∧ v5 = .int .i64 j ∧ Below W2.heap.size W2 wr) (fun v5 _ => 56 - (intOf v5).toNat)
  case atStart => exact ⟨1, by omega, by omega, rfl, Below.refl _ _⟩
  case round =>
    obtain ⟨j, hj1, hj, rfl, HW⟩ := hrel
    have BG2 := blk_below BG1 HW
    have c1 : wr.cell? ⟨n, 1, none⟩ = some (.int .i64 64) := (blk_cell BG2 1).trans (by rw [hcs.out, state_at]; rfl)
    have c5 : wr.cell? ⟨n, 5, none⟩ = some (.int .u64 count) := (blk_cell BG2 5).trans (by rw [hcs.out, state_at]; rfl)
    have c2 : wr.cell? ⟨n, 2, none⟩ = some (.int .i64 4) := (blk_cell BG2 2).trans (by rw [hcs.out, state_at]; rfl)
    have e1 : IntKind.i64.wrap (j : Int) = (j : Int) := IntWalk.i64_in _ (by omega)
    have e2 : IntKind.i64.wrap ((j : Int) + 8) = (j : Int) + 8 := IntWalk.i64_in _ (by omega)
    have j0 : (0 : Int) ≤ (j : Int) := by omega
    rcases Nat.lt_or_ge j 56 with hjl | hjl
    · have e3 : ((j : Int) + 8).tmod 64 = (j : Int) + 8 := by rw [Int.tmod_eq_emod_of_nonneg (by omega)]; omega
      have e4 : (((j : Int) + 8) == 0) = false := by simp; omega
      go_wp2
      go_quiet (fail)
      go_wp2_with fail
      exact ⟨⟨j + 1, by omega, by omega, by go_num, below_drewN_ HW _⟩, by simp [intOf]; omega⟩
    · obtain rfl : j = 56 := by omega
      go_wp2
      go_quiet (fail)
      go_wp2_with fail
      have HB3 : Below n w (wr.drewN nq) := HB1.trans ((below_drewN_ HW nq).mono (by rw [← HN.out]; exact HB1.size))
      have BG3 := blk_drewN BG2 nq
      have BP3 := blk_drewN (blk_below BP HW) nq
      have SZ3 : V < (wr.drewN nq).heap.size := Nat.lt_of_lt_of_le SZ HW.size
      clear c1 c2 c5 BG2 HW BG1 BP HB1 SZ e1 e2 j0
      generalize wr.drewN nq = W3 at *
      rw [show ((56 : Nat) : Int) = (56 : Int) from rfl]
      go_loopw [42] (fun v42 wr => ∃ (k : Nat) (L' : Array Value), k ≤ 8 ∧ v42 = .int .i64 k ∧ PadTo (count * 8) k L' ∧ wr.heap[V]? = some (.cells L' 115 (0, 0)) ∧ Turn V W3 wr) (fun v42 _ => 8 - (intOf v42).toNat)
      case atStart => exact ⟨0, L, by omega, rfl, hp, BP3, Turn.refl _ _⟩
      case round =>
        clear hp BP3
        obtain ⟨k, L', hk, rfl, hp, BP, hT⟩ := hrel
        rcases Nat.lt_or_ge k 8 with hkl | hkl
        · have k0 : (0 : Int) ≤ (k : Int) := by omega
          have k8 : (k : Int) < 8 := by omega
          have i0 : (0 : Int) ≤ 63 - (k : Int) := by omega
          have i1 : 63 - (k : Int) < 256 := by omega
          have i2 : (63 - (k : Int)).toNat = 63 - k := by omega
          have hlt : decide ((k : Int) < 8) = true := by simp; omega
          have f3 : wr.frozen? ⟨V, 63 - k, none⟩ = false := blk_frozen BP (63 - k)
          have w3 : wr.cell? ⟨V, 63 - k, none⟩ = some (.int .u8 (padAt (count * 8) k (63 - k))) := (blk_cell BP (63 - k)).trans (hp.at_ _ (by omega))
          go_wp2
          exact ⟨⟨k + 1, _, by omega, by go_num, pad_step hp hkl rfl, blk_set BP _ _, hT.setCell _ _⟩, by simp [intOf]; omega⟩
        · obtain rfl : k = 8 := by omega
          rw [show ((8 : Nat) : Int) = (8 : Int) from rfl]
          have hlt : decide ((8 : Int) < 8) = false := by simp
          have BG4 := hT.blk BG3 (by omega)
          have HB4 : Below n w wr := Turn.below HB3 hT (by omega) (by omega)
          have SZ4 : V < wr.heap.size := Nat.lt_of_lt_of_le SZ3 hT.size
          clear hT BG3 HB3 SZ3 hk hkl
          obtain ⟨W4, hW4⟩ : ∃ W4 : World, W4 = wr := ⟨_, rfl⟩
          rw [← hW4] at BP BG4 HB4 SZ4 ⊢
          clear hW4
          go_wp2_with fail
          have hsrc : Src n W4 (some ⟨V, 0, none⟩) 256 (padOf (count * 8)) :=
            ⟨by rw [padOf_len]; omega, C_of_cells (by rw [padOf_len]; omega) (fun j hj => by
              rw [padOf_len] at hj
              rw [Nat.zero_add]
              refine ((blk_cell BP j).trans (hp.at_ j hj)).trans ?_
              unfold padOf
              rw [List.getD_eq_getElem?_getD, List.getElem?_map, List.getElem?_range hj]
              rfl), fun ad e => by cases e; show V ≠ n; omega, padOf_rng _⟩
          have hcall := t60.take_call kf cub hcub s half hh n 102 count hc0 hc1 hcm (some ⟨V, 0, none⟩) 256 (padOf (count * 8)) 1 (padOf_len _) (by omega) W4 hsrc hg5 (by rw [← hcs.out]; exact BG4) (fun t ht => (HB4.cell (p := ⟨5, t, none⟩) (by show 5 < n; omega)).trans (htab t ht))
          rw [padOf_len] at hcall
          refine hcall.mono ?_
          rintro e W5 ⟨⟨v5, rfl⟩, T5, BG5⟩
          have hup : upto kf s (padOf (count * 8)) 1 = taken kf s (padOf (count * 8)) := by
            show taken kf s (((padOf (count * 8)).take 64).drop 0) = _
            rw [List.take_of_length_le (by rw [padOf_len]; omega), List.drop_zero]
          rw [hup] at BG5
          clear hcall hsrc hup BP BG4 hp
          have HB5 : Below n w W5 := Turn.below HB4 T5 (Nat.le_refl _) (by omega)
          have SZ5 : V < W5.heap.size := Nat.lt_of_lt_of_le SZ4 T5.size
          clear HB4 SZ4 T5
          obtain ⟨s', hs'⟩ : ∃ s', Aside0 (s' = taken kf s (padOf (count * 8))) := ⟨_, ⟨rfl⟩⟩
          rw [← hs'.out] at BG5
          generalize hcc : count + 64 * ((1 : Nat) : Int) = count' at *
          clear hcc
          obtain ⟨i5, hi5, hz5, hs5, hb5⟩ := info_parts n78.info5
          obtain ⟨W6, hmk, hown, hgr⟩ := run_make_own (P := Tryd.prog) W5 n 25 5 i5 (.int .u8 0) 1 Tryd.underlying25 hi5 hz5 hs5 .i64 .i64 64 (by rw [hb5]; decide) (by decide) (by omega)
          rw [show ((64 : Nat) : Int) = (64 : Int) from rfl] at hmk
          have BG6 := blk_grown BG5 hgr (by simp)
          have HB6 : Below n w W6 := pw_below_grown HB5 none (by omega) hgr (by simp)
          have HO : Kd.R (Kd.int .u8) 5 W6 n (fun k_ => k_ ≠ n) (.slice (some ⟨W5.heap.size, 0, none⟩) 0 64) ([] : List Int) :=
            ⟨fun k hk => by
              have : W5.heap.size = k := by simpa [Value.ownBlock] using hk
              omega, [], hown, Reps.none _ _⟩
          have hVo : n < W5.heap.size := by omega
          clear BG5 HB5 hgr hown
          generalize W5.heap.size = O at *
          have hcnt : W6.rangeAt n 6 (stCells64 s').toList := fun j v hv => by
            have hj : j < 8 := by have := (List.getElem?_eq_some_iff.1 hv).1; simpa [stCells64] using this
            rw [(blk_cell BG6 (6 + j)), state_word _ _ _ j hj, ← hv, Array.getElem?_toList, stCells64_word s' j hj]
          go_wp2_with (first | ((with_reducible refine gate_ (.load 73 (.tmp 60)) rfl ?_); refine wpList_load_mid rfl 73 (.tmp 60) rfl n 6 rfl (stCells64 s').toList _ hcnt Tryd.underlying73 rfl (by kernel_rfl) ?_; rw [Array.toArray_toList]) | fail)
          clear hcnt hmk
          have hxw := stCells64_word s'
          generalize stCells64 s' = xs at *
          go_loopw [7, 62] (fun v7 v62 wr => ∃ i : Nat, i ≤ 8 ∧ v62 = .int .i64 i ∧ Kd.R (Kd.int .u8) 5 wr n (fun k_ => k_ ≠ n) v7 (digTo s' i) ∧ wr.heap[n]? = some (.cells (stateCells count' s' half) 102 (0, 0)) ∧ Below n w wr) (fun _ v62 _ => 8 - (intOf v62).toNat)
          case atStart => exact ⟨0, by omega, rfl, HO, BG6, HB6⟩
          case round =>
            clear HO BG6 HB6
            obtain ⟨i, hi, rfl, HO, BG, HB⟩ := hrel
            obtain ⟨Ao, co, eo⟩ := Kd.R_slice HO
            subst eo
            rcases Nat.lt_or_ge i 8 with hil | hil
            · have hlt : decide ((i : Int) < 8) = true := by simp; omega
              have c2 : wr.cell? ⟨n, 2, none⟩ = some (.int .i64 4) := (blk_cell BG 2).trans (by rw [state_at]; rfl)
              have hix := index73 xs i (stf s' i) hil (hxw i hil)
              have hcall := b72.big_call (stf s' i) w wr n _ _ (digTo s' i) (4 * i) (digTo_len s' i) (by omega) (by rw [HN.out]; exact HB) (by rw [HN.out]; exact HO) BG
              rw [HN.out, ← digTo_succ] at hcall
              go_wp2_with fail
              refine hcall.mono ?_
              rintro e U1 ⟨v7', rfl, HO1, BG1, HB1⟩
              go_wp2
              exact ⟨⟨i + 1, by omega, by go_num, HO1, BG1, HB1⟩, by simp [intOf]; omega⟩
            · obtain rfl : i = 8 := by omega
              rw [show ((8 : Nat) : Int) = (8 : Int) from rfl]
              have hlt : decide ((8 : Int) < 8) = false := by simp
              have c0 : wr.cell? ⟨n, 0, none⟩ = some (.int .i64 32) := (blk_cell BG 0).trans (by rw [state_at]; rfl)
              have hl32 : (digTo s' 8).length = 32 := digTo_len s' 8
              obtain ⟨_, lo, ro⟩ := Kd.R_reads' HO
              rw [hl32] at lo ro ⊢
              have hbase := Kd.R_base HO
              obtain ⟨ad, eA, _⟩ := Kd.at_int ro 0 (by omega) (by omega)
              subst eA
              go_wp2
              go_ret
              refine ⟨ad, 32, rfl, ?_, Nat.le_refl _, ?_, by rw [HN.out]; exact HB⟩
              · rw [HN.out]; exact hbase _ rfl
              · rw [← hs'.out]; exact ro
end Go.Proofs.YtglcapkmeecknaaDoor.e61
/-! ## N51 -/
namespace Go.Proofs.YtglcapkmeecknaaDoor.n51
open Go Go.RowKit Go.Proofs.YtglcapkmeecknaaDoor.sha Go.Proofs.YtglcapkmeecknaaDoor.mem Go.Proofs.YtglcapkmeecknaaDoor.k70 Go.Proofs.YtglcapkmeecknaaDoor.b58 Go.Proofs.YtglcapkmeecknaaDoorW.PrintWords Go.Proofs.YtglcapkmeecknaaDoorW.PrintLast Go.Proofs.YtglcapkmeecknaaDoorW.PrintMore
set_option linter.unusedVariables false
set_option linter.unusedSimpArgs false
theorem built106 (s : St) : Tryd.prog.built 106 [(0, .agg (stateCells 0 s half0))] = some (stateCells 0 s half0) := by
  unfold stateCells half0 kindCells stCells64
  generalize nn s.a = a
  generalize nn s.b = b
  generalize nn s.c = c
  generalize nn s.d = d
  generalize nn s.e = e
  generalize nn s.f = f
  generalize nn s.g = g
  generalize nn s.h = h
  kernel_rfl
theorem wpList_build_ {P : Program} {ops : Array Oper} {rest : List Oper} {o : Oper} {a : Act} {w : World} {Q : Exit → Act → World → Prop} (hg : o.guard = none) (t : TypeId) (parts : Array (Nat × Operand)) (ho : o.op = .build t parts) (cells : Array Value)
    (hc : P.built t (parts.map fun (i, x) => (i, a.eval x)).toList = some cells)
    (h : wpList P ops Q rest (a.put o.dst (.agg cells)) w) : wpList P ops Q (o :: rest) a w := wpList_build hg t parts ho (by rw [hc]; rfl) (by rw [hc]; exact h)
set_option maxHeartbeats 600000 in
set_option maxRecDepth 100000 in
theorem new_call (x : St) (sq : Nat → Int) (hsq : ∀ t, t < 8 → 0 ≤ sq t ∧ sq t < 18446744073709551616 ∧ sq t / 4294967296 = nn (stf x t)) (w : World) (hg : 4 < w.heap.size) (htab : ∀ t, t < 8 → w.cell? ⟨4, t, none⟩ = some (.int .u64 (sq t))) :
    Calls Tryd.prog 51 #[.int .i64 256] w fun e w' => ∃ g, e = .returned (.tuple #[.pointer (some ⟨g, 0, none⟩), .int .i64 0]) ∧ w.heap.size ≤ g ∧ w'.heap[g]? = some (.cells (stateCells 0 x half0) 106 (0, 0)) ∧ Below w.heap.size w w' := by
  go_enter Tryd.func51, Tryd.ntmps51
  go_wp2_with fail
  refine (begin_call x sq hsq _ hg htab).mono ?_
  rintro e W1 ⟨rfl, hb1⟩
  have hsz : (stateCells 0 x half0).size = 142 := by rw [state_size, half0_len]
  have hbt := built106 x
  have hoc := oneCells x
  generalize hcs : stateCells 0 x half0 = cs at *
  have HCS := Aside0.mk hcs
  clear hcs
  go_wp2_with (first | ((with_reducible refine gate_ (.store 102 (.tmp 4) (.tmp 9)) rfl ?_); refine wpList_store_row rfl 102 (.tmp 4) (.tmp 9) rfl W1.heap.size cs rfl rfl 102 Tryd.zeroCells102 (blk_new W1 _) ?c1 ?c2 hoc ?_; (case c1 => rw [hsz]; kernel_rfl); (case c2 => rw [hsz]; kernel_rfl); rw [World.setRow_alloc_new]; have BV := blk_new W1 (.cells cs 102); have HB := (hb1.alloc hb1.size (.cells cs 102)); have SZ : w.heap.size ≤ (W1.alloc (.cells cs 102)).heap.size := HB.size; generalize W1.heap.size = V at *; generalize W1.alloc (.cells cs 102) = W2 at *; clear hb1) | ((with_reducible refine gate_ (.load 102 (.tmp 4)) rfl ?_); refine wpList_load_row rfl 102 (.tmp 4) rfl V rfl 102 cs (0, 0) _ BV Tryd.underlying102 rfl (by rw [hsz]; kernel_rfl) ?_) | ((with_reducible refine gate_ (.build 106 #[(0, .tmp 13)]) rfl ?_); refine wpList_build_ rfl 106 #[(0, .tmp 13)] rfl cs (Eq.trans (congrArg _ (by simp only [List.map_toArray, List.map_cons, List.map_nil]; rfl)) hbt) ?_) | ((with_reducible refine gate_dst (N := 15) rfl ?_); refine box_event ?hg (N := 15) ?hd (cs := cs) (t := 106) ?hr ?_; (case hd => rfl); (case hg => rfl); (case hr => first | (go_simp; done) | (go_simp; rfl)); intro g9 hg9 W3 BB hb3) | fail)
  refine bodyPost_ret (results_tmp2 Tryd.results51 _ _ _) rfl ⟨g9, ?_, ?_, ?_, HB.trans (hb3.mono SZ)⟩
  · rw [hg9]; rfl
  · omega
  · rw [HCS.out]; exact BB
end Go.Proofs.YtglcapkmeecknaaDoor.n51
/-! ## D40 -/
namespace Go.Proofs.YtglcapkmeecknaaDoor.d40
open Go Go.RowKit Go.Proofs.YtglcapkmeecknaaDoor.PHeaderPacks Go.Proofs.YtglcapkmeecknaaDoor.sha Go.Proofs.YtglcapkmeecknaaDoor.mem Go.Proofs.YtglcapkmeecknaaDoor.k70 Go.Proofs.YtglcapkmeecknaaDoor.b58 Go.Proofs.YtglcapkmeecknaaDoor.e61 Go.Proofs.YtglcapkmeecknaaDoorW.PrintWords Go.Proofs.YtglcapkmeecknaaDoorW.PrintLast Go.Proofs.YtglcapkmeecknaaDoorW.PrintMore
set_option linter.unusedVariables false
set_option linter.unusedSimpArgs false
/-- What the program's tables hold: the first words, the constants. -/
structure DigTab (kf : Nat → BitVec 32) (x : St) (w : World) : Prop where
  sq : ∃ sq : Nat → Int, (∀ t, t < 8 → 0 ≤ sq t ∧ sq t < 18446744073709551616 ∧ sq t / 4294967296 = nn (stf x t)) ∧ ∀ t, t < 8 → w.cell? ⟨4, t, none⟩ = some (.int .u64 (sq t))
  cub : ∃ cub : Nat → Int, (∀ t, t < 64 → 0 ≤ cub t ∧ cub t < 18446744073709551616 ∧ cub t / 4294967296 = nn (kf t)) ∧ ∀ t, t < 64 → w.cell? ⟨5, t, none⟩ = some (.int .u64 (cub t))
  size : 5 < w.heap.size
theorem DigTab.below {kf : Nat → BitVec 32} {x : St} {w w' : World} (h : DigTab kf x w) (hb : Below w.heap.size w w') : DigTab kf x w' := by
  obtain ⟨⟨sq, s1, s2⟩, ⟨cub, c1, c2⟩, hs⟩ := h
  exact ⟨⟨sq, s1, fun t ht => (hb.cell (by show 4 < w.heap.size; omega)).trans (s2 t ht)⟩, ⟨cub, c1, fun t ht => (hb.cell (by show 5 < w.heap.size; omega)).trans (c2 t ht)⟩, Nat.lt_of_lt_of_le hs hb.size⟩
set_option maxHeartbeats 1000000 in
set_option maxRecDepth 100000 in
theorem ssum_call (kf : Nat → BitVec 32) (x s : St) (half : List Value) (hh : half.length = 128) (count : Int) (hc0 : 0 ≤ count) (hc1 : count < 1099511627776) (hcm : count % 64 = 0) (g : Nat)
    (w : World) (hgc : w.heap[g]? = some (.cells (stateCells count s half) 106 (0, 0))) (ht : DigTab kf x w) :
    Calls Tryd.prog 53 #[.pointer (some ⟨g, 0, none⟩)] w fun e w' => ∃ a c, e = .returned (.slice (some a) 32 c) ∧ w.heap.size ≤ a.block ∧ 32 ≤ c ∧ Kd.C (Kd.int .u8) w' (some a) 32 (dig (taken kf s (padOf (count * 8)))) ∧ Below w.heap.size w w' := by
  obtain ⟨_, ⟨cub, q1, q2⟩, hs5⟩ := ht
  have hcall := end_call kf cub q1 s half hh count hc0 hc1 hcm w hs5 q2
  have hsz : (stateCells count s half).size = 142 := by rw [state_size, hh]
  clear q1 q2
  generalize stateCells count s half = cs at *
  go_enter Tryd.func53, Tryd.ntmps53
  go_wp2_with (first | ((with_reducible refine gate_ (.load 102 (.tmp 7)) rfl ?_); refine wpList_load_mid rfl 102 (.tmp 7) rfl g 0 rfl cs.toList _ (fun j v hv => by rw [Nat.zero_add, blk_cell hgc j, ← hv, Array.getElem?_toList]) Tryd.underlying102 rfl (by rw [Array.length_toList, hsz]; kernel_rfl) ?_; rw [Array.toArray_toList]) | fail)
  refine hcall.mono ?_
  rintro e W1 ⟨a, c, rfl, h1, h2, h3, h4⟩
  go_wp2
  go_ret
  exact ⟨a, c, rfl, h1, h2, h3, h4⟩
set_option maxHeartbeats 1000000 in
set_option maxRecDepth 100000 in
theorem sum_call (kf : Nat → BitVec 32) (x : St) (w : World) (ht : DigTab kf x w)
    (A : Option Addr) (c : Nat) (parts : List (List Int)) (hlc : parts.length ≤ c) (hC : Kd.C (Kd.slice 5 (Kd.int .u8)) w A parts.length parts) (K : Nat) (r : Int) (htot : digest_total.f K parts = some r) (hr0 : 0 ≤ r) (hr1 : r ≤ 33554432)
    (hp : ∀ i, i < parts.length → ∃ m, 0 < m ∧ m < 1048576 ∧ (rd_L1 parts (i : Int)).length = 64 * m) (hrng : ∀ i, i < parts.length → ∀ x ∈ rd_L1 parts (i : Int), 0 ≤ x ∧ x < 256) (hpl : parts.length < 1000) :
    Calls Tryd.prog 40 #[.int .i64 256, .slice A parts.length c] w fun e w' => ∃ a c', e = .returned (.tuple #[.slice (some a) 32 c', .int .i64 0]) ∧ w.heap.size ≤ a.block ∧ 32 ≤ c' ∧
      (∃ M, parts.flatten.length = 64 * M ∧ Kd.C (Kd.int .u8) w' (some a) 32 (dig (taken kf (upto kf x parts.flatten M) (padOf (64 * (M : Int) * 8))))) ∧ Below w.heap.size w w' := by
  obtain ⟨⟨sq, s1, s2⟩, ⟨cub, q1, q2⟩, hs5⟩ := ht
  have HT : Aside0 (DigTab kf x w) := ⟨⟨⟨sq, s1, s2⟩, ⟨cub, q1, q2⟩, hs5⟩⟩
  go_enter Tryd.func40, Tryd.ntmps40
  go_wp2_with fail
  refine (n51.new_call x sq s1 w (by omega) s2).mono ?_
  rintro e W1 ⟨g, rfl, hg, BG, hb1⟩
  go_wp2_with fail
  refine (w52.write_call kf cub q1 x half0 half0_len g w W1 hb1 hg BG A c parts hlc hC K r htot hr0 hr1 hp hrng hpl hs5 q2).mono ?_
  rintro e W2 ⟨rfl, hb2, M, hM, hMM, BG2⟩
  have HM := Aside0.mk hM
  clear hM BG
  go_wp2_with fail
  refine (ssum_call kf x (upto kf x parts.flatten M) half0 half0_len (64 * (M : Int)) (by omega) (by omega) (by omega) g W2 BG2 (HT.out.below hb2)).mono ?_
  rintro e W3 ⟨a, c', rfl, h1, h2, h3, h4⟩
  go_wp2
  go_ret2
  exact ⟨a, c', rfl, Nat.le_trans hb2.size h1, h2, ⟨M, HM.out, h3⟩, hb2.trans (h4.mono hb2.size)⟩
end Go.Proofs.YtglcapkmeecknaaDoor.d40
/-! ## H27 -/
namespace Go.Proofs.YtglcapkmeecknaaDoor.h27
open Go Go.RowKit Go.Proofs.YtglcapkmeecknaaDoor.PHeaderPacks Go.Proofs.YtglcapkmeecknaaDoor.sha Go.Proofs.YtglcapkmeecknaaDoor.mem Go.Proofs.YtglcapkmeecknaaDoor.e61 Go.Proofs.YtglcapkmeecknaaDoor.d40 Go.Proofs.YtglcapkmeecknaaDoorW.PrintWords Go.Proofs.YtglcapkmeecknaaDoorW.PrintLast Go.Proofs.YtglcapkmeecknaaDoorW.PrintMore
set_option linter.unusedVariables false
set_option linter.unusedSimpArgs false
/-- The bytes without the digest's room. -/
def hole (b : List Int) : List Int := b.take 448 ++ (List.replicate 64 0 ++ b.drop 512)
theorem total_of (k : Nat) (n : Int) (h0 : 0 ≤ n) : ∀ (ls : List (List Int)) (P : List (List Int)) (i : Nat), P.drop i = ls → n + (ls.flatten.length : Int) ≤ 33554432 → ls.length < k → P.length < 1000 → i ≤ P.length →
    digest_total.l0 k n P (P.length : Int) (i : Int) = some (n + (ls.flatten.length : Int))
  | [], P, i, hd, hn, hk, hP, hi => by
    obtain ⟨k, rfl⟩ : ∃ m, k = m + 1 := ⟨k - 1, by omega⟩
    have : P.length ≤ i := by simpa using hd
    simp only [digest_total.l0]
    rw [if_neg (by omega)]
    simp
  | l :: ls, P, i, hd, hn, hk, hP, hi => by
    obtain ⟨k, rfl⟩ : ∃ m, k = m + 1 := ⟨k - 1, by omega⟩
    have hil : i < P.length := by
      rcases Nat.lt_or_ge i P.length with h | h
      · exact h
      · rw [List.drop_eq_nil_of_le h] at hd; cases hd
    have hg : rd_L1 P (i : Int) = l := by
      rw [List.drop_eq_getElem_cons hil] at hd
      injection hd with h1 h2
      simp [rd_L1, hil, h1]
    have hd' : P.drop (i + 1) = ls := by
      rw [List.drop_eq_getElem_cons hil] at hd
      injection hd
    have hfl : ((l :: ls).flatten.length : Int) = l.length + ls.flatten.length := by simp
    rw [hfl] at hn ⊢
    have hw : wrap64 (n + (l.length : Int)) = n + l.length := by unfold wrap64; omega
    have hi1 : wrap64 ((i : Int) + 1) = ((i + 1 : Nat) : Int) := by unfold wrap64; omega
    simp only [digest_total.l0]
    rw [if_pos (by omega), if_pos (by omega), if_pos (by omega), hg, hw, if_neg (by omega), hi1]
    rw [total_of k (n + l.length) (by omega) ls P (i + 1) hd' (by omega) (by simpa using hk) hP (by omega)]
    congr 1
    omega
theorem rd3_0 (a b c : List Int) : rd_L1 [a, b, c] ((0 : Nat) : Int) = a := rfl
theorem rd3_1 (a b c : List Int) : rd_L1 [a, b, c] ((1 : Nat) : Int) = b := rfl
theorem rd3_2 (a b c : List Int) : rd_L1 [a, b, c] ((2 : Nat) : Int) = c := rfl
theorem three {i : Nat} (h : i < 3) : i = 0 ∨ i = 1 ∨ i = 2 := by omega
set_option maxHeartbeats 2000000 in
set_option maxRecDepth 100000 in
theorem sumOf_call (kf : Nat → BitVec 32) (x : St) (w : World) (ht : DigTab kf x w) (ad : Addr) (c : Nat) (b : List Int) (hlc : b.length ≤ c) (hC : Kd.C (Kd.int .u8) w (some ad) b.length b) (M : Nat) (hM : b.length = 64 * M) (h1 : 512 < b.length) (h2 : b.length ≤ 4194304)
    (hrng : ∀ x ∈ b, 0 ≤ x ∧ x < 256) :
    Calls Tryd.prog 27 #[.slice (some ad) b.length c] w fun e w' => ∃ a c', e = .returned (.slice (some a) 32 c') ∧ w.heap.size ≤ a.block ∧ 32 ≤ c' ∧ Kd.C (Kd.int .u8) w' (some a) 32 (dig (taken kf (upto kf x (hole b) M) (padOf (64 * (M : Int) * 8)))) ∧ Below w.heap.size w w' := by
  obtain ⟨i5, hi5, hz5, hs5, hb5⟩ := info_parts n78.info5
  have hcut1 : ∀ W : World, _ := cut_to (P := Tryd.prog) 25 5 .i64 Tryd.underlying25 hi5 (some ad) b.length c 448 (by omega) (by omega) hlc
  have hcut2 : ∀ W : World, _ := cut_from (P := Tryd.prog) 25 5 .i64 Tryd.underlying25 hi5 1 hs5 (some ad) b.length c 512 (by omega) (by omega)
  have hmk : ∀ W : World, _ := print_make_int (P := Tryd.prog) 25 5 (.int .u8 0) 1 Tryd.underlying25 n78.info5 rfl (by decide) 64 (by omega) (by decide)
  rw [show (448 : Int).toNat = 448 from rfl] at hcut1
  rw [show (512 : Int).toNat = 512 from rfl, show (if c = 512 then some ad else Option.map (fun x => x.add (512 * 1)) (some ad)) = some (if c = 512 then ad else ad.add 512) by split <;> simp] at hcut2
  rw [show (64 : Int).toNat = 64 from rfl, made_nums] at hmk
  generalize hZ : (nums .u8 (List.replicate 64 0)).toArray = Z at *
  generalize had2 : (if c = 512 then ad else ad.add 512) = ad2 at *
  have hhl : (hole b).length = 64 * M := by
    unfold hole
    rw [List.length_append, List.length_append, List.length_take, List.length_replicate, List.length_drop]
    omega
  have hfl : [b.take 448, List.replicate 64 0, b.drop 512].flatten = hole b := by simp [hole]
  have hl0 : (b.take 448).length = 448 := by rw [List.length_take]; omega
  have hl2 : (b.drop 512).length = b.length - 512 := List.length_drop
  have hcall : ∀ W' : World, W' = ((w.alloc (.cells Z 5)).alloc (.cells #[.slice (some ad) 448 c, .slice (some ⟨w.heap.size, 0, none⟩) 64 64, .slice (some ad2) (b.length - 512) (c - 512)] 25)).drew →
      Below w.heap.size w W' ∧ Calls Tryd.prog 40 #[.int .i64 256, .slice (some ⟨w.heap.size + 1, 0, none⟩) 3 3] W' fun e w' => ∃ a c', e = .returned (.tuple #[.slice (some a) 32 c', .int .i64 0]) ∧ W'.heap.size ≤ a.block ∧ 32 ≤ c' ∧
        Kd.C (Kd.int .u8) w' (some a) 32 (dig (taken kf (upto kf x (hole b) M) (padOf (64 * (M : Int) * 8)))) ∧ Below W'.heap.size W' w' := by
    intro W' hW'
    have hb : Below w.heap.size w W' := by rw [hW']; exact below_drew (below_alloc (below_alloc (Below.refl _ w) _) _)
    have hz : W'.heap[w.heap.size]? = some (.cells Z 5 (0, 0)) := by rw [hW']; exact blk_drew (blk_alloc (blk_new w _) _)
    have hs : W'.heap[w.heap.size + 1]? = some (.cells #[.slice (some ad) 448 c, .slice (some ⟨w.heap.size, 0, none⟩) 64 64, .slice (some ad2) (b.length - 512) (c - 512)] 25 (0, 0)) := by
      rw [hW']
      have := blk_new (w.alloc (.cells Z 5)) (.cells #[.slice (some ad) 448 c, .slice (some ⟨w.heap.size, 0, none⟩) 64 64, .slice (some ad2) (b.length - 512) (c - 512)] 25)
      rw [World.size_alloc] at this
      exact blk_drew this
    have hC0 := Kd.C_below (Kd.C_take (k := Kd.int .u8) hC (m := 448) (by omega)) hb
    have hC1 : Kd.C (Kd.int .u8) W' (some ⟨w.heap.size, 0, none⟩) (List.replicate 64 (0 : Int)).length (List.replicate 64 0) := row_C (L := List.replicate 64 0) (by rw [Row, hZ]; exact hz) (by simp)
    have hC2 := Kd.C_below (Kd.C_drop (k := Kd.int .u8) hC (m := 512) (c := c) (by omega) hlc) hb
    rw [show (Kd.int .u8).sz = 1 from rfl, show (if c = 512 then some ad else Option.map (fun x => x.add (512 * 1)) (some ad)) = some ad2 by rw [← had2]; split <;> simp] at hC2
    have hCC : Kd.C (Kd.slice 5 (Kd.int .u8)) W' (some ⟨w.heap.size + 1, 0, none⟩) [b.take 448, List.replicate 64 0, b.drop 512].length [b.take 448, List.replicate 64 0, b.drop 512] := by
      refine ⟨rfl, by simp, fun _ => ⟨_, rfl, fun j p hj => ?_⟩⟩
      have hj3 : j < 3 := by have := (List.getElem?_eq_some_iff.1 hj).1; simpa using this
      have key : ∀ v : Value, (#[.slice (some ad) 448 c, .slice (some ⟨w.heap.size, 0, none⟩) 64 64, .slice (some ad2) (b.length - 512) (c - 512)] : Array Value)[j]? = some v → ∀ (i : Nat) (u : Value), [v][i]? = some u → W'.cell? ((⟨w.heap.size + 1, 0, none⟩ : Addr).add (j * 1 + i)) = some u := by
        intro v hv i u hu
        have hi : i = 0 := by have := (List.getElem?_eq_some_iff.1 hu).1; simp at this; omega
        subst hi
        cases hu
        rw [Nat.mul_one, Nat.add_zero, add_plain]
        refine (blk_cell hs j).trans ?_
        exact hv
      obtain rfl | rfl | rfl := three hj3
      · cases hj
        exact ⟨[.slice (some ad) 448 c], rfl, ⟨some ad, c, by rw [hl0], by omega, hC0⟩, key _ rfl⟩
      · cases hj
        exact ⟨[.slice (some ⟨w.heap.size, 0, none⟩) 64 64], rfl, ⟨_, 64, by rw [List.length_replicate], by simp, hC1⟩, key _ rfl⟩
      · cases hj
        exact ⟨[.slice (some ad2) (b.length - 512) (c - 512)], rfl, ⟨some ad2, c - 512, by rw [hl2], by omega, hC2⟩, key _ rfl⟩
    have htot : digest_total.f 4 [b.take 448, List.replicate 64 0, b.drop 512] = some (64 * (M : Int)) := by
      have h := total_of 4 0 (by omega) [b.take 448, List.replicate 64 0, b.drop 512] [b.take 448, List.replicate 64 0, b.drop 512] 0 rfl (by rw [hfl, hhl]; omega) (by simp) (by simp) (by simp)
      unfold digest_total.f
      rw [hfl, hhl] at h
      refine h.trans ?_
      congr 1
      omega
    refine ⟨hb, (d40.sum_call kf x W' (ht.below hb) (some ⟨w.heap.size + 1, 0, none⟩) 3 [b.take 448, List.replicate 64 0, b.drop 512] (by simp) hCC 4 (64 * (M : Int)) htot (by omega) (by omega) (fun i hi => ?_) (fun i hi y hy => ?_) (by simp)).mono ?_⟩
    · obtain rfl | rfl | rfl := three hi
      · exact ⟨7, by omega, by omega, by rw [rd3_0, hl0]⟩
      · exact ⟨1, by omega, by omega, by rw [rd3_1]; simp⟩
      · exact ⟨M - 8, by omega, by omega, by rw [rd3_2, hl2]; omega⟩
    · obtain rfl | rfl | rfl := three hi
      · rw [rd3_0] at hy; exact hrng y (List.mem_of_mem_take hy)
      · rw [rd3_1] at hy; have := List.eq_of_mem_replicate hy; omega
      · rw [rd3_2] at hy; exact hrng y (List.mem_of_mem_drop hy)
    · rintro e w' ⟨a, c', rfl, g1, g2, ⟨M', g3, g4⟩, g5⟩
      rw [hfl] at g3 g4
      obtain rfl : M' = M := by omega
      exact ⟨a, c', rfl, g1, g2, g4, g5⟩
  clear hhl hfl hl0 hl2 hM had2 hZ
  go_enter Tryd.func27, Tryd.ntmps27
  go_wp2_with fail
  go_region_with (go_at_call 40; refine (hcall _ rfl).2.mono ?_; rintro e W1 ⟨a, c', rfl, g1, g2, g4, g5⟩)
  have hb := (hcall _ rfl).1
  clear hcall
  generalize ((w.alloc (.cells Z 5)).alloc (.cells #[.slice (some ad) 448 c, .slice (some ⟨w.heap.size, 0, none⟩) 64 64, .slice (some ad2) (b.length - 512) (c - 512)] 25)).drew = W' at *
  go_wp2
  go_ret
  exact ⟨a, c', rfl, Nat.le_trans hb.size g1, g2, g4, hb.trans (g5.mono hb.size)⟩
end Go.Proofs.YtglcapkmeecknaaDoor.h27
/-! ## Laid -/
namespace Go.Proofs.YtglcapkmeecknaaDoor.laidp
open Go Go.RowKit Go.Proofs.YtglcapkmeecknaaDoor.PHeaderPacks Go.Proofs.YtglcapkmeecknaaDoor.mem Go.Proofs.YtglcapkmeecknaaDoor.p24 Go.Proofs.YtglcapkmeecknaaDoor.e61 Go.Proofs.YtglcapkmeecknaaDoorW.PrintWords Go.Proofs.YtglcapkmeecknaaDoorW.PrintMore
set_option linter.unusedVariables false
def zs (n : Nat) : Nat := (119 - n % 64) % 64
def laidOf (b : List Int) : List Int := b ++ (128 :: List.replicate (zs b.length) 0) ++ be 8 (b.length * 8)
theorem wrap_small {n : Int} (h0 : 0 ≤ n) (h1 : n < 9223372036854775808) : wrap64 n = n := by unfold wrap64; omega
theorem l1_step (k : Nat) (p : List Int) (bits : Int) (i : Nat) (hi : i < 8) (hp : p.length < 140737488355328) :
    cofferref01_laid.l1 (k + 1) p bits (i : Int) = cofferref01_laid.l1 k (p ++ [bits / (2 : Int) ^ (8 * i) % 256]) bits ((i : Int) - 1) := by
  have e1 : wrap64 (8 * (i : Int)) = 8 * (i : Int) := wrap_small (by omega) (by omega)
  have e2 : IntKind.u64.wrap (8 * (i : Int)) = 8 * (i : Int) := by rw [IntKind.wrap_u64]; omega
  have e3 : wrap64 ((i : Int) - 1) = (i : Int) - 1 := by unfold wrap64; omega
  have e4 : shr .u64 bits (8 * (i : Int)) = bits / (2 : Int) ^ (8 * i) := by
    unfold shr
    rw [show (8 * (i : Int)).toNat = 8 * i by omega, Nat.min_eq_left (by show 8 * i ≤ 64; omega)]
  simp only [cofferref01_laid.l1]
  rw [if_pos (by omega), if_neg (by omega), e1, e2, if_pos (by omega), if_pos hp, e3, e4]
theorem l1_go (k : Nat) (p : List Int) (bits : Int) (hp : p.length < 140737488355320) : cofferref01_laid.l1 (k + 9) p bits 7 = some (p ++ be 8 bits) := by
  have key : ∀ (j : Nat), j ≤ 8 → cofferref01_laid.l1 (k + 9) p bits 7 = cofferref01_laid.l1 (k + 9 - j) (p ++ (be 8 bits).take j) bits (7 - (j : Int)) := by
    intro j
    induction j with
    | zero => intro _; simp
    | succ j ih =>
      intro hj
      rw [ih (by omega)]
      have hk : k + 9 - j = (k + 9 - (j + 1)) + 1 := by omega
      have ei : (7 : Int) - (j : Int) = ((7 - j : Nat) : Int) := by omega
      have hl : ((be 8 bits).take j).length = j := by rw [List.length_take, be_len]; omega
      rw [hk, ei, l1_step _ _ _ _ (by omega) (by rw [List.length_append, hl]; omega), be_take 8 bits j (by omega), List.append_assoc]
      rw [show 8 - 1 - j = 7 - j by omega]
      congr 1
      omega
  rw [key 8 (by omega), List.take_of_length_le (by rw [be_len]; omega)]
  obtain ⟨m, hm⟩ : ∃ m, k + 9 - 8 = m + 1 := ⟨k, by omega⟩
  rw [hm]
  simp only [cofferref01_laid.l1]
  rw [if_neg (by omega)]
theorem l0_go (b : List Int) (hb : b.length < 70368744177664) : ∀ (d k j : Nat), zs b.length - j = d → j ≤ zs b.length → d + 10 < k →
    cofferref01_laid.l0 k b 64 (b ++ (128 :: List.replicate j 0)) = some (laidOf b)
  | 0, k, j, hd, hj, hk => by
    obtain ⟨k, rfl⟩ : ∃ m, k = m + 1 := ⟨k - 1, by omega⟩
    obtain ⟨k, rfl⟩ : ∃ m, k = m + 9 := ⟨k - 9, by omega⟩
    have ej : j = zs b.length := by omega
    subst ej
    have hl : (b ++ (128 :: List.replicate (zs b.length) (0 : Int))).length = b.length + 1 + zs b.length := by simp; omega
    have e8 : wrap64 (Int.tdiv 64 8) = 8 := by rw [show Int.tdiv 64 8 = 8 by decide]; exact wrap_small (by omega) (by omega)
    have et : Int.tmod (wrap64 (((b.length + 1 + zs b.length : Nat) : Int) + 8)) 64 = 0 := by
      rw [wrap_small (by omega) (by unfold zs; omega), Int.tmod_eq_emod_of_nonneg (by omega)]
      unfold zs
      omega
    have eb : IntKind.u64.wrap (IntKind.u64.wrap (b.length : Int) * 8) = (b.length : Int) * 8 := by
      rw [IntKind.wrap_u64, IntKind.wrap_u64]; omega
    have e7 : wrap64 (8 - 1) = 7 := by rw [show (8 : Int) - 1 = 7 by omega]; exact wrap_small (by omega) (by omega)
    simp only [cofferref01_laid.l0]
    rw [if_neg (by omega), hl, e8, if_pos et, eb, e7, l1_go _ _ _ (by rw [hl]; unfold zs; omega)]
    rfl
  | d + 1, k, j, hd, hj, hk => by
    obtain ⟨k, rfl⟩ : ∃ m, k = m + 1 := ⟨k - 1, by omega⟩
    have hl : (b ++ (128 :: List.replicate j (0 : Int))).length = b.length + 1 + j := by simp; omega
    have e8 : wrap64 (Int.tdiv 64 8) = 8 := by rw [show Int.tdiv 64 8 = 8 by decide]; exact wrap_small (by omega) (by omega)
    have et : ¬ Int.tmod (wrap64 (((b.length + 1 + j : Nat) : Int) + 8)) 64 = 0 := by
      unfold zs at hd hj
      rw [wrap_small (by omega) (by omega), Int.tmod_eq_emod_of_nonneg (by omega)]
      omega
    simp only [cofferref01_laid.l0]
    rw [if_neg (by omega), hl, e8, if_neg et, if_pos (by unfold zs at hj; omega)]
    have ea : b ++ (128 :: List.replicate j (0 : Int)) ++ [0] = b ++ (128 :: List.replicate (j + 1) 0) := by
      rw [List.append_assoc, List.cons_append, List.replicate_succ']
    rw [ea]
    exact l0_go b hb d k (j + 1) (by omega) (by omega) (by omega)
theorem laid_ref (b : List Int) (hb : b.length < 70368744177664) : cofferref01_laid.f 80 b 64 = some (laidOf b) := by
  unfold cofferref01_laid.f
  rw [if_pos (by simp; omega)]
  simp only [List.nil_append, Option.bind_some]
  rw [if_pos (by omega)]
  have hz : zs b.length < 64 := by unfold zs; omega
  exact l0_go b hb (zs b.length) 80 0 (by omega) (by omega) (by omega)
theorem laid_len (b : List Int) : (laidOf b).length = b.length + 9 + zs b.length := by
  unfold laidOf
  simp [be_len]
  omega
theorem laid_mod (b : List Int) : ∃ m, (laidOf b).length = 64 * m ∧ m ≤ b.length / 64 + 2 := by
  refine ⟨(b.length + 9 + zs b.length) / 64, ?_, ?_⟩
  · rw [laid_len]; unfold zs; omega
  · unfold zs; omega
theorem laid_rng (b : List Int) (h : ∀ x ∈ b, 0 ≤ x ∧ x < 256) : ∀ x ∈ laidOf b, 0 ≤ x ∧ x < 256 := by
  intro x hx
  unfold laidOf at hx
  rcases List.mem_append.1 hx with a | a
  · rcases List.mem_append.1 a with c | c
    · exact h x c
    · rcases List.mem_cons.1 c with rfl | c
      · omega
      · rw [List.eq_of_mem_replicate c]; omega
  · unfold be at a
    obtain ⟨i, _, rfl⟩ := List.mem_map.1 a
    omega
theorem padOf_eq (bits : Int) : (128 :: List.replicate 55 0) ++ be 8 bits = padOf bits := by
  apply List.ext_getElem?
  intro q
  unfold padOf
  rw [List.getElem?_map]
  rcases Nat.lt_or_ge q 64 with hq | hq
  · rw [List.getElem?_range hq]
    show _ = some (padAt bits 8 q)
    unfold padAt
    by_cases h0 : q = 0
    · subst h0; simp
    · rw [if_neg h0]
      by_cases h1 : q < 56
      · rw [List.getElem?_append_left (by simp; omega), if_neg (by omega)]
        obtain ⟨q', rfl⟩ : ∃ q', q = q' + 1 := ⟨q - 1, by omega⟩
        rw [List.getElem?_cons_succ, List.getElem?_replicate, if_pos (by omega)]
      · rw [List.getElem?_append_right (by simp; omega), if_pos (by omega)]
        have hl : (128 :: List.replicate 55 (0 : Int)).length = 56 := by simp
        rw [hl]
        unfold be
        rw [List.getElem?_map, List.getElem?_range (by omega)]
        show some (bits / (2 : Int) ^ (8 * (8 - 1 - (q - 56))) % 256) = some _
        rw [show 8 - 1 - (q - 56) = 63 - q by omega]
  · rw [List.getElem?_eq_none (by simp [be_len]; omega), List.getElem?_eq_none (by simp; omega)]
    rfl
theorem laid_mult (b : List Int) (M : Nat) (hM : b.length = 64 * M) : laidOf b = b ++ padOf (64 * (M : Int) * 8) := by
  unfold laidOf
  have hz : zs b.length = 55 := by unfold zs; omega
  rw [hz, List.append_assoc, padOf_eq, hM]
  congr 2
end Go.Proofs.YtglcapkmeecknaaDoor.laidp
/-! ## R12 -/
namespace Go.Proofs.YtglcapkmeecknaaDoor.r12
open Go Go.RowKit Go.Proofs.YtglcapkmeecknaaDoor.PHeaderPacks Go.Proofs.YtglcapkmeecknaaDoor.sha Go.Proofs.YtglcapkmeecknaaDoor.mem Go.Proofs.YtglcapkmeecknaaDoor.s28 Go.Proofs.YtglcapkmeecknaaDoor.laidp Go.Proofs.YtglcapkmeecknaaDoor.h27 Go.Proofs.YtglcapkmeecknaaDoor.e61 Go.Proofs.YtglcapkmeecknaaDoorW.PrintWords Go.Proofs.YtglcapkmeecknaaDoorW.PrintLast Go.Proofs.YtglcapkmeecknaaDoorW.PrintMore
set_option linter.unusedVariables false
set_option linter.unusedSimpArgs false
/-- The digest of any bytes. -/
def rsha (kf : Nat → BitVec 32) (x : St) (h : List Int) : List Int := dig (upto kf x (laidOf h) ((laidOf h).length / 64))
theorem rsha_mult (kf : Nat → BitVec 32) (x : St) (h : List Int) (M : Nat) (hM : h.length = 64 * M) : rsha kf x h = dig (taken kf (upto kf x h M) (padOf (64 * (M : Int) * 8))) := by
  unfold rsha
  rw [laid_mult h M hM]
  have hl : (h ++ padOf (64 * (M : Int) * 8)).length / 64 = M + 1 := by rw [List.length_append, padOf_len, hM]; omega
  rw [hl]
  show dig (taken kf (upto kf x (h ++ padOf (64 * (M : Int) * 8)) M) (((h ++ padOf (64 * (M : Int) * 8)).take (64 * M + 64)).drop (64 * M))) = _
  rw [upto_left kf x h _ M hM M (Nat.le_refl _)]
  congr 2
  rw [List.take_of_length_le (by rw [List.length_append, padOf_len, hM]; omega), ← hM, List.drop_left]
theorem hole_len (b : List Int) (h : 512 ≤ b.length) : (hole b).length = b.length := by
  unfold hole
  rw [List.length_append, List.length_append, List.length_take, List.length_replicate, List.length_drop]
  omega
theorem hole_get (b : List Int) (h : 512 ≤ b.length) (i : Nat) : (hole b)[i]? = if i < 448 then b[i]? else if i < 512 then some 0 else b[i]? := by
  unfold hole
  have hl : (b.take 448).length = 448 := by rw [List.length_take]; omega
  by_cases h1 : i < 448
  · rw [if_pos h1, List.getElem?_append_left (by omega), List.getElem?_take, if_pos h1]
  · rw [if_neg h1, List.getElem?_append_right (by omega), hl]
    by_cases h2 : i < 512
    · rw [if_pos h2, List.getElem?_append_left (show i - 448 < (List.replicate 64 (0 : Int)).length by rw [List.length_replicate]; omega), List.getElem?_replicate, if_pos (show i - 448 < 64 by omega)]
    · rw [if_neg h2, List.getElem?_append_right (show (List.replicate 64 (0 : Int)).length ≤ i - 448 by rw [List.length_replicate]; omega), List.length_replicate, List.getElem?_drop, show 512 + (i - 448 - 64) = i by omega]
theorem hole_rng (b : List Int) (h : ∀ x ∈ b, 0 ≤ x ∧ x < 256) : ∀ x ∈ hole b, 0 ≤ x ∧ x < 256 := by
  intro x hx
  unfold hole at hx
  rcases List.mem_append.1 hx with a | a
  · exact h x (List.mem_of_mem_take a)
  · rcases List.mem_append.1 a with c | c
    · rw [List.eq_of_mem_replicate c]; omega
    · exact h x (List.mem_of_mem_drop c)
theorem part_set (l : List Int) (n i : Nat) (hi : i < n) (hl : l.length = n) (x : Int) (hx : l[i]? = some x) : (l.take i ++ List.replicate (n - i) 0).set i x = l.take (i + 1) ++ List.replicate (n - (i + 1)) 0 := by
  have hti : (l.take i).length = i := by rw [List.length_take]; omega
  rw [List.set_append_right _ _ (by omega), hti, Nat.sub_self, show n - i = (n - (i + 1)) + 1 by omega, List.replicate_succ, List.set_cons_zero]
  rw [List.take_succ_eq_append_getElem (by omega), List.append_assoc]
  congr 1
  rw [List.getElem?_eq_getElem (by omega)] at hx
  rw [Option.some.inj hx]
  rfl
theorem part_zero (l : List Int) (n i : Nat) (hi : i < n) (hl : l.length = n) (hx : l[i]? = some 0) : l.take i ++ List.replicate (n - i) 0 = l.take (i + 1) ++ List.replicate (n - (i + 1)) 0 := by
  rw [← part_set l n i hi hl 0 hx]
  have hti : (l.take i).length = i := by rw [List.length_take]; omega
  rw [List.set_append_right _ _ (by omega), hti, Nat.sub_self, show n - i = (n - (i + 1)) + 1 by omega, List.replicate_succ, List.set_cons_zero]
set_option maxHeartbeats 2000000 in
set_option maxRecDepth 100000 in
theorem rsum_call (kf : Nat → BitVec 32) (x : St) (w : World) (ht : RefTab kf x w) (ad : Addr) (c : Nat) (b : List Int) (hlc : b.length ≤ c) (hC : Kd.C (Kd.int .u8) w (some ad) b.length b) (h1 : 512 ≤ b.length) (h2 : b.length ≤ 1099511627776) (hrng : ∀ x ∈ b, 0 ≤ x ∧ x < 256) :
    Calls Tryd.prog 12 #[.slice (some ad) b.length c] w fun e w' => ∃ v, e = .returned v ∧ Kd.R (Kd.int .u8) 5 w' w.heap.size (fun _ => True) v (rsha kf x (hole b)) ∧ Below w.heap.size w w' := by
  have hmk : ∀ W : World, _ := print_make_int (P := Tryd.prog) 25 5 (.int .u8 0) 1 Tryd.underlying25 n78.info5 rfl (by decide) (b.length : Int) (by omega) (by omega)
  rw [made_nums, Int.toNat_natCast] at hmk
  have hhl := Aside0.mk (hole_len b h1)
  obtain ⟨L0, hL0⟩ : ∃ L0, Aside0 (L0 = List.replicate b.length (0 : Int)) := ⟨_, ⟨rfl⟩⟩
  rw [← hL0.out] at hmk
  go_enter Tryd.func12, Tryd.ntmps12
  go_wp2
  have R0 : Row (w.alloc (.cells (nums .u8 L0).toArray 5)) w.heap.size L0 := blk_new w _
  have HB0 : Below w.heap.size w (w.alloc (.cells (nums .u8 L0).toArray 5)) := below_alloc (Below.refl _ w) _
  have SZ0 : (w.alloc (.cells (nums .u8 L0).toArray 5)).heap.size = w.heap.size + 1 := by simp
  generalize hn : w.heap.size = n at *
  have HN := Aside0.mk hn
  clear hn hmk
  generalize w.alloc (.cells (nums .u8 L0).toArray 5) = W1 at *
  go_loopw [4] (fun v4 wr => ∃ i : Nat, i ≤ b.length ∧ v4 = .int .i64 i ∧ Row wr n ((hole b).take i ++ List.replicate (b.length - i) 0) ∧ Turn n W1 wr) (fun v4 _ => b.length - (intOf v4).toNat)
  case atStart => exact ⟨0, by omega, rfl, by rw [List.take_zero, List.nil_append, Nat.sub_zero, ← hL0.out]; exact R0, Turn.refl _ _⟩
  case round =>
    obtain ⟨i, hi, rfl, HR, hT⟩ := hrel
    have HB : Below n w wr := Turn.below HB0 hT (Nat.le_refl _) (by omega)
    rcases Nat.lt_or_ge i b.length with hil | hil
    · have hlt : decide ((i : Int) < (b.length : Int)) = true := by simp; omega
      have i0 : (0 : Int) ≤ (i : Int) := by omega
      have i1 : (i : Int) < (b.length : Int) := by omega
      obtain ⟨ad', ea, hc⟩ := Kd.at_int (Kd.C_below hC (by rw [HN.out]; exact HB)) (i : Int) i0 (by omega)
      cases ea
      rw [Int.toNat_natCast] at hc
      have hrd : b[i]? = some (rd b (i : Int)) := by simp [rd, hil]
      have hrdA := Aside0.mk hrd
      have w3 : wr.cell? ⟨n, i, none⟩ = some (.int .u8 (((hole b).take i ++ List.replicate (b.length - i) 0).getD i 0)) := row_at HR i (by rw [List.length_append, List.length_take, List.length_replicate, hhl.out]; omega)
      have f3 : wr.frozen? ⟨n, i, none⟩ = false := blk_frozen HR i
      have hhg := Aside0.mk (hole_get b h1 i)
      clear hrd
      generalize rd b (i : Int) = y at *
      by_cases a1 : i < 448
      · have d1 : decide ((i : Int) < 448) = true := by simp; omega
        go_wp2
        refine ⟨⟨i + 1, by omega, by go_num, ?_, hT.setCell _ _⟩, by simp [intOf]; omega⟩
        rw [← part_set (hole b) b.length i hil hhl.out y (by rw [hhg.out, if_pos a1, hrdA.out])]
        exact row_set HR i y
      · have d1 : decide ((i : Int) < 448) = false := by simp; omega
        by_cases a2 : i < 512
        · have d2 : decide ((i : Int) ≥ 512) = false := by simp; omega
          go_wp2
          refine ⟨⟨i + 1, by omega, by go_num, ?_, hT⟩, by simp [intOf]; omega⟩
          rw [← part_zero (hole b) b.length i hil hhl.out (by rw [hhg.out, if_neg a1, if_pos a2])]
          exact HR
        · have d2 : decide ((i : Int) ≥ 512) = true := by simp; omega
          go_wp2
          refine ⟨⟨i + 1, by omega, by go_num, ?_, hT.setCell _ _⟩, by simp [intOf]; omega⟩
          rw [← part_set (hole b) b.length i hil hhl.out y (by rw [hhg.out, if_neg a1, if_neg a2, hrdA.out])]
          exact row_set HR i y
    · obtain rfl : i = b.length := by omega
      have hlt : decide ((b.length : Int) < (b.length : Int)) = false := by simp
      rw [Nat.sub_self, List.replicate_zero, List.append_nil, List.take_of_length_le (by rw [hhl.out]; omega)] at HR
      obtain ⟨m, hm1, hm2⟩ := laid_mod (hole b)
      have hcall := sum_call kf x (some ⟨n, 0, none⟩) b.length (hole b) (by rw [hhl.out]; exact Nat.le_refl _) 80 (laidOf (hole b)) (laid_ref _ (by rw [hhl.out]; omega)) m hm1 (by rw [hhl.out] at hm2; omega) (laid_rng _ (hole_rng b hrng)) wr (row_C HR (by rw [hhl.out]; omega)) (ht.below (by rw [HN.out]; exact HB))
      have hmm : (laidOf (hole b)).length / 64 = m := by rw [hm1]; omega
      rw [← hmm, hhl.out] at hcall
      clear hm1 hm2 hmm
      go_wp2_with fail
      refine hcall.mono ?_
      rintro e W2 ⟨v, rfl, hR, hb2⟩
      go_wp2
      go_ret
      exact ⟨v, rfl, Kd.R_lower hR HB.size, by rw [HN.out]; exact HB.trans (hb2.mono (by rw [← HN.out]; exact HB.size))⟩
end Go.Proofs.YtglcapkmeecknaaDoor.r12
