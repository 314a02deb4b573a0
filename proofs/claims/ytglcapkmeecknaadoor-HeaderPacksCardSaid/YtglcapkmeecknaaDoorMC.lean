/- math/bits.RotateLeft32 at the turns of SHA-256. (Written by genrot.py.) digest.kindOf at 256. (Written by gen70.py.) digest.first at 256: the words that SHA-256 begins with. (Written by gen71.py.) digest.begin at 256. (Written by gen58.py.) A digest's state as a row of cells: what lies where. (Merged by merge.py.) -/
import Derived.Test.YtglcapkmeecknaaDoorProg
import Derived.Test.YtglcapkmeecknaaDoorMA
import Derived.WalkKit
import Derived.Test.YtglcapkmeecknaaDoorMB
import Derived.IntWalk
import Derived.Deep.RegionHeld3
import Derived.Deep.MidRow
import Derived.Deep.WholeRow
/-! ## Rot -/
namespace Go.Proofs.YtglcapkmeecknaaDoor.rotl
open Go Go.RowKit Go.Proofs.YtglcapkmeecknaaDoor.sha
theorem ret_int {k : IntKind} {a b : Int} (h : a = b) : Ending.returned (.int k a) = .returned (.int k b) := by rw [h]
theorem call7 (x : BitVec 32) (w : World) : Calls Tryd.prog 81 #[.int .u32 (nn x), .int .i64 (-7)] w fun e w' => e = .returned (.int .u32 (nn (rot x 7))) ∧ w = w' := by
  have hm : bits .and .u64 (IntKind.u64.wrap (-7)) 31 = 25 := by decide
  have h1 := nn_shl25 x
  have h2 := nn_shr7 x
  have h3 := nn_or (x <<< 25) (x >>> 7)
  have h4 : (x <<< 25) ||| (x >>> 7) = rot x 7 := rot_or x 7
  have h5 := nn_lo x
  have h6 := nn_hi x
  rw [h4] at h3
  clear h4
  go_enter Tryd.func81, Tryd.ntmps81
  go_wp2
  go_ret
  exact ⟨rfl, rfl⟩
theorem call18 (x : BitVec 32) (w : World) : Calls Tryd.prog 81 #[.int .u32 (nn x), .int .i64 (-18)] w fun e w' => e = .returned (.int .u32 (nn (rot x 18))) ∧ w = w' := by
  have hm : bits .and .u64 (IntKind.u64.wrap (-18)) 31 = 14 := by decide
  have h1 := nn_shl14 x
  have h2 := nn_shr18 x
  have h3 := nn_or (x <<< 14) (x >>> 18)
  have h4 : (x <<< 14) ||| (x >>> 18) = rot x 18 := rot_or x 18
  have h5 := nn_lo x
  have h6 := nn_hi x
  rw [h4] at h3
  clear h4
  go_enter Tryd.func81, Tryd.ntmps81
  go_wp2
  go_ret
  exact ⟨rfl, rfl⟩
theorem call17 (x : BitVec 32) (w : World) : Calls Tryd.prog 81 #[.int .u32 (nn x), .int .i64 (-17)] w fun e w' => e = .returned (.int .u32 (nn (rot x 17))) ∧ w = w' := by
  have hm : bits .and .u64 (IntKind.u64.wrap (-17)) 31 = 15 := by decide
  have h1 := nn_shl15 x
  have h2 := nn_shr17 x
  have h3 := nn_or (x <<< 15) (x >>> 17)
  have h4 : (x <<< 15) ||| (x >>> 17) = rot x 17 := rot_or x 17
  have h5 := nn_lo x
  have h6 := nn_hi x
  rw [h4] at h3
  clear h4
  go_enter Tryd.func81, Tryd.ntmps81
  go_wp2
  go_ret
  exact ⟨rfl, rfl⟩
theorem call19 (x : BitVec 32) (w : World) : Calls Tryd.prog 81 #[.int .u32 (nn x), .int .i64 (-19)] w fun e w' => e = .returned (.int .u32 (nn (rot x 19))) ∧ w = w' := by
  have hm : bits .and .u64 (IntKind.u64.wrap (-19)) 31 = 13 := by decide
  have h1 := nn_shl13 x
  have h2 := nn_shr19 x
  have h3 := nn_or (x <<< 13) (x >>> 19)
  have h4 : (x <<< 13) ||| (x >>> 19) = rot x 19 := rot_or x 19
  have h5 := nn_lo x
  have h6 := nn_hi x
  rw [h4] at h3
  clear h4
  go_enter Tryd.func81, Tryd.ntmps81
  go_wp2
  go_ret
  exact ⟨rfl, rfl⟩
theorem call6 (x : BitVec 32) (w : World) : Calls Tryd.prog 81 #[.int .u32 (nn x), .int .i64 (-6)] w fun e w' => e = .returned (.int .u32 (nn (rot x 6))) ∧ w = w' := by
  have hm : bits .and .u64 (IntKind.u64.wrap (-6)) 31 = 26 := by decide
  have h1 := nn_shl26 x
  have h2 := nn_shr6 x
  have h3 := nn_or (x <<< 26) (x >>> 6)
  have h4 : (x <<< 26) ||| (x >>> 6) = rot x 6 := rot_or x 6
  have h5 := nn_lo x
  have h6 := nn_hi x
  rw [h4] at h3
  clear h4
  go_enter Tryd.func81, Tryd.ntmps81
  go_wp2
  go_ret
  exact ⟨rfl, rfl⟩
theorem call11 (x : BitVec 32) (w : World) : Calls Tryd.prog 81 #[.int .u32 (nn x), .int .i64 (-11)] w fun e w' => e = .returned (.int .u32 (nn (rot x 11))) ∧ w = w' := by
  have hm : bits .and .u64 (IntKind.u64.wrap (-11)) 31 = 21 := by decide
  have h1 := nn_shl21 x
  have h2 := nn_shr11 x
  have h3 := nn_or (x <<< 21) (x >>> 11)
  have h4 : (x <<< 21) ||| (x >>> 11) = rot x 11 := rot_or x 11
  have h5 := nn_lo x
  have h6 := nn_hi x
  rw [h4] at h3
  clear h4
  go_enter Tryd.func81, Tryd.ntmps81
  go_wp2
  go_ret
  exact ⟨rfl, rfl⟩
theorem call25 (x : BitVec 32) (w : World) : Calls Tryd.prog 81 #[.int .u32 (nn x), .int .i64 (-25)] w fun e w' => e = .returned (.int .u32 (nn (rot x 25))) ∧ w = w' := by
  have hm : bits .and .u64 (IntKind.u64.wrap (-25)) 31 = 7 := by decide
  have h1 := nn_shl7 x
  have h2 := nn_shr25 x
  have h3 := nn_or (x <<< 7) (x >>> 25)
  have h4 : (x <<< 7) ||| (x >>> 25) = rot x 25 := rot_or x 25
  have h5 := nn_lo x
  have h6 := nn_hi x
  rw [h4] at h3
  clear h4
  go_enter Tryd.func81, Tryd.ntmps81
  go_wp2
  go_ret
  exact ⟨rfl, rfl⟩
theorem call2 (x : BitVec 32) (w : World) : Calls Tryd.prog 81 #[.int .u32 (nn x), .int .i64 (-2)] w fun e w' => e = .returned (.int .u32 (nn (rot x 2))) ∧ w = w' := by
  have hm : bits .and .u64 (IntKind.u64.wrap (-2)) 31 = 30 := by decide
  have h1 := nn_shl30 x
  have h2 := nn_shr2 x
  have h3 := nn_or (x <<< 30) (x >>> 2)
  have h4 : (x <<< 30) ||| (x >>> 2) = rot x 2 := rot_or x 2
  have h5 := nn_lo x
  have h6 := nn_hi x
  rw [h4] at h3
  clear h4
  go_enter Tryd.func81, Tryd.ntmps81
  go_wp2
  go_ret
  exact ⟨rfl, rfl⟩
theorem call13 (x : BitVec 32) (w : World) : Calls Tryd.prog 81 #[.int .u32 (nn x), .int .i64 (-13)] w fun e w' => e = .returned (.int .u32 (nn (rot x 13))) ∧ w = w' := by
  have hm : bits .and .u64 (IntKind.u64.wrap (-13)) 31 = 19 := by decide
  have h1 := nn_shl19 x
  have h2 := nn_shr13 x
  have h3 := nn_or (x <<< 19) (x >>> 13)
  have h4 : (x <<< 19) ||| (x >>> 13) = rot x 13 := rot_or x 13
  have h5 := nn_lo x
  have h6 := nn_hi x
  rw [h4] at h3
  clear h4
  go_enter Tryd.func81, Tryd.ntmps81
  go_wp2
  go_ret
  exact ⟨rfl, rfl⟩
theorem call22 (x : BitVec 32) (w : World) : Calls Tryd.prog 81 #[.int .u32 (nn x), .int .i64 (-22)] w fun e w' => e = .returned (.int .u32 (nn (rot x 22))) ∧ w = w' := by
  have hm : bits .and .u64 (IntKind.u64.wrap (-22)) 31 = 10 := by decide
  have h1 := nn_shl10 x
  have h2 := nn_shr22 x
  have h3 := nn_or (x <<< 10) (x >>> 22)
  have h4 : (x <<< 10) ||| (x >>> 22) = rot x 22 := rot_or x 22
  have h5 := nn_lo x
  have h6 := nn_hi x
  rw [h4] at h3
  clear h4
  go_enter Tryd.func81, Tryd.ntmps81
  go_wp2
  go_ret
  exact ⟨rfl, rfl⟩
end Go.Proofs.YtglcapkmeecknaaDoor.rotl
/-! ## K70 -/
namespace Go.Proofs.YtglcapkmeecknaaDoor.k70
open Go Go.RowKit Go.Proofs.YtglcapkmeecknaaDoor.sha Go.Proofs.YtglcapkmeecknaaDoor.mem Go.Proofs.YtglcapkmeecknaaDoorW.PrintWords Go.Proofs.YtglcapkmeecknaaDoorW.PrintLast Go.Proofs.YtglcapkmeecknaaDoorW.PrintMore
set_option linter.unusedVariables false
set_option linter.unusedSimpArgs false
/-- digest.narrow as a value. -/
def nf : Value := .func (.func 78) #[] #[]
/-- What kindOf tells of 256. -/
def kindCells : Array Value := #[.int .i64 32, .int .i64 64, .int .i64 4, nf]
theorem store_nf (P : Program) (w : World) (a : Addr) :
    (store a (.func (.func 78) #[] #[])).run P w = match w.cell? a with
      | some _ => if w.frozen? a then .halt (.unsupported (.unsafePointer "a write to bytes that a string shares")) w else .ok () (w.setCell a (.func (.func 78) #[] #[]))
      | none => match w.farStore P a (.func (.func 78) #[] #[]) false with
        | .ok (w', _) => .ok () w'
        | .error h => .halt h w := run_store P w a _ _ rfl
attribute [local go_sem] store_nf
set_option maxHeartbeats 1000000 in
set_option maxRecDepth 100000 in
theorem kindOf_call (w : World) :
    Calls Tryd.prog 70 #[.int .i64 256] w fun e w' => e = .returned (.tuple #[.agg kindCells, .bool true]) ∧ Below w.heap.size w w' := by
  go_enter Tryd.func70, Tryd.ntmps70
  go_wp2
  exact bodyPost_ret (results_ct Tryd.results70 _ _ w.heap.size 99 kindCells (0, 0) _ rfl (blk_new w _) Tryd.underlying99 rfl (by kernel_rfl)) rfl ⟨rfl, below_alloc (Below.refl _ w) _⟩
end Go.Proofs.YtglcapkmeecknaaDoor.k70
/-! ## F71 -/
namespace Go.Proofs.YtglcapkmeecknaaDoor.f71
open Go Go.RowKit Go.Proofs.YtglcapkmeecknaaDoor.sha Go.Proofs.YtglcapkmeecknaaDoor.mem Go.Proofs.YtglcapkmeecknaaDoorW.PrintWords Go.Proofs.YtglcapkmeecknaaDoorW.PrintLast Go.Proofs.YtglcapkmeecknaaDoorW.PrintMore
set_option linter.unusedVariables false
set_option linter.unusedSimpArgs false
attribute [local go_sem] nn_mod nn_wrap nn_wrap64 nn_mod64
set_option maxHeartbeats 8000000 in
set_option maxRecDepth 100000 in
theorem first_call (x : St) (sq : Nat → Int) (hsq : ∀ t, t < 8 → 0 ≤ sq t ∧ sq t < 18446744073709551616 ∧ sq t / 4294967296 = nn (stf x t)) (w : World) (hg : 4 < w.heap.size) (htab : ∀ t, t < 8 → w.cell? ⟨4, t, none⟩ = some (.int .u64 (sq t))) :
    Calls Tryd.prog 71 #[.int .i64 256] w fun e w' => e = .returned (.agg (stCells64 x)) ∧ Below w.heap.size w w' := by
  go_enter Tryd.func71, Tryd.ntmps71
  go_wp2
  have B1 : (w.alloc (.cells (Array.replicate 8 (.int .u64 0)) 73)).heap[w.heap.size]? = some (.cells (Array.replicate 8 (.int .u64 0)) 73 (0, 0)) := blk_new w _
  have BB : Below w.heap.size w (w.alloc (.cells (Array.replicate 8 (.int .u64 0)) 73)) := below_alloc (Below.refl _ w) _
  have SZ : (w.alloc (.cells (Array.replicate 8 (.int .u64 0)) 73)).heap.size = w.heap.size + 1 := by simp
  have E8 : Array.replicate 8 (Value.int .u64 0) = #[.int .u64 0, .int .u64 0, .int .u64 0, .int .u64 0, .int .u64 0, .int .u64 0, .int .u64 0, .int .u64 0] := rfl
  rw [E8] at B1 BB SZ
  generalize hWa : w.alloc (.cells #[.int .u64 0, .int .u64 0, .int .u64 0, .int .u64 0, .int .u64 0, .int .u64 0, .int .u64 0, .int .u64 0] 73) = Wa at *
  clear hWa
  rw [← E8] at B1
  clear E8
  generalize hn : w.heap.size = n at *
  go_loopw [4] (fun v4 wr => ∃ (k : Nat) (L : Array Value), k ≤ 8 ∧ v4 = .int .i64 k ∧ L.size = 8 ∧ wr.heap[n]? = some (.cells L 73 (0, 0)) ∧ isWord64 L k (stf x) ∧ Turn n Wa wr) (fun v4 _ => 8 - (intOf v4).toNat)
  case atStart => exact ⟨0, _, Nat.zero_le _, rfl, by simp, B1, fun t ht => absurd ht (by omega), Turn.refl _ _⟩
  case round =>
    obtain ⟨k, L, hk, rfl, hL, BW, hw, hT⟩ := hrel
    rcases Nat.lt_or_ge k 8 with hkl | hkl
    · have hlt : decide ((k : Int) < 8) = true := by simp; omega
      have tc : wr.cell? ⟨4, k, none⟩ = some (.int .u64 (sq k)) := (hT.cell (by show 4 < Wa.heap.size; omega) (by show 4 ≠ n; omega)).trans ((BB.cell (by show 4 < n; omega)).trans (htab k hkl))
      obtain ⟨q0, q1, q2⟩ := hsq k hkl
      generalize sq k = cu at *
      have w3 : wr.cell? ⟨n, k, none⟩ = L[k]? := blk_cell BW k
      have w4 : L[k]? = some L[k] := by simp
      rw [w4] at w3
      have f3 : wr.frozen? ⟨n, k, none⟩ = false := blk_frozen BW k
      have hk0 : (0 : Int) ≤ (k : Int) := by omega
      have hk8 : (k : Int) < 8 := by omega
      have hk16 : (k : Int) < 16 := by omega
      go_wp2
      go_roundw
      case rel => exact ⟨k + 1, _, by omega, by go_num, by simp [hL], blk_set BW k _, isWord64_set hw (by omega) rfl, hT.setCell _ _⟩
      case measure => simp [intOf]; omega
    · obtain rfl : k = 8 := by omega
      rw [show ((8 : Nat) : Int) = (8 : Int) from rfl]
      have hlt : decide ((8 : Int) < 8) = false := by simp
      have EB : Below n w wr := Turn.below BB hT (by omega) (by omega)
      rw [of_word64 hw hL] at BW
      unfold stCells64 at BW
      have h0 : wr.cell? ⟨n, 0, none⟩ = some (.int .u64 (nn x.a)) := (blk_cell BW 0).trans rfl
      have z0 := blk_frozen BW 0
      have h1 : wr.cell? ⟨n, 1, none⟩ = some (.int .u64 (nn x.b)) := (blk_cell BW 1).trans rfl
      have z1 := blk_frozen BW 1
      have h2 : wr.cell? ⟨n, 2, none⟩ = some (.int .u64 (nn x.c)) := (blk_cell BW 2).trans rfl
      have z2 := blk_frozen BW 2
      have h3 : wr.cell? ⟨n, 3, none⟩ = some (.int .u64 (nn x.d)) := (blk_cell BW 3).trans rfl
      have z3 := blk_frozen BW 3
      have h4 : wr.cell? ⟨n, 4, none⟩ = some (.int .u64 (nn x.e)) := (blk_cell BW 4).trans rfl
      have z4 := blk_frozen BW 4
      have h5 : wr.cell? ⟨n, 5, none⟩ = some (.int .u64 (nn x.f)) := (blk_cell BW 5).trans rfl
      have z5 := blk_frozen BW 5
      have h6 : wr.cell? ⟨n, 6, none⟩ = some (.int .u64 (nn x.g)) := (blk_cell BW 6).trans rfl
      have z6 := blk_frozen BW 6
      have h7 : wr.cell? ⟨n, 7, none⟩ = some (.int .u64 (nn x.h)) := (blk_cell BW 7).trans rfl
      have z7 := blk_frozen BW 7
      have RR := Aside0.mk (blk_set8 BW (.int .u64 (nn x.a)) (.int .u64 (nn x.b)) (.int .u64 (nn x.c)) (.int .u64 (nn x.d)) (.int .u64 (nn x.e)) (.int .u64 (nn x.f)) (.int .u64 (nn x.g)) (.int .u64 (nn x.h)))
      have HE := Aside0.mk EB
      clear BW EB
      go_wp2
      refine bodyPost_ret (v := .agg (stCells64 x)) (results_cell_row Tryd.results71 _ _ n 73 (stCells64 x) (0, 0) _ rfl RR.out Tryd.underlying73 rfl (by kernel_rfl)) rfl ⟨rfl, ?_⟩
      rw [hn]
      exact ((((((((HE.out.setCell (p := ⟨n, 0, none⟩) (Nat.le_refl n) _).setCell (p := ⟨n, 1, none⟩) (Nat.le_refl n) _).setCell (p := ⟨n, 2, none⟩) (Nat.le_refl n) _).setCell (p := ⟨n, 3, none⟩) (Nat.le_refl n) _).setCell (p := ⟨n, 4, none⟩) (Nat.le_refl n) _).setCell (p := ⟨n, 5, none⟩) (Nat.le_refl n) _).setCell (p := ⟨n, 6, none⟩) (Nat.le_refl n) _).setCell (p := ⟨n, 7, none⟩) (Nat.le_refl n) _)
end Go.Proofs.YtglcapkmeecknaaDoor.f71
/-! ## B58 -/
namespace Go.Proofs.YtglcapkmeecknaaDoor.b58
open Go Go.RowKit Go.Proofs.YtglcapkmeecknaaDoor.sha Go.Proofs.YtglcapkmeecknaaDoor.mem Go.Proofs.YtglcapkmeecknaaDoor.k70 Go.Proofs.YtglcapkmeecknaaDoorW.PrintWords Go.Proofs.YtglcapkmeecknaaDoorW.PrintLast Go.Proofs.YtglcapkmeecknaaDoorW.PrintMore
set_option linter.unusedVariables false
set_option linter.unusedSimpArgs false
/-- An empty half block. -/
def half0 : List Value := List.replicate 128 (.int .u8 0)
theorem half0_len : half0.length = 128 := by simp [half0]
/-- A state's cells: its kind, the number, what was fed, the words, the half block. -/
def stateCells (count : Int) (s : St) (half : List Value) : Array Value := kindCells ++ #[.int .i64 256, .int .u64 count] ++ stCells64 s ++ half.toArray
theorem built102 (s : St) : Tryd.prog.built 102 [(0, .agg kindCells), (1, .int .i64 256), (3, .agg (stCells64 s))] = some (stateCells 0 s half0) := by
  unfold half0 kindCells stCells64
  generalize nn s.a = a
  generalize nn s.b = b
  generalize nn s.c = c
  generalize nn s.d = d
  generalize nn s.e = e
  generalize nn s.f = f
  generalize nn s.g = g
  generalize nn s.h = h
  kernel_rfl
theorem oneCells (s : St) : (stateCells 0 s half0).all (·.oneCell') = true := by
  unfold stateCells half0 stCells64 kindCells
  generalize nn s.a = a
  generalize nn s.b = b
  generalize nn s.c = c
  generalize nn s.d = d
  generalize nn s.e = e
  generalize nn s.f = f
  generalize nn s.g = g
  generalize nn s.h = h
  kernel_rfl
theorem state_size (c : Int) (s : St) (half : List Value) : (stateCells c s half).size = 14 + half.length := by
  simp [stateCells, kindCells, stCells64]
  omega
attribute [irreducible] stateCells half0
theorem yieldsIf_load_row {P : Program} {ops : Array Oper} {S : World → Prop} {op : Oper} {a : Act} (hw : Region.wanted op (yielded ops a.tmps) = true) (ty : TypeId) (x : Operand) (ho : op.op = .load ty x)
    (g : Nat) (hx : a.eval x = .pointer (some ⟨g, 0, none⟩)) (t : TypeId) (cs : Array Value) (fr : Nat × Nat) (d : TypeDesc) (hS : ∀ w : World, S w → w.heap[g]? = some (.cells cs t fr))
    (hu : P.underlying ty = some d) (hd : (match d with | .struct _ | .array _ _ => true | _ => false) = true) (hi : (P.info? ty).map (·.size) = some cs.size) : YieldsIf P ops S op (.agg cs) a :=
  .inl ⟨hw, fun w hw' => by
    unfold execOp
    simp only [ho, hx, Instr.loadAt, Instr.sureAddr, Sem.run_bind, Sem.run_pure, Result.andThen_ok, run_loadVar_row w g t ty cs fr d (hS w hw') hu hd hi]⟩
theorem wp_build_ {P : Program} {o : Oper} {a : Act} {w : World} {K : Act → World → Prop} {Q : Exit → Act → World → Prop} (t : TypeId) (parts : Array (Nat × Operand)) (ho : o.op = .build t parts) (cells : Array Value)
    (hc : P.built t (parts.map fun (i, x) => (i, a.eval x)).toList = some cells)
    (h : K (a.put o.dst (.agg cells)) w) : o.wp P a w K Q := wp_build t parts ho (by rw [hc]; rfl) (by rw [hc]; exact h)
set_option maxHeartbeats 600000 in
set_option maxRecDepth 100000 in
theorem begin_call (x : St) (sq : Nat → Int) (hsq : ∀ t, t < 8 → 0 ≤ sq t ∧ sq t < 18446744073709551616 ∧ sq t / 4294967296 = nn (stf x t)) (w : World) (hg : 4 < w.heap.size) (htab : ∀ t, t < 8 → w.cell? ⟨4, t, none⟩ = some (.int .u64 (sq t))) :
    Calls Tryd.prog 58 #[.int .i64 256] w fun e w' => e = .returned (.tuple #[.agg (stateCells 0 x half0), .bool true]) ∧ Below w.heap.size w w' := by
  go_enter Tryd.func58, Tryd.ntmps58
  go_wp2_with fail
  have BS : (w.alloc (.cells Tryd.zeroCells102 102)).heap[w.heap.size]? = some (.cells Tryd.zeroCells102 102 (0, 0)) := blk_new w _
  have HB : Below w.heap.size w (w.alloc (.cells Tryd.zeroCells102 102)) := below_alloc (Below.refl _ w) _
  have SZ : (w.alloc (.cells Tryd.zeroCells102 102)).heap.size = w.heap.size + 1 := by simp
  generalize w.alloc (.cells Tryd.zeroCells102 102) = Wa at *
  refine (kindOf_call _).mono ?_
  rintro e W1 ⟨rfl, hb1⟩
  have BS1 := blk_below BS hb1
  have HB1 : Below w.heap.size w W1 := HB.trans (hb1.mono HB.size)
  have SZ1 : w.heap.size < W1.heap.size := by have := hb1.size; omega
  clear BS HB SZ hb1
  generalize hn : w.heap.size = n at *
  go_wp2_with ((with_reducible refine gate_ (.store 99 (.tmp 4) (.tmp 9)) rfl ?_); refine wpList_store_row rfl 99 (.tmp 4) (.tmp 9) rfl _ kindCells rfl rfl 99 _ (blk_new _ _) (by kernel_rfl) (by kernel_rfl) (by kernel_rfl) ?_)
  rw [World.setRow_alloc_new]
  have BS2 := blk_alloc BS1 (.cells kindCells 99)
  have BK := blk_new W1 (.cells kindCells 99)
  have HB2 := HB1.alloc (by omega) (.cells kindCells 99)
  have SZ2 : W1.heap.size < (W1.alloc (.cells kindCells 99)).heap.size := by simp
  have hV : n < W1.heap.size := SZ1
  clear BS1 HB1 SZ1
  generalize W1.heap.size = V at *
  generalize W1.alloc (.cells kindCells 99) = W2 at *
  refine wp_region_held_drew (S := fun w' => w'.heap[V]? = some (.cells kindCells 99 (0, 0))) (by kernel_rfl) BK (fun hHeld => ?_)
  refine wpAnyH_take (i := 0) (v := .agg kindCells) rfl (by kernel_rfl) (by kernel_rfl) (by kernel_rfl) (fun _ _ _ h => h) (yieldsIf_load_row (by rfl) 99 (.tmp 4) rfl V rfl 99 kindCells (0, 0) _ (fun _ h => h) Tryd.underlying99 rfl (by kernel_rfl)) (by assumption) ?_
  simp only [Act.put, List.setIfInBounds_toArray, List.set_cons_zero, List.set_cons_succ]
  refine wpAnyH_take (i := 1) (v := .int .i64 256) rfl (by kernel_rfl) (by kernel_rfl) (by kernel_rfl) (fun _ _ _ h => h) (Or.inl ⟨by rfl, by intro w hSw; go_simp⟩) (by assumption) ?_
  simp only [Act.put, List.setIfInBounds_toArray, List.set_cons_zero, List.set_cons_succ]
  refine wpAnyH_take (i := 2) (v := .int .i64 256) rfl (by kernel_rfl) (by kernel_rfl) (by kernel_rfl) (fun _ _ _ h => h) (Or.inl ⟨by rfl, by intro w hSw; go_simp⟩) (by assumption) ?_
  simp only [Act.put, List.setIfInBounds_toArray, List.set_cons_zero, List.set_cons_succ]
  refine wpAnyH_take (i := 5) (v := .bool true) rfl (by kernel_rfl) (by kernel_rfl) (by kernel_rfl) (fun _ _ _ h => h) (Or.inl ⟨by rfl, by intro w hSw; go_simp⟩) (by assumption) ?_
  simp only [Act.put, List.setIfInBounds_toArray, List.set_cons_zero, List.set_cons_succ]
  refine wpAnyH_ready (rs := [3]) (by kernel_rfl) (by simp) ?_
  refine AllReadyH.cons rfl (fun K hK => ?_) AllReadyH.nil
  go_simp
  refine (f71.first_call x sq hsq W2.drew (by show 4 < W2.heap.size; omega) (fun t ht => ?_)).mono ?_
  · exact (HB2.cell (p := ⟨4, t, none⟩) (by show 4 < n; omega)).trans (htab t ht)
  rintro e W3 ⟨rfl, hb3⟩
  have BS3 := blk_below (blk_drew BS2) hb3
  have BK3 := blk_below (blk_drew BK) hb3
  have HB3 : Below n w W3 := (below_drew HB2).trans (hb3.mono (by show n ≤ W2.heap.size; omega))
  clear BS2 BK HB2 SZ2 hb3 hHeld
  refine hK.out _ _ BK3 (fun hHeld => ?_)
  clear hK K
  refine wpAnyH_ready (rs := [4]) (by kernel_rfl) (by simp) ?_
  refine AllReadyH.cons rfl (fun K hK => ?_) AllReadyH.nil
  rw [if_pos (by rfl)]
  refine wp_build_ 102 _ rfl (stateCells 0 x half0) (Eq.trans (congrArg _ (by simp only [List.map_toArray, List.map_cons, List.map_nil]; rfl)) (built102 x)) ?_
  simp only [List.getElem_toArray, List.getElem_cons_zero, List.getElem_cons_succ, Act.put, List.setIfInBounds_toArray, List.set_cons_zero, List.set_cons_succ]
  refine hK.out _ _ BK3 (fun hHeld => ?_)
  clear hK K
  refine wpAnyH_ready (rs := [6]) (by kernel_rfl) (by simp) ?_
  refine AllReadyH.cons rfl (fun K hK => ?_) AllReadyH.nil
  rw [if_pos (by rfl)]
  have hsz : (stateCells 0 x half0).size = 142 := by rw [state_size, half0_len]
  refine wp_store_row 102 (.tmp 2) (.tmp 15) rfl n (stateCells 0 x half0) rfl rfl 102 _ BS3 (by rw [hsz]; kernel_rfl) (by rw [hsz]; kernel_rfl) (oneCells x) ?_
  simp only [List.getElem_toArray, List.getElem_cons_zero, List.getElem_cons_succ, Act.put, List.setIfInBounds_toArray, List.set_cons_zero, List.set_cons_succ]
  have BS4 := setRow_heap W3 n Tryd.zeroCells102 (stateCells 0 x half0) 102 (0, 0) BS3
  refine hK.out _ _ ((setRow_other W3 n V _ (by omega)).trans BK3) (fun hHeld => ?_)
  clear hK K
  refine wpAnyH_ready (rs := [7]) (by kernel_rfl) (by simp) ?_
  refine AllReadyH.cons rfl (fun K hK => ?_) AllReadyH.nil
  go_simp
  refine hK.out _ _ ((setRow_other W3 n V _ (by omega)).trans BK3) (fun hHeld => ?_)
  clear hK K
  refine wpAnyH_done (by kernel_rfl) ?_ _
  generalize hfin : W3.setRow n (stateCells 0 x half0) = W4 at *
  go_wp2
  refine bodyPost_ret (results_ct Tryd.results58 _ _ n 102 (stateCells 0 x half0) (0, 0) _ rfl BS4 Tryd.underlying102 rfl (by rw [hsz]; kernel_rfl)) rfl ⟨rfl, ?_⟩
  rw [hn, ← hfin]
  exact ⟨HB3.os, HB3.tape, HB3.output, by rw [setRow_size]; exact HB3.size, fun k hk => (setRow_other W3 n k _ (by omega)).trans (HB3.block k hk)⟩
end Go.Proofs.YtglcapkmeecknaaDoor.b58
/-! ## State -/
namespace Go.Proofs.YtglcapkmeecknaaDoor.b58
open Go Go.RowKit Go.Proofs.YtglcapkmeecknaaDoor.sha Go.Proofs.YtglcapkmeecknaaDoor.mem Go.Proofs.YtglcapkmeecknaaDoor.k70 Go.Proofs.YtglcapkmeecknaaDoorW.PrintWords
set_option linter.unusedVariables false
theorem state_list (c : Int) (s : St) (half : List Value) : (stateCells c s half).toList = [.int .i64 32, .int .i64 64, .int .i64 4, nf, .int .i64 256, .int .u64 c, .int .u64 (nn s.a), .int .u64 (nn s.b), .int .u64 (nn s.c), .int .u64 (nn s.d), .int .u64 (nn s.e), .int .u64 (nn s.f), .int .u64 (nn s.g), .int .u64 (nn s.h)] ++ half := by
  unfold stateCells kindCells stCells64
  simp
theorem state_at (c : Int) (s : St) (half : List Value) (q : Nat) : (stateCells c s half)[q]? = ([.int .i64 32, .int .i64 64, .int .i64 4, nf, .int .i64 256, .int .u64 c, .int .u64 (nn s.a), .int .u64 (nn s.b), .int .u64 (nn s.c), .int .u64 (nn s.d), .int .u64 (nn s.e), .int .u64 (nn s.f), .int .u64 (nn s.g), .int .u64 (nn s.h)] ++ half)[q]? := by
  rw [← state_list, Array.getElem?_toList]
theorem state_word (c : Int) (s : St) (half : List Value) (i : Nat) (hi : i < 8) : (stateCells c s half)[6 + i]? = some (.int .u64 (nn (stf s i))) := by
  rw [state_at]
  obtain rfl | rfl | rfl | rfl | rfl | rfl | rfl | rfl := eight hi
  all_goals rfl
theorem state_wds (c : Int) (s : St) (half : List Value) : Wds (stateCells c s half) 8 s (stateCells c s half) := ⟨rfl, fun i hi => state_word c s half i hi, fun _ _ => rfl⟩
theorem six {t : Nat} (h : t < 6) : t = 0 ∨ t = 1 ∨ t = 2 ∨ t = 3 ∨ t = 4 ∨ t = 5 := by omega
theorem of_wds {c : Int} {s s' : St} {half : List Value} {cs : Array Value} (h : Wds (stateCells c s half) 8 s' cs) : cs = stateCells c s' half := by
  apply Array.ext_getElem?
  intro q
  by_cases h1 : q < 6
  · rw [h.out q (Or.inl h1), state_at, state_at]
    obtain rfl | rfl | rfl | rfl | rfl | rfl := six h1
    all_goals rfl
  · by_cases h2 : q < 14
    · obtain ⟨i, rfl⟩ : ∃ i, q = 6 + i := ⟨q - 6, by omega⟩
      rw [h.word i (by omega), state_word c s' half i (by omega)]
    · rw [h.out q (Or.inr (by omega)), state_at, state_at, List.getElem?_append_right (by simp; omega), List.getElem?_append_right (by simp; omega)]
      simp
theorem state_set5 (c c' : Int) (s : St) (half : List Value) : (stateCells c s half).setIfInBounds 5 (.int .u64 c') = stateCells c' s half := by
  apply Array.ext'
  rw [Array.toList_setIfInBounds, state_list, state_list]
  rfl
theorem state_half (c : Int) (s : St) (half : List Value) (i : Nat) : (stateCells c s half)[14 + i]? = half[i]? := by
  rw [state_at, List.getElem?_append_right (by simp)]
  congr 1
  simp
theorem Turn.keep {g : Nat} {w w1 : World} (h : Turn g w w1) : KeepBut w w1 g none := ⟨h.size, fun i hi hne _ => h.block i hi hne⟩
theorem src_turn {g : Nat} {w w1 : World} {A : Option Addr} {c : Nat} {b : List Int} (h : Src g w A c b) (hT : Turn g w w1) : Src g w1 A c b :=
  ⟨h.le, Kd.C_keep (0 : Int) (enc := Value.int .u8) (h1 := fun _ => rfl) h.c (Turn.keep hT) (fun ad e _ => h.ne ad e), h.ne, h.rng⟩
end Go.Proofs.YtglcapkmeecknaaDoor.b58
