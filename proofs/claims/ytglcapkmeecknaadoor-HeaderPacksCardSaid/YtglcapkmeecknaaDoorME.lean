/- digest.state.take where what was fed and what is fed are whole blocks. (Written by gen60.py.) digest.New at 256. (Written by gen51.py.) digest.Stream.Write: parts of whole blocks. (Written by gen52.py.) (Merged by merge.py.) -/
import Derived.Test.YtglcapkmeecknaaDoorMC
import Derived.Test.YtglcapkmeecknaaDoorMO
import Derived.StillTailTactics
import Derived.Laws.CopyOwn
import Derived.Test.YtglcapkmeecknaaDoorMA
import Derived.Test.YtglcapkmeecknaaDoorPHeaderPacksx3
/-! ## T60 -/
namespace Go.Proofs.YtglcapkmeecknaaDoor.t60
open Go Go.RowKit Go.Proofs.YtglcapkmeecknaaDoor.sha Go.Proofs.YtglcapkmeecknaaDoor.mem Go.Proofs.YtglcapkmeecknaaDoor.k70 Go.Proofs.YtglcapkmeecknaaDoor.b58 Go.Proofs.YtglcapkmeecknaaDoorW.PrintWords Go.Proofs.YtglcapkmeecknaaDoorW.PrintLast Go.Proofs.YtglcapkmeecknaaDoorW.PrintMore
set_option linter.unusedVariables false
set_option linter.unusedSimpArgs false
set_option maxHeartbeats 1000000 in
set_option maxRecDepth 100000 in
theorem take_call (kf : Nat → BitVec 32) (cub : Nat → Int) (hcub : ∀ t, t < 64 → 0 ≤ cub t ∧ cub t < 18446744073709551616 ∧ cub t / 4294967296 = nn (kf t)) (s : St) (half : List Value) (hh : half.length = 128) (g : Nat) (ty : TypeId)
    (count : Int) (hc0 : 0 ≤ count) (hc1 : count < 1099511627776) (hcm : count % 64 = 0)
    (A : Option Addr) (c : Nat) (p : List Int) (m : Nat) (hp : p.length = 64 * m) (hm : m < 1099511627776) (w : World) (hsrc : Src g w A c p) (hg5 : 5 < g) (hgc : w.heap[g]? = some (.cells (stateCells count s half) ty (0, 0))) (htab : ∀ t, t < 64 → w.cell? ⟨5, t, none⟩ = some (.int .u64 (cub t))) :
    Calls Tryd.prog 60 #[.pointer (some ⟨g, 0, none⟩), .slice A p.length c] w fun e w' => (∃ v, e = .returned v) ∧ Turn g w w' ∧ w'.heap[g]? = some (.cells (stateCells (count + 64 * (m : Int)) (upto kf s p m) half) ty (0, 0)) := by
  have hgw : g < w.heap.size := blk_lt hgc
  have HP := Aside0.mk hp
  have c1 : w.cell? ⟨g, 1, none⟩ = some (.int .i64 64) := (blk_cell hgc 1).trans (by rw [state_at]; rfl)
  have c5 : w.cell? ⟨g, 5, none⟩ = some (.int .u64 count) := (blk_cell hgc 5).trans (by rw [state_at]; rfl)
  have f5 : w.frozen? ⟨g, 5, none⟩ = false := blk_frozen hgc 5
  have hpl0 : (0 : Int) ≤ (p.length : Int) := by omega
  have hpl1 : (p.length : Int) < 70368744177664 := by omega
  go_enter Tryd.func60, Tryd.ntmps60
  clear hp
  go_wp2
  go_quiet (fail)
  go_wp2_with fail
  have BG1 : ((w.drewN nq).setCell ⟨g, 5, none⟩ (.int .u64 (count + (p.length : Int)))).heap[g]? = some (.cells (stateCells (count + 64 * (m : Int)) s half) ty (0, 0)) := by
    have h := blk_set (blk_drewN hgc nq) 5 (.int .u64 (count + (p.length : Int)))
    rw [state_set5] at h
    rw [h, HP.out]
    congr 3
  have T1 : Turn g w ((w.drewN nq).setCell ⟨g, 5, none⟩ (.int .u64 (count + (p.length : Int)))) := ((Turn.refl g w).drewN nq).setCell 5 _
  clear c1 c5 f5
  generalize (w.drewN nq).setCell ⟨g, 5, none⟩ (.int .u64 (count + (p.length : Int))) = W1 at *
  have c1 : W1.cell? ⟨g, 1, none⟩ = some (.int .i64 64) := (blk_cell BG1 1).trans (by rw [state_at]; rfl)
  have c3 : W1.cell? ⟨g, 3, none⟩ = some nf := (blk_cell BG1 3).trans (by rw [state_at]; rfl)
  have q1 : ((p.length : Int)).tdiv 64 = (m : Int) := by rw [HP.out, Int.tdiv_eq_ediv_of_nonneg (by omega)]; omega
  have q2 : IntKind.i64.wrap (m : Int) = (m : Int) := IntWalk.i64_in _ (by omega)
  have q3 : IntKind.i64.wrap ((m : Int) * 64) = (p.length : Int) := by rw [IntWalk.i64_in _ (by omega), HP.out]; omega
  go_quiet (fail)
  go_wp2_with fail
  have BG2 := blk_drewN BG1 nq
  have T2 := T1.drewN nq
  clear c1 c3 q1 q2 q3 BG1 T1
  generalize W1.drewN nq = W2 at *
  have c3 : W2.cell? ⟨g, 3, none⟩ = some (.func (.func 78) #[] #[]) := (blk_cell BG2 3).trans (by rw [state_at]; rfl)
  obtain ⟨i5, hi5, hz5, hs5, hb5⟩ := info_parts n78.info5
  have hcut : ∀ W : World, _ := cut_to (P := Tryd.prog) 25 5 .i64 Tryd.underlying25 hi5 A p.length c (p.length : Int) hpl0 (by omega) hsrc.le
  rw [Int.toNat_natCast] at hcut
  go_still_tail 11, (by kernel_rfl)
  rw [show ({ heap := W2.heap, tape := W2.tape, drawn := W2.drawn + 1, os := W2.os, output := W2.output } : World) = W2.drew from rfl]
  have BG3 := blk_drew BG2
  have T3 := T2.drew
  clear c3 BG2 T2 hcut
  generalize W2.drew = W3 at *
  go_wp2_with fail
  refine (n78.narrow_call kf cub hcub s g (stateCells (count + 64 * (m : Int)) s half) ty (by rw [state_size]; omega) (state_wds _ _ _) A c p m HP.out hm W3 (src_turn hsrc T3) hg5 BG3 (fun t ht => (T3.cell (p := ⟨5, t, none⟩) (by show 5 < w.heap.size; omega) (by show 5 ≠ g; omega)).trans (htab t ht))).mono ?_
  rintro e W4 ⟨⟨v4, rfl⟩, T4, cs4, BG4, HW4⟩
  obtain rfl := of_wds HW4
  have T5 := T3.then_ T4
  clear T3 T4 BG3 HW4
  have hcut : ∀ W : World, _ := cut_from (P := Tryd.prog) 25 5 .i64 Tryd.underlying25 hi5 1 hs5 A p.length c (p.length : Int) hpl0 (by omega)
  rw [Int.toNat_natCast, Nat.sub_self] at hcut
  generalize (if c = p.length then A else Option.map (fun x => x.add (p.length * 1)) A) = A9 at *
  go_wp2_with fail
  go_still_tail 7, (by kernel_rfl)
  rw [show ({ heap := W4.heap, tape := W4.tape, drawn := W4.drawn + 1, os := W4.os, output := W4.output } : World) = W4.drew from rfl]
  refine wpList_copy_nothing rfl (.tmp 102) (.tmp 105) 25 25 rfl 5 Tryd.underlying25 (by kernel_rfl) (some ⟨g, 14, none⟩) A9 128 128 0 (c - p.length) rfl rfl rfl ?_
  go_wp2_with fail
  exact bodyPost_end (results_none rfl _ _ _) rfl ⟨⟨_, rfl⟩, T5.drew, blk_drew BG4⟩
end Go.Proofs.YtglcapkmeecknaaDoor.t60
/-! ## N51 -/
namespace Go.Proofs.YtglcapkmeecknaaDoor.n51
open Go Go.RowKit Go.Proofs.YtglcapkmeecknaaDoor.sha Go.Proofs.YtglcapkmeecknaaDoor.mem Go.Proofs.YtglcapkmeecknaaDoor.k70 Go.Proofs.YtglcapkmeecknaaDoor.b58 Go.Proofs.YtglcapkmeecknaaDoorW.PrintWords Go.Proofs.YtglcapkmeecknaaDoorW.PrintLast Go.Proofs.YtglcapkmeecknaaDoorW.PrintMore
set_option linter.unusedVariables false
set_option linter.unusedSimpArgs false
theorem built106 (s : St) : Tryd.prog.built 106 [(0, .agg (stateCells 0 s half0))] = some (stateCells 0 s half0) := by
  unfold stateCells half0 kindCells stCells64
  generalize nn s.a = a
  generalize nn s.b = b
  generalize nn s.c = c
  generalize nn s.d = d
  generalize nn s.e = e
  generalize nn s.f = f
  generalize nn s.g = g
  generalize nn s.h = h
  kernel_rfl
theorem wpList_build_ {P : Program} {ops : Array Oper} {rest : List Oper} {o : Oper} {a : Act} {w : World} {Q : Exit → Act → World → Prop} (hg : o.guard = none) (t : TypeId) (parts : Array (Nat × Operand)) (ho : o.op = .build t parts) (cells : Array Value)
    (hc : P.built t (parts.map fun (i, x) => (i, a.eval x)).toList = some cells)
    (h : wpList P ops Q rest (a.put o.dst (.agg cells)) w) : wpList P ops Q (o :: rest) a w := wpList_build hg t parts ho (by rw [hc]; rfl) (by rw [hc]; exact h)
set_option maxHeartbeats 600000 in
set_option maxRecDepth 100000 in
theorem new_call (x : St) (sq : Nat → Int) (hsq : ∀ t, t < 8 → 0 ≤ sq t ∧ sq t < 18446744073709551616 ∧ sq t / 4294967296 = nn (stf x t)) (w : World) (hg : 4 < w.heap.size) (htab : ∀ t, t < 8 → w.cell? ⟨4, t, none⟩ = some (.int .u64 (sq t))) :
    Calls Tryd.prog 51 #[.int .i64 256] w fun e w' => ∃ g, e = .returned (.tuple #[.pointer (some ⟨g, 0, none⟩), .int .i64 0]) ∧ w.heap.size ≤ g ∧ w'.heap[g]? = some (.cells (stateCells 0 x half0) 106 (0, 0)) ∧ Below w.heap.size w w' := by
  go_enter Tryd.func51, Tryd.ntmps51
  go_wp2_with fail
  refine (begin_call x sq hsq _ hg htab).mono ?_
  rintro e W1 ⟨rfl, hb1⟩
  have hsz : (stateCells 0 x half0).size = 142 := by rw [state_size, half0_len]
  have hbt := built106 x
  have hoc := oneCells x
  generalize hcs : stateCells 0 x half0 = cs at *
  have HCS := Aside0.mk hcs
  clear hcs
  go_wp2_with (first | ((with_reducible refine gate_ (.store 102 (.tmp 4) (.tmp 9)) rfl ?_); refine wpList_store_row rfl 102 (.tmp 4) (.tmp 9) rfl W1.heap.size cs rfl rfl 102 Tryd.zeroCells102 (blk_new W1 _) ?c1 ?c2 hoc ?_; (case c1 => rw [hsz]; kernel_rfl); (case c2 => rw [hsz]; kernel_rfl); rw [World.setRow_alloc_new]; have BV := blk_new W1 (.cells cs 102); have HB := (hb1.alloc hb1.size (.cells cs 102)); have SZ : w.heap.size ≤ (W1.alloc (.cells cs 102)).heap.size := HB.size; generalize W1.heap.size = V at *; generalize W1.alloc (.cells cs 102) = W2 at *; clear hb1) | ((with_reducible refine gate_ (.load 102 (.tmp 4)) rfl ?_); refine wpList_load_row rfl 102 (.tmp 4) rfl V rfl 102 cs (0, 0) _ BV Tryd.underlying102 rfl (by rw [hsz]; kernel_rfl) ?_) | ((with_reducible refine gate_ (.build 106 #[(0, .tmp 13)]) rfl ?_); refine wpList_build_ rfl 106 #[(0, .tmp 13)] rfl cs (Eq.trans (congrArg _ (by simp only [List.map_toArray, List.map_cons, List.map_nil]; rfl)) hbt) ?_) | ((with_reducible refine gate_dst (N := 15) rfl ?_); refine box_event ?hg (N := 15) ?hd (cs := cs) (t := 106) ?hr ?_; (case hd => rfl); (case hg => rfl); (case hr => first | (go_simp; done) | (go_simp; rfl)); intro g9 hg9 W3 BB hb3) | fail)
  refine bodyPost_ret (results_tmp2 Tryd.results51 _ _ _) rfl ⟨g9, ?_, ?_, ?_, HB.trans (hb3.mono SZ)⟩
  · rw [hg9]; rfl
  · omega
  · rw [HCS.out]; exact BB
end Go.Proofs.YtglcapkmeecknaaDoor.n51
/-! ## W52 -/
namespace Go.Proofs.YtglcapkmeecknaaDoor.w52
open Go Go.RowKit Go.Proofs.YtglcapkmeecknaaDoor.PHeaderPacks Go.Proofs.YtglcapkmeecknaaDoor.sha Go.Proofs.YtglcapkmeecknaaDoor.mem Go.Proofs.YtglcapkmeecknaaDoor.k70 Go.Proofs.YtglcapkmeecknaaDoor.b58 Go.Proofs.YtglcapkmeecknaaDoorW.PrintWords Go.Proofs.YtglcapkmeecknaaDoorW.PrintLast Go.Proofs.YtglcapkmeecknaaDoorW.PrintMore
set_option linter.unusedVariables false
set_option linter.unusedSimpArgs false
set_option maxHeartbeats 2000000 in
set_option maxRecDepth 100000 in
theorem write_call (kf : Nat → BitVec 32) (cub : Nat → Int) (hcub : ∀ t, t < 64 → 0 ≤ cub t ∧ cub t < 18446744073709551616 ∧ cub t / 4294967296 = nn (kf t)) (s : St) (half : List Value) (hh : half.length = 128) (g : Nat)
    (w0 w : World) (hB : Below w0.heap.size w0 w) (hg0 : w0.heap.size ≤ g) (hgc : w.heap[g]? = some (.cells (stateCells 0 s half) 106 (0, 0)))
    (A : Option Addr) (c : Nat) (parts : List (List Int)) (hlc : parts.length ≤ c) (hC : Kd.C (Kd.slice 5 (Kd.int .u8)) w0 A parts.length parts) (K : Nat) (r : Int) (htot : digest_total.f K parts = some r) (hr0 : 0 ≤ r) (hr1 : r ≤ 33554432)
    (hp : ∀ i, i < parts.length → ∃ m, 0 < m ∧ m < 1048576 ∧ (rd_L1 parts (i : Int)).length = 64 * m) (hrng : ∀ i, i < parts.length → ∀ x ∈ rd_L1 parts (i : Int), 0 ≤ x ∧ x < 256) (hpl : parts.length < 1000)
    (hg5 : 5 < w0.heap.size) (htab : ∀ t, t < 64 → w0.cell? ⟨5, t, none⟩ = some (.int .u64 (cub t))) :
    Calls Tryd.prog 52 #[.pointer (some ⟨g, 0, none⟩), .slice A parts.length c] w fun e w' => e = .returned (.int .i64 0) ∧ Below w0.heap.size w0 w' ∧ ∃ M, parts.flatten.length = 64 * M ∧ M ≤ parts.length * 1048576 ∧ w'.heap[g]? = some (.cells (stateCells (64 * (M : Int)) (upto kf s parts.flatten M) half) 106 (0, 0)) := by
  have c5 : w.cell? ⟨g, 5, none⟩ = some (.int .u64 0) := (blk_cell hgc 5).trans (by rw [state_at]; rfl)
  have hng : decide (r > 33554432) = false := by simp; omega
  go_enter Tryd.func52, Tryd.ntmps52
  go_wp2
  go_quiet ((go_at_call 59; exact Calls.quiet_of ((digest_total.calls K A c parts r _ (Kd.C_below hC (below_drewN_ hB _)) hlc htot).mono fun _ _ h => ⟨h.1, h.2.out⟩)))
  go_wp2_with fail
  have BG0 := blk_drewN hgc nq
  have HB0 := below_drewN_ hB nq
  clear hgc hB c5
  generalize w.drewN nq = W1 at *
  go_loopw [21] (fun v21 wr => ∃ i M : Nat, i ≤ parts.length ∧ v21 = .int .i64 i ∧ (parts.take i).flatten.length = 64 * M ∧ M ≤ i * 1048576 ∧ wr.heap[g]? = some (.cells (stateCells (64 * (M : Int)) (upto kf s (parts.take i).flatten M) half) 106 (0, 0)) ∧ Below w0.heap.size w0 wr) (fun v21 _ => parts.length - (intOf v21).toNat)
  case atStart => exact ⟨0, 0, by omega, rfl, rfl, by omega, BG0, HB0⟩
  case round =>
    clear BG0 HB0
    obtain ⟨i, M, hi, rfl, hfl, hM, BG, HB⟩ := hrel
    have hflA := Aside0.mk hfl
    clear hfl
    rcases Nat.lt_or_ge i parts.length with hil | hil
    · have hlt : decide ((i : Int) < (parts.length : Int)) = true := by simp; omega
      obtain ⟨m, hm0, hm1, hpm⟩ := hp i hil
      have hpmA := Aside0.mk hpm
      clear hpm
      obtain ⟨ad, A0, c0, rfl, hcell, hlc0, hC0⟩ := at_L1 (Kd.C_below hC HB) (i : Int) (by omega) (by omega)
      rw [Int.toNat_natCast] at hcell
      have hrg := hrng i hil
      have hi0 : (0 : Int) ≤ (i : Int) := by omega
      have hne : ∀ a, A0 = some a → a.block ≠ g := by
        intro a ea
        subst ea
        obtain ⟨_, A0', c0', e1, hcell', _, hC0'⟩ := at_L1 hC (i : Int) (by omega) (by omega)
        cases e1
        rw [Int.toNat_natCast] at hcell'
        have hcb := (HB.cell (World.block_lt_of_cell? w0 _ hcell')).trans hcell'
        rw [hcell] at hcb
        injection hcb with hcb
        injection hcb with e2 _ _
        subst e2
        obtain ⟨a', ea, hc0⟩ := Kd.at_int hC0' 0 (by omega) (by rw [hpmA.out]; omega)
        cases ea
        have := World.block_lt_of_cell? w0 _ hc0
        rw [mem.add_block] at this
        omega
      have hsrc : Src g wr A0 c0 (rd_L1 parts (i : Int)) := ⟨hlc0, hC0, hne, hrg⟩
      have hcall := t60.take_call kf cub hcub (upto kf s (parts.take i).flatten M) half hh g 106 (64 * (M : Int)) (by omega) (by omega) (by omega) A0 c0 (rd_L1 parts (i : Int)) m hpmA.out (by omega) wr hsrc (by omega) BG (fun t ht => (HB.cell (p := ⟨5, t, none⟩) (by show 5 < w0.heap.size; omega)).trans (htab t ht))
      rw [upto_append _ _ _ _ _ hflA.out] at hcall
      have hta : (parts.take (i + 1)).flatten = (parts.take i).flatten ++ rd_L1 parts (i : Int) := by
        rw [List.take_succ_eq_append_getElem hil, List.flatten_append]
        congr 1
        simp [rd_L1, hil]
      rw [← hta] at hcall
      have htaA := Aside0.mk hta
      clear hta
      go_wp2_with fail
      refine hcall.mono ?_
      rintro e U1 ⟨⟨v1, rfl⟩, T1, BG1⟩
      go_wp2
      refine ⟨⟨i + 1, M + m, by omega, by go_num, by rw [htaA.out, List.length_append, hflA.out, hpmA.out]; omega, by omega, ?_, Turn.below HB T1 hg0 HB.size⟩, by simp [intOf]; omega⟩
      rw [BG1]
      congr 3
      omega
    · obtain rfl : i = parts.length := by omega
      have hlt : decide ((parts.length : Int) < (parts.length : Int)) = false := by simp
      go_wp2
      go_ret
      exact ⟨rfl, HB, M, by simpa using hflA.out, by omega, by simpa using BG⟩
end Go.Proofs.YtglcapkmeecknaaDoor.w52
