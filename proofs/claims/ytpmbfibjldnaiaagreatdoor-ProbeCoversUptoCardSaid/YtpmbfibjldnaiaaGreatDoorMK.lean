/- What lies somewhere: sorted by where it begins. The closure that notes an area. The areas of metadata, one behind the other. (Written by gspc.py.) (Merged by merge.py.) -/
import Derived.Test.YtpmbfibjldnaiaaGreatDoorMJ
import Derived.Test.YtpmbfibjldnaiaaGreatDoorMB
import Derived.BigRegion
/-! ## SpotA -/
namespace Go.Proofs.YtpmbfibjldnaiaaGreatDoor.spota
open Go Go.Shelf Go.RowKit Go.Lib Go.Sort Go.Proofs.YtpmbfibjldnaiaaGreatDoor.covp Go.Proofs.YtpmbfibjldnaiaaGreatDoor.PProbeSpots Go.Proofs.YtpmbfibjldnaiaaGreatDoorW.PrintWords
set_option linter.unusedVariables false
set_option linter.unusedSimpArgs false
/-- What lies somewhere, not too far off. -/
abbrev BSp := { p : Sp // 0 ≤ p.s ∧ p.s ≤ 1099511627776 }
instance : Inhabited BSp := ⟨⟨⟨0, 0, 0, 0⟩, by decide⟩⟩
def encS (p : Sp) : List Value := [.int .i64 p.k, .int .u64 p.n, .int .u64 p.s, .int .u64 p.c]
def encB (p : BSp) : List Value := encS p.1
def cmpB (p q : BSp) : Int := p.1.s - q.1.s
theorem ltB (p q : BSp) : ltOf cmpB p q = decide (p.1.s < q.1.s) := by
  unfold ltOf cmpB
  rw [decide_eq_decide]
  omega
theorem swoB : SWO (ltOf cmpB) where
  irrefl x := by rw [ltB]; simp
  trans x y z h1 h2 := by
    rw [ltB, decide_eq_true_eq] at *
    omega
  ntrans x y z h1 h2 := by
    rw [ltB, decide_eq_false_iff_not] at *
    omega
set_option maxHeartbeats 1000000 in
set_option maxRecDepth 100000 in
theorem cmp_call (p q : BSp) (w : World) : Calls Tryz.prog 21 #[.agg (encB p).toArray, .agg (encB q).toArray] w fun e w' => e = .returned (.int .i64 (cmpB p q)) ∧ ∃ n os', w' = grow (w.drewN n) os' := by
  obtain ⟨⟨k1, n1, s1, c1⟩, h1, h2⟩ := p
  obtain ⟨⟨k2, n2, s2, c2⟩, h3, h4⟩ := q
  dsimp only at h1 h2 h3 h4
  show Calls Tryz.prog 21 #[.agg #[.int .i64 k1, .int .u64 n1, .int .u64 s1, .int .u64 c1], .agg #[.int .i64 k2, .int .u64 n2, .int .u64 s2, .int .u64 c2]] w fun e w' => e = .returned (.int .i64 (s1 - s2)) ∧ ∃ n os', w' = grow (w.drewN n) os'
  go_enter Tryz.func21, Tryz.ntmps21
  go_wp2_with fail
  go_ret
  exact ⟨rfl, 0, _, by rw [alloc_eq_grow, alloc_eq_grow, grow_grow]; rfl⟩
theorem cmpLaysB (blk off size : Nat) (w : World) : CmpLays Tryz.prog 21 #[] encB 4 cmpB blk off size w :=
  fun _ _ _ _ x y => cmp_call x y _
theorem encB_one (x : BSp) : ∀ v ∈ encB x, v.oneCell' = true := fun v hv => by
  simp [encB, encS] at hv
  rcases hv with rfl | rfl | rfl | rfl <;> rfl
theorem grownBy_sortedK (w : World) (g n : Nat) (os : Array Obj) (d : Array BSp) : w.grownBy (sortWorldK encB 4 w g 0 n d os) (some g) := by
  unfold sortWorldK putRowK
  refine ⟨rfl, rfl, rfl, by rw [size_grow]; simp [Sort.ahead], fun i hi hne => ?_⟩
  rw [heap_grow_old _ _ (by simpa [Sort.ahead] using hi)]
  have : i ≠ g := fun h => hne (by rw [h])
  simp [putRow, mapBlock, Sort.ahead, Array.getElem?_modify, Ne.symm this]
/-- The letters of a row. -/
def cellsS (l : List Sp) : List Value := l.flatMap encS
theorem cellsS_len : ∀ l : List Sp, (cellsS l).length = l.length * 4
  | [] => rfl
  | a :: t => by
    have := cellsS_len t
    simp only [cellsS, List.flatMap_cons, List.length_append, encS, List.length_cons, List.length_nil] at this ⊢
    omega
theorem cellsS_at : ∀ (l : List Sp) (i : Nat) (p : Sp) (c : Nat) (v : Value), l[i]? = some p → (encS p)[c]? = some v → (cellsS l)[i * 4 + c]? = some v
  | b :: t, 0, p, c, v, h, hv => by
    have hb : b = p := Option.some.inj h
    subst hb
    have hc : c < 4 := (List.getElem?_eq_some_iff.1 hv).1
    show (encS b ++ cellsS t)[0 * 4 + c]? = some v
    rw [Nat.zero_mul, Nat.zero_add, List.getElem?_append_left (by show c < 4; exact hc)]
    exact hv
  | b :: t, i + 1, p, c, v, h, hv => by
    have := cellsS_at t i p c v (by simpa using h) hv
    show (encS b ++ cellsS t)[(i + 1) * 4 + c]? = some v
    rw [List.getElem?_append_right (by show 4 ≤ _; omega)]
    have e : (i + 1) * 4 + c - (encS b).length = i * 4 + c := by show (i + 1) * 4 + c - 4 = _; omega
    rw [e]
    exact this
theorem cellsS_snoc (l : List Sp) (p : Sp) : cellsS (l ++ [p]) = cellsS l ++ encS p := by simp [cellsS]
theorem flat_eq (l : List BSp) : (flatK encB 4 l.toArray).toList = cellsS (l.map (·.1)) := by
  apply List.ext_getElem?
  intro t
  by_cases ht : t < l.length * 4
  · have hi : t / 4 < l.length := by omega
    have h1 : (cellsS (l.map (·.1)))[t / 4 * 4 + t % 4]? = some ((encB l[t / 4])[t % 4]'(by show _ < 4; omega)) :=
      cellsS_at _ _ l[t / 4].1 _ _ (by simp [List.getElem?_eq_getElem hi]) (List.getElem?_eq_getElem (by show _ < 4; omega))
    rw [show t / 4 * 4 + t % 4 = t by omega] at h1
    rw [h1, Array.getElem?_toList]
    have hs : t < (flatK encB 4 l.toArray).size := by simpa using ht
    have h2 := get_flatK encB 4 l.toArray t (by simpa using ht)
    rw [getElem!_pos _ t hs] at h2
    rw [Array.getElem?_eq_getElem hs, h2]
    rw [getElem!_pos l.toArray (t / 4) (by simpa using hi)]
    rw [getElem!_pos (encB l.toArray[t / 4]) (t % 4) (by show _ < 4; omega)]
    simp
  · rw [List.getElem?_eq_none (by simp; omega), List.getElem?_eq_none (by rw [cellsS_len]; simp; omega)]
theorem take_putCellsK (cur F : Array Value) (h : F.size ≤ cur.size) : (putCells id 0 F cur).toList.take F.size = F.toList := by
  apply List.ext_getElem?
  intro j
  by_cases hj : j < F.size
  · rw [List.getElem?_take_of_lt hj, Array.getElem?_toList, Array.getElem?_toList]
    simp [putCells, hj, show j < cur.size by omega]
  · rw [List.getElem?_take_eq_none (by omega), List.getElem?_eq_none (by simp; omega)]
theorem ownsRow_sortedK {w : World} {base g cap n : Nat} {os : Array Obj} {l l' : List BSp} (hl : l'.length = l.length) (hown : w.ownsRow base 44 4 (.slice (some ⟨g, 0, none⟩) l.length cap) l.length (cellsS (l.map (·.1)))) :
    (sortWorldK encB 4 w g 0 n l'.toArray os).ownsRow base 44 4 (.slice (some ⟨g, 0, none⟩) l.length cap) l.length (cellsS (l'.map (·.1))) := by
  obtain ⟨h1, h2⟩ := hown
  rcases h2 with ⟨h2, _⟩ | ⟨g2, cap2, cur, h2, h3, h4, h5, h6, h7, h8⟩
  · cases h2
  · cases h2
    have hg : g < w.heap.size := (Array.getElem?_eq_some_iff.1 h4).1
    have hh : (sortWorldK encB 4 w g 0 n l'.toArray os).heap[g]? = some (.cells (putCells id 0 (flatK encB 4 l'.toArray) cur) 44 (0, 0)) := by
      unfold sortWorldK putRowK
      rw [heap_grow_old _ _ (by simpa [Sort.ahead] using hg)]
      simp [putRow, mapBlock, Sort.ahead, Array.getElem?_modify, h4, onCells]
    have hsz : (flatK encB 4 l'.toArray).size = l.length * 4 := by simp [hl]
    refine ⟨by rw [cellsS_len]; simp [hl], .inr ⟨g, cap, _, rfl, h3, hh, h5, h6, by simp [putCells, h7], ?_⟩⟩
    rw [← hsz, take_putCellsK cur _ (by rw [hsz, h7]; omega), flat_eq]
theorem holds_of_own {w : World} {base g cap : Nat} {l : List BSp} (hown : w.ownsRow base 44 4 (.slice (some ⟨g, 0, none⟩) l.length cap) l.length (cellsS (l.map (·.1)))) : HoldsK encB 4 w g 0 l.toArray := by
  have hc := hown.cells (g := g) rfl
  have hfr : ∀ j, w.frozen? ⟨g, j, none⟩ = false := by
    rcases hown.2 with ⟨h2, _⟩ | ⟨g2, cap2, cur, h2, h3, h4, _⟩
    · cases h2
    · cases h2
      exact fun j => blk_frozen h4 j
  intro j hj
  have hj2 : j < l.length * 4 := by simpa using hj
  refine ⟨?_, hfr _⟩
  have ea : (⟨g, 0, none⟩ : Addr).add j = ⟨g, 0 + j, none⟩ := by unfold Addr.add; split <;> simp_all
  have hlt : j < (flatK encB 4 l.toArray).size := hj
  have h1 := hc j (flatK encB 4 l.toArray)[j] (by
    rw [← flat_eq, Array.getElem?_toList]
    exact Array.getElem?_eq_getElem hlt)
  rw [ea] at h1
  rw [h1, getElem!_pos _ j hlt]
  rfl
/-- Sorted: a permutation, each begins where the ones ahead of it begin, or behind. -/
def SortEnd (w : World) (base g cap : Nat) (l : List BSp) (e : Ending) (w' : World) : Prop :=
  ∃ l' : List BSp, e = .returned (.tuple #[]) ∧ l'.Perm l ∧ l'.Pairwise (fun p q => p.1.s ≤ q.1.s) ∧ w'.ownsRow base 44 4 (.slice (some ⟨g, 0, none⟩) l.length cap) l.length (cellsS (l'.map (·.1))) ∧ w.grownBy w' (some g)
theorem sort_call (base g cap : Nat) (l : List BSp) (w : World) (hown : w.ownsRow base 44 4 (.slice (some ⟨g, 0, none⟩) l.length cap) l.length (cellsS (l.map (·.1)))) (hl : l.length < 4611686018427387904) :
    Calls Tryz.prog 20 #[.slice (some ⟨g, 0, none⟩) l.length cap, .func (.func 21) #[] #[]] w (SortEnd w base g cap l) := by
  have eg : ∀ args w, (callFunc 21 args).run Tryz.prog w = .ok (.enter 21 args) w := enters_of Tryz.func21 (by kernel_rfl) rfl
  have hg : g < w.heap.size := (hown.lt g rfl).2
  have hcon := AnyQ.slices_SortFunc Tryz.sortSpot 4 Tryz.isAgg44 Tryz.sizeOf44 encB (fun _ => rfl) encB_one cmpB swoB 21 #[] g 0 cap l.toArray w eg (cmpLaysB g 0 l.toArray.size w) (holds_of_own hown) hg (by simpa using hl)
  refine hcon.mono ?_
  rintro e w' ⟨rfl, d', n, os, hp, hs, rfl⟩
  obtain ⟨p1, _, p3⟩ := hp
  have hsz : d'.size = l.length := by simpa using p1
  have hperm : d'.toList.Perm l := by
    have e1 : d'.extract 0 l.toArray.size = d' := by
      rw [Array.extract_eq_self_of_le]
      simp; omega
    have e2 : l.toArray.extract 0 l.toArray.size = l.toArray := by simp
    rw [e1, e2] at p3
    simpa using p3
  refine ⟨d'.toList, rfl, hperm, ?_, ?_, grownBy_sortedK w g n os d'⟩
  · rw [List.pairwise_iff_getElem]
    intro i j hi hj hij
    simp only [Array.length_toList] at hi hj
    have h1 := hs i j (Nat.zero_le _) hij (by simp; omega)
    rw [getElem!_pos d' j hj, getElem!_pos d' i hi, ltB, decide_eq_false_iff_not] at h1
    simp only [Array.getElem_toList]
    omega
  · have := ownsRow_sortedK (n := n) (os := os) (l' := d'.toList) (by simpa using hsz) hown
    simpa using this
end Go.Proofs.YtpmbfibjldnaiaaGreatDoor.spota
/-! ## SpotB -/
namespace Go.Proofs.YtpmbfibjldnaiaaGreatDoor.spotb
open Go Go.RowKit Go.Proofs.YtpmbfibjldnaiaaGreatDoor.shapea Go.Proofs.YtpmbfibjldnaiaaGreatDoor.sega Go.Proofs.YtpmbfibjldnaiaaGreatDoor.segc Go.Proofs.YtpmbfibjldnaiaaGreatDoor.covp Go.Proofs.YtpmbfibjldnaiaaGreatDoor.spota Go.Proofs.YtpmbfibjldnaiaaGreatDoor.PProbeSpots Go.Proofs.YtpmbfibjldnaiaaGreatDoorW.PrintWords
set_option linter.unusedVariables false
set_option linter.unusedSimpArgs false
/-- What becomes of the blocks: all but bc and the row's stay. -/
structure KeptX (W W' : World) (bc : Nat) (row : Option Nat) : Prop where
  os : W'.os = W.os
  tape : W'.tape = W.tape
  output : W'.output = W.output
  size : W.heap.size ≤ W'.heap.size
  block : ∀ k, k < W.heap.size → k ≠ bc → some k ≠ row → W'.heap[k]? = W.heap[k]?
/-- What an area is noted as. -/
def spotOf (u nx slot off size : Int) : Sp := if slot < 0 then ⟨4, nx, off / u, size / u⟩ else ⟨3, slot, off / u, size / u⟩
def ClEnd (W : World) (bc : Nat) (v : Value) (l : List Sp) (e : Ending) (W' : World) : Prop :=
  e = .returned (.tuple #[]) ∧ ∃ v', W'.heap[bc]? = some (.cells #[v'] 37 (0, 0)) ∧ W'.ownsRow (bc + 1) 44 4 v' l.length (cellsS l) ∧ (v'.ownBlock = v.ownBlock ∨ ∃ g, v'.ownBlock = some g ∧ W.heap.size ≤ g) ∧ KeptX W W' bc v.ownBlock
theorem info44 : (Tryz.prog.info? 44).map (fun i => (i.zero, i.size, i.bytes)) = some (some (.agg #[.int .i64 0, .int .u64 0, .int .u64 0, .int .u64 0]), 4, 32) := by kernel_rfl
theorem encS_one (p : Sp) : ∀ v ∈ encS p, v.oneCell' = true := fun v hv => by
  simp [encS] at hv
  rcases hv with rfl | rfl | rfl | rfl <;> rfl
set_option maxHeartbeats 8000000 in
set_option maxRecDepth 100000 in
theorem note_slot (bu bm bc : Nat) (u nx slot off size : Int) (v : Value) (l : List Sp) (W : World) (hv : W.heap[bc]? = some (.cells #[v] 37 (0, 0))) (hown : W.ownsRow (bc + 1) 44 4 v l.length (cellsS l)) (hu : W.cell? ⟨bu, 0, none⟩ = some (.int .u64 u)) (hnx : W.cell? ⟨bm, 16, none⟩ = some (.int .u64 nx))
    (u1 : 512 ≤ u) (u2 : u ≤ 4096) (s0 : 0 ≤ slot) (s1 : slot ≤ 1000000) (o0 : 0 ≤ off) (o1 : off ≤ 1099511627776) (z0 : 0 ≤ size) (z1 : size ≤ 1099511627776) (hl : l.length ≤ 1000000) :
    Calls Tryz.prog 19 #[.int .i64 slot, .agg #[.int .i64 off, .int .i64 size], .pointer (some ⟨bu, 0, none⟩), .pointer (some ⟨bm, 0, none⟩), .pointer (some ⟨bc, 0, none⟩)] W (ClEnd W bc v (l ++ [spotOf u nx slot off size])) := by
  obtain ⟨i0, hi0, hz0, hs0, hb0⟩ := info_parts info44
  have hlu : bu < W.heap.size := World.block_lt_of_cell? W _ hu
  have hlc : bc < W.heap.size := blk_lt hv
  have hcv : W.cell? ⟨bc, 0, none⟩ = some v := (blk_cell hv 0).trans rfl
  have hfv : W.frozen? ⟨bc, 0, none⟩ = false := blk_frozen hv 0
  have HV := Aside0.mk hv
  have HO := Aside0.mk hown
  have hsl : decide (slot < 0) = false := decide_eq_false (by omega)
  have hu0 : (u == 0) = false := by simp; omega
  clear hv hown
  go_enter Tryz.func19, Tryz.ntmps19
  go_wp2_with fail
  go_region
  have hsp : spotOf u nx slot off size = (⟨3, slot, off / u, size / u⟩ : Sp) := by unfold spotOf; rw [if_neg (by omega)]
  have HSP := Aside0.mk hsp
  clear hsp
  go_wp2_with (at_builtin; refine wpList_append_lies _ rfl (.tmp 28) (.tmp 30) 37 rfl (bc + 1) 44 i0 _ 4 32 Tryz.underlying37 hi0 hz0 hs0 hb0 rfl (by decide) _ l.length _ rfl (((HO.out.alloc _).alloc _).alloc _) ⟨W.heap.size + 2, 0, none⟩ 1 1 (encS (⟨3, slot, off / u, size / u⟩ : Sp)) rfl rfl (World.news_of_block (blk_new' _ _ _ (by simp))) (encS_one _) (by decide) (by unfold maxLen; omega) (by omega) (by simp; omega) _ rfl ?_; intro g' cap w1 q1 q2 q3 q4; have HH := Aside0.mk (And.intro q1 (And.intro q2 (And.intro q3 q4))); have kv := (q2.block bc (by simp; omega) (fun e => by have := (HO.out.lt bc e.symm).1; omega)); have kw : w1.heap[bc]? = some (.cells #[v] 37 (0, 0)) := kv.trans (blk_alloc (blk_alloc (blk_alloc HV.out _) _) _); have cw : w1.cell? ⟨bc, 0, none⟩ = some v := (blk_cell kw 0).trans rfl; have fw : w1.frozen? ⟨bc, 0, none⟩ = false := blk_frozen kw 0; have KW := Aside0.mk kw; clear q1 q2 q3 q4 kv kw)
  go_end0
  obtain ⟨q1, q2, q3, q4⟩ := HH.out
  have hg : bc + 1 ≤ g' := (q1.lt g' rfl).1
  refine ⟨rfl, .slice (some ⟨g', 0, none⟩) (l.length + 1) cap, blk_set KW.out 0 _, ?_, ?_, ?_⟩
  · rw [HSP.out, cellsS_snoc, List.length_append]
    exact own_setCell (p := ⟨bc, 0, none⟩) q1 (by show some bc ≠ some g'; simp; omega) _
  · rcases q3 with q3 | q3
    · left
      exact q3.symm
    · right
      exact ⟨g', rfl, by simp at q3; omega⟩
  · refine ⟨q2.os, q2.tape, q2.output, by have := q2.size; simp [World.setCell] at this ⊢; omega, fun i hi h1 h2 => ?_⟩
    rw [Below.heap_setCell w1 ⟨bc, 0, none⟩ _ i h1]
    refine (q2.block i (by simp; omega) h2).trans ?_
    have e1 := Below.heap_alloc W (.cells #[.int .i64 off, .int .i64 size] 31) i hi
    have e2 := Below.heap_alloc (W.alloc (.cells #[.int .i64 off, .int .i64 size] 31)) (.cells (encS (⟨3, slot, off / u, size / u⟩ : Sp)).toArray 44) i (by simp; omega)
    exact (Below.heap_alloc _ _ i (by simp; omega)).trans (e2.trans e1)
set_option maxHeartbeats 8000000 in
set_option maxRecDepth 100000 in
theorem note_journal (bu bm bc : Nat) (u nx off size : Int) (v : Value) (l : List Sp) (W : World) (hv : W.heap[bc]? = some (.cells #[v] 37 (0, 0))) (hown : W.ownsRow (bc + 1) 44 4 v l.length (cellsS l)) (hu : W.cell? ⟨bu, 0, none⟩ = some (.int .u64 u)) (hnx : W.cell? ⟨bm, 16, none⟩ = some (.int .u64 nx))
    (u1 : 512 ≤ u) (u2 : u ≤ 4096) (o0 : 0 ≤ off) (o1 : off ≤ 1099511627776) (z0 : 0 ≤ size) (z1 : size ≤ 1099511627776) (hl : l.length ≤ 1000000) :
    Calls Tryz.prog 19 #[.int .i64 (-1), .agg #[.int .i64 off, .int .i64 size], .pointer (some ⟨bu, 0, none⟩), .pointer (some ⟨bm, 0, none⟩), .pointer (some ⟨bc, 0, none⟩)] W (ClEnd W bc v (l ++ [spotOf u nx (-1) off size])) := by
  obtain ⟨i0, hi0, hz0, hs0, hb0⟩ := info_parts info44
  have hlu : bu < W.heap.size := World.block_lt_of_cell? W _ hu
  have hlc : bc < W.heap.size := blk_lt hv
  have hcv : W.cell? ⟨bc, 0, none⟩ = some v := (blk_cell hv 0).trans rfl
  have hfv : W.frozen? ⟨bc, 0, none⟩ = false := blk_frozen hv 0
  have HV := Aside0.mk hv
  have HO := Aside0.mk hown
  have hlm : bm < W.heap.size := World.block_lt_of_cell? W _ hnx
  have hu0 : (u == 0) = false := by simp; omega
  clear hv hown
  go_enter Tryz.func19, Tryz.ntmps19
  go_wp2_with fail
  go_region
  have hsp : spotOf u nx (-1) off size = (⟨4, nx, off / u, size / u⟩ : Sp) := by unfold spotOf; rw [if_pos (by omega)]
  have HSP := Aside0.mk hsp
  clear hsp
  go_wp2_with fail
  go_region
  go_wp2_with (at_builtin; refine wpList_append_lies _ rfl (.tmp 28) (.tmp 30) 37 rfl (bc + 1) 44 i0 _ 4 32 Tryz.underlying37 hi0 hz0 hs0 hb0 rfl (by decide) _ l.length _ rfl (((HO.out.alloc _).alloc _).alloc _) ⟨W.heap.size + 2, 0, none⟩ 1 1 (encS (⟨4, nx, off / u, size / u⟩ : Sp)) rfl rfl (World.news_of_block (blk_new' _ _ _ (by simp))) (encS_one _) (by decide) (by unfold maxLen; omega) (by omega) (by simp; omega) _ rfl ?_; intro g' cap w1 q1 q2 q3 q4; have HH := Aside0.mk (And.intro q1 (And.intro q2 (And.intro q3 q4))); have kv := (q2.block bc (by simp; omega) (fun e => by have := (HO.out.lt bc e.symm).1; omega)); have kw : w1.heap[bc]? = some (.cells #[v] 37 (0, 0)) := kv.trans (blk_alloc (blk_alloc (blk_alloc HV.out _) _) _); have cw : w1.cell? ⟨bc, 0, none⟩ = some v := (blk_cell kw 0).trans rfl; have fw : w1.frozen? ⟨bc, 0, none⟩ = false := blk_frozen kw 0; have KW := Aside0.mk kw; clear q1 q2 q3 q4 kv kw)
  go_end0
  obtain ⟨q1, q2, q3, q4⟩ := HH.out
  have hg : bc + 1 ≤ g' := (q1.lt g' rfl).1
  refine ⟨rfl, .slice (some ⟨g', 0, none⟩) (l.length + 1) cap, blk_set KW.out 0 _, ?_, ?_, ?_⟩
  · rw [HSP.out, cellsS_snoc, List.length_append]
    exact own_setCell (p := ⟨bc, 0, none⟩) q1 (by show some bc ≠ some g'; simp; omega) _
  · rcases q3 with q3 | q3
    · left
      exact q3.symm
    · right
      exact ⟨g', rfl, by simp at q3; omega⟩
  · refine ⟨q2.os, q2.tape, q2.output, by have := q2.size; simp [World.setCell] at this ⊢; omega, fun i hi h1 h2 => ?_⟩
    rw [Below.heap_setCell w1 ⟨bc, 0, none⟩ _ i h1]
    refine (q2.block i (by simp; omega) h2).trans ?_
    have e1 := Below.heap_alloc W (.cells #[.int .i64 off, .int .i64 size] 31) i hi
    have e2 := Below.heap_alloc (W.alloc (.cells #[.int .i64 off, .int .i64 size] 31)) (.cells (encS (⟨4, nx, off / u, size / u⟩ : Sp)).toArray 44) i (by simp; omega)
    exact (Below.heap_alloc _ _ i (by simp; omega)).trans (e2.trans e1)
end Go.Proofs.YtpmbfibjldnaiaaGreatDoor.spotb
/-! ## SpotC -/
namespace Go.Proofs.YtpmbfibjldnaiaaGreatDoor.spotc
open Go Go.RowKit Go.Proofs.YtpmbfibjldnaiaaGreatDoor.shapea Go.Proofs.YtpmbfibjldnaiaaGreatDoor.rota Go.Proofs.YtpmbfibjldnaiaaGreatDoor.ara Go.Proofs.YtpmbfibjldnaiaaGreatDoor.covp Go.Proofs.YtpmbfibjldnaiaaGreatDoor.spota Go.Proofs.YtpmbfibjldnaiaaGreatDoor.spotb Go.Proofs.YtpmbfibjldnaiaaGreatDoor.PProbeSpots Go.Proofs.YtpmbfibjldnaiaaGreatDoorW.PrintWords
set_option linter.unusedVariables false
set_option linter.unusedSimpArgs false
def noteOf (u nx : Int) (s : S53) : Sp := spotOf u nx s.f0 s.f7.f0 s.f7.f1
/-- What has been noted, in world W', since W; the parameter's block stays. -/
structure ClIn (W W' : World) (bc : Nat) (cs : Array Value) (v : Value) (l : List Sp) : Prop where
  at_ : W'.heap[bc]? = some (.cells #[v] 37 (0, 0))
  own : W'.ownsRow (bc + 1) 44 4 v l.length (cellsS l)
  ne : v.ownBlock ≠ some W.heap.size
  below : Below bc W W'
  par : W'.heap[W.heap.size]? = some (.cells cs 36 (0, 0))
  lt : bc < W.heap.size
theorem ClIn.step0 {W wr W1 : World} {bc : Nat} {cs : Array Value} {v v' : Value} {l : List Sp} (h : ClIn W wr bc cs v l) (p : Sp) (q1 : W1.heap[bc]? = some (.cells #[v'] 37 (0, 0))) (q2 : W1.ownsRow (bc + 1) 44 4 v' (l ++ [p]).length (cellsS (l ++ [p]))) (q3 : v'.ownBlock = v.ownBlock ∨ ∃ g, v'.ownBlock = some g ∧ wr.heap.size ≤ g) (q4 : KeptX wr W1 bc v.ownBlock) : ClIn W W1 bc cs v' (l ++ [p]) := by
  have hlw : W.heap.size < wr.heap.size := blk_lt h.par
  refine ⟨q1, q2, ?_, ?_, ?_, h.lt⟩
  · rcases q3 with q3 | ⟨g, q3, q5⟩
    · rw [q3]; exact h.ne
    · rw [q3]
      intro e
      have := Option.some.inj e
      omega
  · refine h.below.trans ⟨q4.os, q4.tape, q4.output, q4.size, fun k hk => q4.block k (by have := h.lt; omega) (by omega) (fun e => ?_)⟩
    have := (h.own.lt k e.symm).1
    omega
  · exact (q4.block _ hlw (by have := h.lt; omega) (fun e => h.ne e.symm)).trans h.par
theorem ClIn.step {W wr W1 : World} {X : Obj} {bc : Nat} {cs : Array Value} {v v' : Value} {l : List Sp} (h : ClIn W wr bc cs v l) (p : Sp) (q1 : W1.heap[bc]? = some (.cells #[v'] 37 (0, 0))) (q2 : W1.ownsRow (bc + 1) 44 4 v' (l ++ [p]).length (cellsS (l ++ [p]))) (q3 : v'.ownBlock = v.ownBlock ∨ ∃ g, v'.ownBlock = some g ∧ (wr.alloc X).heap.size ≤ g) (q4 : KeptX (wr.alloc X) W1 bc v.ownBlock) : ClIn W W1 bc cs v' (l ++ [p]) := by
  have hlw : W.heap.size < wr.heap.size := blk_lt h.par
  have h1 : ClIn W (wr.alloc X) bc cs v l := ⟨blk_alloc h.at_ _, h.own.alloc X, h.ne, h.below.alloc (by have := h.lt; omega) _, blk_alloc h.par _, h.lt⟩
  exact h1.step0 p q1 q2 q3 q4
set_option maxHeartbeats 8000000 in
set_option maxRecDepth 100000 in
theorem areas_off (v0 v1 v2 v3 v4 v5 v6 v7 v8 v9 v10 v12 v13 v26 : Value) (bu bm bc : Nat) (u nx : Int) (A : Option Addr) (c : Nat) (l : List S53) (r : RotV) (w W : World) (hv : W.heap[bc]? = some (.cells #[.slice none 0 0] 37 (0, 0))) (hu : W.cell? ⟨bu, 0, none⟩ = some (.int .u64 u)) (hnx : W.cell? ⟨bm, 16, none⟩ = some (.int .u64 nx)) (hbu : bu < bc) (hbm : bm < bc) (hw0 : w.heap.size ≤ bc) (hbw : Below w.heap.size w W) (hR : Kd.C k53 w A l.length l) (hl : l.length ≤ 1000) (u1 : 512 ≤ u) (u2 : u ≤ 4096) (hb : ∀ s ∈ l, (0 ≤ s.f0 ∧ s.f0 ≤ 1000000) ∧ (0 ≤ s.f7.f0 ∧ s.f7.f0 ≤ 1099511627776) ∧ 0 ≤ s.f7.f1 ∧ s.f7.f1 ≤ 1099511627776) :
    Calls Tryz.prog 18 #[.agg #[v0, v1, v2, v3, v4, v5, v6, v7, v8, v9, v10, .slice A l.length c, v12, v13, .bool false, .int .u64 r.fr, .int .u64 r.nx, .bool r.back, .int .i64 r.mode, .int .u64 r.hot, .int .u64 r.dn, .int .i64 r.off, .int .i64 r.size, .bool r.act, .int .u64 r.cnt, .string r.sum, v26], .func (.func 19) #[] #[.pointer (some ⟨bu, 0, none⟩), .pointer (some ⟨bm, 0, none⟩), .pointer (some ⟨bc, 0, none⟩)]] W (fun e W' => e = .returned (.tuple #[]) ∧ ∃ v, ClIn W W' bc #[v0, v1, v2, v3, v4, v5, v6, v7, v8, v9, v10, .slice A l.length c, v12, v13, .bool false, .int .u64 r.fr, .int .u64 r.nx, .bool r.back, .int .i64 r.mode, .int .u64 r.hot, .int .u64 r.dn, .int .i64 r.off, .int .i64 r.size, .bool r.act, .int .u64 r.cnt, .string r.sum, v26] v (l.map (noteOf u nx))) := by
  have hlc : bc < W.heap.size := blk_lt hv
  have HC0 : Aside0 (ClIn W (W.alloc (.cells #[v0, v1, v2, v3, v4, v5, v6, v7, v8, v9, v10, .slice A l.length c, v12, v13, .bool false, .int .u64 r.fr, .int .u64 r.nx, .bool r.back, .int .i64 r.mode, .int .u64 r.hot, .int .u64 r.dn, .int .i64 r.off, .int .i64 r.size, .bool r.act, .int .u64 r.cnt, .string r.sum, v26] 36)) bc #[v0, v1, v2, v3, v4, v5, v6, v7, v8, v9, v10, .slice A l.length c, v12, v13, .bool false, .int .u64 r.fr, .int .u64 r.nx, .bool r.back, .int .i64 r.mode, .int .u64 r.hot, .int .u64 r.dn, .int .i64 r.off, .int .i64 r.size, .bool r.act, .int .u64 r.cnt, .string r.sum, v26] (.slice none 0 0) []) := ⟨⟨blk_alloc hv _, World.ownsRow_nil _ _ _ _, (by intro h; cases h), (b_alloc W _).mono (by omega), blk_new W _, hlc⟩⟩
  have HU := Aside0.mk hu
  have HNX := Aside0.mk hnx
  have HBW0 := Aside0.mk hbw
  have HR := Aside0.mk hR
  have HBD := Aside0.mk hb
  clear hv hu hnx hbw hR hb
  go_enter Tryz.func18, Tryz.ntmps18
  go_wp2_with fail
  go_loopg [9] (l.length + 1) (fun kq s9 wr => ∃ (i : Nat) (v : Value), Aside0 (s9 = .int .i64 (i : Int)) ∧ Aside0 (i ≤ l.length ∧ kq + i = l.length + 1) ∧ Aside0 (ClIn W wr bc #[v0, v1, v2, v3, v4, v5, v6, v7, v8, v9, v10, .slice A l.length c, v12, v13, .bool false, .int .u64 r.fr, .int .u64 r.nx, .bool r.back, .int .i64 r.mode, .int .u64 r.hot, .int .u64 r.dn, .int .i64 r.off, .int .i64 r.size, .bool r.act, .int .u64 r.cnt, .string r.sum, v26] v ((l.take i).map (noteOf u nx))))
  case atStart => exact ⟨0, .slice none 0 0, ⟨rfl⟩, ⟨by omega⟩, ⟨HC0.out⟩⟩
  case round =>
    obtain ⟨i, v, H9, HI, HC⟩ := hrel
    obtain rfl := H9.out
    obtain ⟨hi, hk⟩ := HI.out
    have HQ := Aside0.mk hk
    clear hk
    have hbc := HC.out.lt
    have hbcw : bc < wr.heap.size := blk_lt HC.out.at_
    have HBW : Aside0 (Below w.heap.size w wr) := ⟨HBW0.out.trans (HC.out.below.mono hw0)⟩
    by_cases hlt : i < l.length
    · obtain ⟨ad, e, c0, c1, c2, c3, c4, c5, c6, c7, c8⟩ := at_T53 HR.out (i : Int) (by omega) (by omega)
      have hx : rd_T53 l (i : Int) = l[i] := by
        unfold rd_T53
        rw [Int.toNat_natCast, List.getD_eq_getElem?_getD, List.getElem?_eq_getElem hlt]
        rfl
      rw [hx] at c0 c1 c2 c3 c4 c5 c6 c7 c8
      rw [Int.toNat_natCast] at c0 c1 c2 c3 c4 c5 c6 c7 c8
      have mv : ∀ {a : Addr} {u : Value}, w.cell? a = some u → wr.cell? a = some u := fun h => (HBW.out.cell (World.block_lt_of_cell? w _ h)).trans h
      replace c0 := mv c0
      replace c1 := mv c1
      replace c2 := mv c2
      replace c3 := mv c3
      replace c4 := mv c4
      replace c5 := mv c5
      replace c6 := mv c6
      replace c7 := mv c7
      replace c8 := mv c8
      clear mv hx
      obtain ⟨⟨b1, b2⟩, ⟨b3, b4⟩, b5, b6⟩ := HBD.out l[i] (List.getElem_mem hlt)
      have HTK : Aside0 ((l.take (i + 1)).map (noteOf u nx) = (l.take i).map (noteOf u nx) ++ [spotOf u nx l[i].f0 l[i].f7.f0 l[i].f7.f1]) := ⟨by rw [take_snoc' l i hlt, List.map_append]; rfl⟩
      have HNS := Aside0.mk (fun X => note_slot bu bm bc u nx l[i].f0 l[i].f7.f0 l[i].f7.f1 v ((l.take i).map (noteOf u nx)) (wr.alloc X) (blk_alloc HC.out.at_ _) (by simpa using HC.out.own.alloc X) (((b_alloc wr X).cell (by show bu < _; omega)).trans ((HC.out.below.cell hbu).trans HU.out)) (((b_alloc wr X).cell (by show bm < _; omega)).trans ((HC.out.below.cell hbm).trans HNX.out)) u1 u2 b1 b2 b3 b4 b5 b6 (by simp; omega))
      clear b1 b2 b3 b4 b5 b6
      cases e
      go_wp2_with fail
      refine (HNS.out _).mono ?_
      rintro e W1 ⟨rfl, v', q1, q2, q3, q4⟩
      have HC1 : Aside0 (ClIn W W1 bc #[v0, v1, v2, v3, v4, v5, v6, v7, v8, v9, v10, .slice (some ad) l.length c, v12, v13, .bool false, .int .u64 r.fr, .int .u64 r.nx, .bool r.back, .int .i64 r.mode, .int .u64 r.hot, .int .u64 r.dn, .int .i64 r.off, .int .i64 r.size, .bool r.act, .int .u64 r.cnt, .string r.sum, v26] v' ((l.take (i + 1)).map (noteOf u nx))) := ⟨by rw [HTK.out]; exact HC.out.step _ q1 q2 q3 q4⟩
      clear q1 q2 q3 q4
      go_wp2_with fail
      go_roundg (l.length - i)
      case rel => exact ⟨i + 1, v', ⟨by go_num⟩, ⟨by omega, by omega⟩, HC1⟩
      case measure => have := HQ.out; omega
    · obtain rfl : i = l.length := by omega
      have m14 : wr.cell? ⟨W.heap.size, 14, none⟩ = some (.bool false) := (blk_cell HC.out.par 14).trans rfl
      go_wp2_with fail
      go_end0
      refine ⟨rfl, v, ?_⟩
      have := HC.out
      rw [List.take_length] at this
      exact this
set_option maxHeartbeats 8000000 in
set_option maxRecDepth 100000 in
theorem areas_on (v0 v1 v2 v3 v4 v5 v6 v7 v8 v9 v10 v12 v13 v26 : Value) (bu bm bc : Nat) (u nx : Int) (A : Option Addr) (c : Nat) (l : List S53) (r : RotV) (w W : World) (hv : W.heap[bc]? = some (.cells #[.slice none 0 0] 37 (0, 0))) (hu : W.cell? ⟨bu, 0, none⟩ = some (.int .u64 u)) (hnx : W.cell? ⟨bm, 16, none⟩ = some (.int .u64 nx)) (hbu : bu < bc) (hbm : bm < bc) (hw0 : w.heap.size ≤ bc) (hbw : Below w.heap.size w W) (hR : Kd.C k53 w A l.length l) (hl : l.length ≤ 1000) (u1 : 512 ≤ u) (u2 : u ≤ 4096) (hb : ∀ s ∈ l, (0 ≤ s.f0 ∧ s.f0 ≤ 1000000) ∧ (0 ≤ s.f7.f0 ∧ s.f7.f0 ≤ 1099511627776) ∧ 0 ≤ s.f7.f1 ∧ s.f7.f1 ≤ 1099511627776) (j1 : 0 ≤ r.off) (j2 : r.off ≤ 1099511627776) (j3 : 0 ≤ r.size) (j4 : r.size ≤ 1099511627776) :
    Calls Tryz.prog 18 #[.agg #[v0, v1, v2, v3, v4, v5, v6, v7, v8, v9, v10, .slice A l.length c, v12, v13, .bool true, .int .u64 r.fr, .int .u64 r.nx, .bool r.back, .int .i64 r.mode, .int .u64 r.hot, .int .u64 r.dn, .int .i64 r.off, .int .i64 r.size, .bool r.act, .int .u64 r.cnt, .string r.sum, v26], .func (.func 19) #[] #[.pointer (some ⟨bu, 0, none⟩), .pointer (some ⟨bm, 0, none⟩), .pointer (some ⟨bc, 0, none⟩)]] W (fun e W' => e = .returned (.tuple #[]) ∧ ∃ v, ClIn W W' bc #[v0, v1, v2, v3, v4, v5, v6, v7, v8, v9, v10, .slice A l.length c, v12, v13, .bool true, .int .u64 r.fr, .int .u64 r.nx, .bool r.back, .int .i64 r.mode, .int .u64 r.hot, .int .u64 r.dn, .int .i64 r.off, .int .i64 r.size, .bool r.act, .int .u64 r.cnt, .string r.sum, v26] v (l.map (noteOf u nx) ++ [spotOf u nx (-1) r.off r.size])) := by
  have hlc : bc < W.heap.size := blk_lt hv
  have HC0 : Aside0 (ClIn W (W.alloc (.cells #[v0, v1, v2, v3, v4, v5, v6, v7, v8, v9, v10, .slice A l.length c, v12, v13, .bool true, .int .u64 r.fr, .int .u64 r.nx, .bool r.back, .int .i64 r.mode, .int .u64 r.hot, .int .u64 r.dn, .int .i64 r.off, .int .i64 r.size, .bool r.act, .int .u64 r.cnt, .string r.sum, v26] 36)) bc #[v0, v1, v2, v3, v4, v5, v6, v7, v8, v9, v10, .slice A l.length c, v12, v13, .bool true, .int .u64 r.fr, .int .u64 r.nx, .bool r.back, .int .i64 r.mode, .int .u64 r.hot, .int .u64 r.dn, .int .i64 r.off, .int .i64 r.size, .bool r.act, .int .u64 r.cnt, .string r.sum, v26] (.slice none 0 0) []) := ⟨⟨blk_alloc hv _, World.ownsRow_nil _ _ _ _, (by intro h; cases h), (b_alloc W _).mono (by omega), blk_new W _, hlc⟩⟩
  have HU := Aside0.mk hu
  have HNX := Aside0.mk hnx
  have HBW0 := Aside0.mk hbw
  have HR := Aside0.mk hR
  have HBD := Aside0.mk hb
  clear hv hu hnx hbw hR hb
  go_enter Tryz.func18, Tryz.ntmps18
  go_wp2_with fail
  go_loopg [9] (l.length + 1) (fun kq s9 wr => ∃ (i : Nat) (v : Value), Aside0 (s9 = .int .i64 (i : Int)) ∧ Aside0 (i ≤ l.length ∧ kq + i = l.length + 1) ∧ Aside0 (ClIn W wr bc #[v0, v1, v2, v3, v4, v5, v6, v7, v8, v9, v10, .slice A l.length c, v12, v13, .bool true, .int .u64 r.fr, .int .u64 r.nx, .bool r.back, .int .i64 r.mode, .int .u64 r.hot, .int .u64 r.dn, .int .i64 r.off, .int .i64 r.size, .bool r.act, .int .u64 r.cnt, .string r.sum, v26] v ((l.take i).map (noteOf u nx))))
  case atStart => exact ⟨0, .slice none 0 0, ⟨rfl⟩, ⟨by omega⟩, ⟨HC0.out⟩⟩
  case round =>
    obtain ⟨i, v, H9, HI, HC⟩ := hrel
    obtain rfl := H9.out
    obtain ⟨hi, hk⟩ := HI.out
    have HQ := Aside0.mk hk
    clear hk
    have hbc := HC.out.lt
    have hbcw : bc < wr.heap.size := blk_lt HC.out.at_
    have HBW : Aside0 (Below w.heap.size w wr) := ⟨HBW0.out.trans (HC.out.below.mono hw0)⟩
    by_cases hlt : i < l.length
    · obtain ⟨ad, e, c0, c1, c2, c3, c4, c5, c6, c7, c8⟩ := at_T53 HR.out (i : Int) (by omega) (by omega)
      have hx : rd_T53 l (i : Int) = l[i] := by
        unfold rd_T53
        rw [Int.toNat_natCast, List.getD_eq_getElem?_getD, List.getElem?_eq_getElem hlt]
        rfl
      rw [hx] at c0 c1 c2 c3 c4 c5 c6 c7 c8
      rw [Int.toNat_natCast] at c0 c1 c2 c3 c4 c5 c6 c7 c8
      have mv : ∀ {a : Addr} {u : Value}, w.cell? a = some u → wr.cell? a = some u := fun h => (HBW.out.cell (World.block_lt_of_cell? w _ h)).trans h
      replace c0 := mv c0
      replace c1 := mv c1
      replace c2 := mv c2
      replace c3 := mv c3
      replace c4 := mv c4
      replace c5 := mv c5
      replace c6 := mv c6
      replace c7 := mv c7
      replace c8 := mv c8
      clear mv hx
      obtain ⟨⟨b1, b2⟩, ⟨b3, b4⟩, b5, b6⟩ := HBD.out l[i] (List.getElem_mem hlt)
      have HTK : Aside0 ((l.take (i + 1)).map (noteOf u nx) = (l.take i).map (noteOf u nx) ++ [spotOf u nx l[i].f0 l[i].f7.f0 l[i].f7.f1]) := ⟨by rw [take_snoc' l i hlt, List.map_append]; rfl⟩
      have HNS := Aside0.mk (fun X => note_slot bu bm bc u nx l[i].f0 l[i].f7.f0 l[i].f7.f1 v ((l.take i).map (noteOf u nx)) (wr.alloc X) (blk_alloc HC.out.at_ _) (by simpa using HC.out.own.alloc X) (((b_alloc wr X).cell (by show bu < _; omega)).trans ((HC.out.below.cell hbu).trans HU.out)) (((b_alloc wr X).cell (by show bm < _; omega)).trans ((HC.out.below.cell hbm).trans HNX.out)) u1 u2 b1 b2 b3 b4 b5 b6 (by simp; omega))
      clear b1 b2 b3 b4 b5 b6
      cases e
      go_wp2_with fail
      refine (HNS.out _).mono ?_
      rintro e W1 ⟨rfl, v', q1, q2, q3, q4⟩
      have HC1 : Aside0 (ClIn W W1 bc #[v0, v1, v2, v3, v4, v5, v6, v7, v8, v9, v10, .slice (some ad) l.length c, v12, v13, .bool true, .int .u64 r.fr, .int .u64 r.nx, .bool r.back, .int .i64 r.mode, .int .u64 r.hot, .int .u64 r.dn, .int .i64 r.off, .int .i64 r.size, .bool r.act, .int .u64 r.cnt, .string r.sum, v26] v' ((l.take (i + 1)).map (noteOf u nx))) := ⟨by rw [HTK.out]; exact HC.out.step _ q1 q2 q3 q4⟩
      clear q1 q2 q3 q4
      go_wp2_with fail
      go_roundg (l.length - i)
      case rel => exact ⟨i + 1, v', ⟨by go_num⟩, ⟨by omega, by omega⟩, HC1⟩
      case measure => have := HQ.out; omega
    · obtain rfl : i = l.length := by omega
      have m14 : wr.cell? ⟨W.heap.size, 14, none⟩ = some (.bool true) := (blk_cell HC.out.par 14).trans rfl
      have m21 : wr.cell? ⟨W.heap.size, 21, none⟩ = some (.int .i64 r.off) := (blk_cell HC.out.par 21).trans rfl
      have m22 : wr.cell? ⟨W.heap.size, 22, none⟩ = some (.int .i64 r.size) := (blk_cell HC.out.par 22).trans rfl
      go_wp2_with fail
      have hcl := HC.out
      rw [List.take_length] at hcl
      refine (note_journal bu bm bc u nx r.off r.size v (l.map (noteOf u nx)) wr hcl.at_ (by simpa using hcl.own) ((hcl.below.cell hbu).trans HU.out) ((hcl.below.cell hbm).trans HNX.out) u1 u2 j1 j2 j3 j4 (by simp; omega)).mono ?_
      rintro e W1 ⟨rfl, v', q1, q2, q3, q4⟩
      have HC1 := Aside0.mk (hcl.step0 _ q1 q2 q3 q4)
      clear q1 q2 q3 q4 hcl
      go_wp2_with fail
      go_end0
      exact ⟨rfl, v', HC1.out⟩
end Go.Proofs.YtpmbfibjldnaiaaGreatDoor.spotc
