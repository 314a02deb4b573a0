/- The reader of a line: an option laid behind the others: it is laid. (Merged by merge.py.) -/
import Derived.Test.YtkoldjmhcifpjaaMJ
/-! ## ReadM -/
namespace Go.Proofs.Ytkoldjmhcifpjaa.readm
open Go Go.RowKit Go.Proofs.Ytkoldjmhcifpjaa.parsep Go.Proofs.Ytkoldjmhcifpjaa.reada Go.Proofs.Ytkoldjmhcifpjaa.readb Go.Proofs.Ytkoldjmhcifpjaa.readc Go.Proofs.Ytkoldjmhcifpjaa.readd Go.Proofs.Ytkoldjmhcifpjaa.reade Go.Proofs.Ytkoldjmhcifpjaa.readf Go.Proofs.Ytkoldjmhcifpjaa.readg Go.Proofs.Ytkoldjmhcifpjaa.readh Go.Proofs.Ytkoldjmhcifpjaa.readi Go.Proofs.Ytkoldjmhcifpjaa.readl Go.Proofs.Ytkoldjmhcifpjaa.roundp Go.Proofs.Ytkoldjmhcifpjaa.PShellReads Go.Proofs.YtkoldjmhcifpjaaW.PrintWords
set_option linter.unusedVariables false
set_option linter.unusedSimpArgs false
attribute [local go_sem] Oper.semAt_some
section
variable {F : Fence} {nF : Nat} {P : Program} {w : World}
/-- append, as a step of a region that draws its order, inside a fence. -/
theorem step_append {ops : Array Oper} {o : Oper} {a : Act} {K : Act → World → Prop} {Q : Exit → Act → World → Prop} {E : Prop} (hw : Region.wanted o (yielded ops a.tmps) = true) (s x : Operand) (t : TypeId)
    (ho : o.op = .call { callee := .builtin .append, args := #[s, x], argTypes := #[t, t] })
    (base : Nat) (e : TypeId) (i : TypeInfo) (z : Value) (size bytes : Nat) (ht : P.underlying t = some (.slice e)) (hi : P.info? e = some i) (hz : i.zero = some z)
    (hsize : i.size = size) (hby : i.bytes = bytes) (hzs : z.cells.size = size) (hsz : 0 < size)
    (v : Value) (n : Nat) (xs : List Value) (hs : a.eval s = v) (hown : w.ownsRow base e size v n xs)
    (ad : Addr) (m c : Nat) (news : List Value) (hx : a.eval x = .slice (some ad) m c) (hl : news.length = m * size) (hnews : ∀ j u, news[j]? = some u → w.cell? (ad.add j) = some u) (h1 : ∀ u ∈ news, u.oneCell' = true)
    (h63 : n + m ≤ maxLen) (hbytes : (n + m) * bytes ≤ 140737488355328) (hbase : base ≤ w.heap.size)
    (h : ∀ v' w', w'.ownsRow base e size v' (n + m) (xs ++ news) → w.grownBy w' v.ownBlock → K (a.put o.dst v') w') :
    if Region.wanted o (yielded ops a.tmps) = true then Oper.wpIn F nF P o a w K Q else E := by
  rw [if_pos hw]
  obtain ⟨v', w', hr, h2, h3, h4, h5⟩ := run_append_own_at (P := P) w base t o.type e i z size bytes ht hi hz hsize hby hzs hsz v n xs hown ad m c news hl hnews h1 h63 hbytes hbase
  unfold Oper.wpIn
  refine ⟨by simp [Oper.about, ho, resolve, Target.leads, Sem.run_pure], ?_⟩
  rw [Oper.semAt_plain F _ _ (by rw [ho]; intro c hc'; cases hc')]
  simp [execOp, ho, resolve, invoke, builtin, hs, hx, hr, Result.andThen]
  exact h _ _ h2 h3
end
set_option maxHeartbeats 4000000 in
set_option maxRecDepth 100000 in
theorem last_ok {w0 W : World} {g bl bx bf l D : Nat} {rec : LoopState → Loop} {s : ByteArray} {q : Nat} {t : Bs} {L : Ln} {v : Value} {N : Nat} (m : Nat) (hm : 1 ≤ m) (hbl : w0.heap.size ≤ bl) (hl : w0.heap.size ≤ l)
    (hrn : ∀ st st', { rec st with state := st', pending := none } = rec st') (hlen : L.opts.length ≤ N) (hN : N ≤ 4097)
    (h : RdS w0 W g s q t) (hI : In w0.heap.size g bl bx bf l D rec .busy L v W) (x : Bs) (X : Except Nat (Ln × Bs × Nat))
    (x2 r4 : Bs) (q4 : Nat) (hV : parsep.value t q = .ok (x2, r4, q4)) (hX : X = .ok ({ L with opts := L.opts ++ [(x, x2)] }, r4, q4))
    (y0 y3 y5 y6 y7 y8 y9 y10 y11 y12 y13 y14 y15 y16 y17 y18 y19 y20 y21 y22 y23 y24 y25 y26 y27 y28 y29 y30 y31 y32 y33 y34 : Value) :
    (last lineBd).wpIn (Fence.wide.inRound l) m Try.prog (Exit.inBlock 1 (roundPostP Try.prog l (EndsB' w0 g s (fun W' => W'.heap[D]? = some (.deferred (some []))) (fun L' W' => (∃ v', In w0.heap.size g bl bx bf l D rec .ready L' v' W') ∧ L'.opts.length ≤ N + 1) X)))
      { tmps := #[y0, .pointer (some ⟨bx, 0, none⟩), .pointer (some ⟨bl, 0, none⟩), y3, .string ⟨x.toArray⟩, y5, y6, y7, y8, y9, y10, y11, y12, y13, y14, y15, y16, y17, y18, y19, y20, y21, y22, y23, y24, y25, y26, y27, y28, y29, y30, y31, y32, y33, y34, undef, undef, undef, undef, undef, undef, undef, undef, undef, undef], defers := [] } W := by
  have HR := Aside0.mk h
  have HI := Aside0.mk hI
  have HX := Aside0.mk hX
  have HRN := Aside0.mk hrn
  have j0 : W.cell? ⟨bx, 0, none⟩ = some (.pointer (some ⟨g, 0, none⟩)) := (blk_cell hI.bx 0).trans rfl
  have b2 : W.cell? ⟨bl, 2, none⟩ = some v := (blk_cell hI.ln.blk 2).trans rfl
  have f2 := blk_frozen hI.ln.blk 2
  have hdr := drawn_rd h (w' := W.drew) ⟨⟨1, rfl⟩⟩
  have HRd := Aside0.mk hdr.1
  have HId := Aside0.mk (hI.rd h hdr.2)
  have j0d : W.drew.cell? ⟨bx, 0, none⟩ = some (.pointer (some ⟨g, 0, none⟩)) := j0
  have b2d : W.drew.cell? ⟨bl, 2, none⟩ = some v := b2
  clear h hI hX hrn hdr
  obtain ⟨i0, hi, hz0, hz1, hz2⟩ := info_parts info34
  dsimp only [last, lineBd, pick, Try.f18, Option.getD]
  have hmx := follows
  have HE := HX
  have HV := Aside0.mk hV
  clear hV
  refine wpIn_region_any (by assumption) ?_
  change wpAnyIn _ _ _ _ _ _ _ _ _ (World.drew _)
  repeat' (first | (with_reducible exact AllReadyIn.nil) | (with_reducible refine AllReadyIn.cons rfl (fun K hK => ?_) ?_) | ((with_reducible refine step_if ?_); go_simp; refine hK _ _ ?_; clear hK K) | (refine wpAnyIn_done (by decide +kernel) ?_ _) | (refine wpAnyIn_ready (rs := [0]) (by decide +kernel) (by simp) ?_) | (refine wpAnyIn_ready (rs := [0, 2]) (by decide +kernel) (by simp) ?_) | (refine wpAnyIn_ready (rs := [0, 2, 3]) (by decide +kernel) (by simp) ?_) | (refine wpAnyIn_ready (rs := [0, 2, 4]) (by decide +kernel) (by simp) ?_) | (refine wpAnyIn_ready (rs := [0, 3]) (by decide +kernel) (by simp) ?_) | (refine wpAnyIn_ready (rs := [0, 4]) (by decide +kernel) (by simp) ?_) | (refine wpAnyIn_ready (rs := [0, 5]) (by decide +kernel) (by simp) ?_) | (refine wpAnyIn_ready (rs := [0, 6]) (by decide +kernel) (by simp) ?_) | (refine wpAnyIn_ready (rs := [1]) (by decide +kernel) (by simp) ?_) | (refine wpAnyIn_ready (rs := [1, 2]) (by decide +kernel) (by simp) ?_) | (refine wpAnyIn_ready (rs := [1, 2, 3]) (by decide +kernel) (by simp) ?_) | (refine wpAnyIn_ready (rs := [1, 2, 4]) (by decide +kernel) (by simp) ?_) | (refine wpAnyIn_ready (rs := [1, 3]) (by decide +kernel) (by simp) ?_) | (refine wpAnyIn_ready (rs := [1, 4]) (by decide +kernel) (by simp) ?_) | (refine wpAnyIn_ready (rs := [1, 5]) (by decide +kernel) (by simp) ?_) | (refine wpAnyIn_ready (rs := [1, 6]) (by decide +kernel) (by simp) ?_) | (refine wpAnyIn_ready (rs := [2]) (by decide +kernel) (by simp) ?_) | (refine wpAnyIn_ready (rs := [2, 3]) (by decide +kernel) (by simp) ?_) | (refine wpAnyIn_ready (rs := [2, 4]) (by decide +kernel) (by simp) ?_) | (refine wpAnyIn_ready (rs := [3]) (by decide +kernel) (by simp) ?_) | (refine wpAnyIn_ready (rs := [4]) (by decide +kernel) (by simp) ?_) | (refine wpAnyIn_ready (rs := [5]) (by decide +kernel) (by simp) ?_) | (refine wpAnyIn_ready (rs := [6]) (by decide +kernel) (by simp) ?_) | (refine wpAnyIn_ready (rs := [7]) (by decide +kernel) (by simp) ?_) | (refine wpAnyIn_ready (rs := [8]) (by decide +kernel) (by simp) ?_) | (refine wpAnyIn_ready (rs := [9]) (by decide +kernel) (by simp) ?_))
  all_goals ((with_reducible refine step_if ?_); go_simp; gi_wp2_with (first | (refine ⟨trivial, ?_⟩; gi_at_call 31; refine (CallsIn.inRound l (callsIn_wide.2 (value_call HRd.out))).mono ?_; rw [HV.out]; rintro e W3 ⟨hK_, hB_, rfl, hR_⟩; have HI3 := Aside0.mk (HId.out.rd HRd.out hK_); have HR3 := Aside0.mk hR_; have c2 : W3.cell? ⟨bl, 2, none⟩ = some v := (blk_cell HI3.out.ln.blk 2).trans rfl; have c2a : (W3.alloc (.cells #[.string ⟨x.toArray⟩, .string ⟨x2.toArray⟩] 34)).cell? ⟨bl, 2, none⟩ = some v := (blk_cell (blk_alloc HI3.out.ln.blk _) 2).trans rfl; clear hK_ hB_ hR_) | fail); try (refine hK _ _ ?_; clear hK K))
  repeat' (first | (with_reducible exact AllReadyIn.nil) | (with_reducible refine AllReadyIn.cons rfl (fun K hK => ?_) ?_) | ((with_reducible refine step_if ?_); go_simp; refine hK _ _ ?_; clear hK K) | (refine wpAnyIn_done (by decide +kernel) ?_ _) | (refine wpAnyIn_ready (rs := [0]) (by decide +kernel) (by simp) ?_) | (refine wpAnyIn_ready (rs := [0, 2]) (by decide +kernel) (by simp) ?_) | (refine wpAnyIn_ready (rs := [0, 2, 3]) (by decide +kernel) (by simp) ?_) | (refine wpAnyIn_ready (rs := [0, 2, 4]) (by decide +kernel) (by simp) ?_) | (refine wpAnyIn_ready (rs := [0, 3]) (by decide +kernel) (by simp) ?_) | (refine wpAnyIn_ready (rs := [0, 4]) (by decide +kernel) (by simp) ?_) | (refine wpAnyIn_ready (rs := [0, 5]) (by decide +kernel) (by simp) ?_) | (refine wpAnyIn_ready (rs := [0, 6]) (by decide +kernel) (by simp) ?_) | (refine wpAnyIn_ready (rs := [1]) (by decide +kernel) (by simp) ?_) | (refine wpAnyIn_ready (rs := [1, 2]) (by decide +kernel) (by simp) ?_) | (refine wpAnyIn_ready (rs := [1, 2, 3]) (by decide +kernel) (by simp) ?_) | (refine wpAnyIn_ready (rs := [1, 2, 4]) (by decide +kernel) (by simp) ?_) | (refine wpAnyIn_ready (rs := [1, 3]) (by decide +kernel) (by simp) ?_) | (refine wpAnyIn_ready (rs := [1, 4]) (by decide +kernel) (by simp) ?_) | (refine wpAnyIn_ready (rs := [1, 5]) (by decide +kernel) (by simp) ?_) | (refine wpAnyIn_ready (rs := [1, 6]) (by decide +kernel) (by simp) ?_) | (refine wpAnyIn_ready (rs := [2]) (by decide +kernel) (by simp) ?_) | (refine wpAnyIn_ready (rs := [2, 3]) (by decide +kernel) (by simp) ?_) | (refine wpAnyIn_ready (rs := [2, 4]) (by decide +kernel) (by simp) ?_) | (refine wpAnyIn_ready (rs := [3]) (by decide +kernel) (by simp) ?_) | (refine wpAnyIn_ready (rs := [4]) (by decide +kernel) (by simp) ?_) | (refine wpAnyIn_ready (rs := [5]) (by decide +kernel) (by simp) ?_) | (refine wpAnyIn_ready (rs := [6]) (by decide +kernel) (by simp) ?_) | (refine wpAnyIn_ready (rs := [7]) (by decide +kernel) (by simp) ?_) | (refine wpAnyIn_ready (rs := [8]) (by decide +kernel) (by simp) ?_) | (refine wpAnyIn_ready (rs := [9]) (by decide +kernel) (by simp) ?_))
  all_goals
    refine step_append (by kernel_rfl) (.tmp 36) (.tmp 41) 23 rfl w0.heap.size 34 i0 (.agg #[(.string ⟨#[]⟩), (.string ⟨#[]⟩)]) 2 32 Try.underlying23 hi hz0 hz1 hz2 rfl (by decide) v L.opts.length (oc L.opts) rfl (HI3.out.ln.row.alloc _) ⟨W3.heap.size, 0, none⟩ 1 1 [.string ⟨x.toArray⟩, .string ⟨x2.toArray⟩] rfl rfl (cell_two_new _ _ _ _) (by simp [Value.oneCell']) (by have : (4097 : Nat) + 1 ≤ maxLen := (by decide); omega) (by omega) (by have := HR3.out.below.size; simp; omega) ?_
    intro v1 w1 hown1 hgrow1
    obtain ⟨g1, cap1, rfl⟩ := ownsRow_succ hown1
    refine hK _ _ ?_
    clear hK K
    have hIa := HI3.out.rd HR3.out (alloc_keep W3 (.cells #[.string ⟨x.toArray⟩, .string ⟨x2.toArray⟩] 34) g)
    have hRa := rd_alloc HR3.out (.cells #[.string ⟨x.toArray⟩, .string ⟨x2.toArray⟩] 34)
    have HI5 := Aside0.mk (hIa.opt x x2 hgrow1 hown1)
    have HR5 := Aside0.mk (rd_opt (v1 := .slice (some ⟨g1, 0, none⟩) (L.opts.length + 1) cap1) hRa hIa (Nat.le_refl _) hbl hgrow1)
    have mb : w1.heap[bl]? = some (.cells #[.string ⟨L.cmd.toArray⟩, .string ⟨L.name.toArray⟩, v] 25 (0, 0)) := (hgrow1.block bl (blk_lt hIa.ln.blk) (fun e => row_other hIa.ln.row hIa.ln.blk (by simp) e.symm)).trans hIa.ln.blk
    have d2 : w1.cell? ⟨bl, 2, none⟩ = some v := (blk_cell mb 2).trans rfl
    have e2 : w1.frozen? ⟨bl, 2, none⟩ = false := blk_frozen mb 2
    clear mb hIa hRa hown1 hgrow1
    repeat' (first | (with_reducible exact AllReadyIn.nil) | (with_reducible refine AllReadyIn.cons rfl (fun K hK => ?_) ?_) | ((with_reducible refine step_if ?_); go_simp; refine hK _ _ ?_; clear hK K) | (refine wpAnyIn_done (by decide +kernel) ?_ _) | (refine wpAnyIn_ready (rs := [0]) (by decide +kernel) (by simp) ?_) | (refine wpAnyIn_ready (rs := [0, 2]) (by decide +kernel) (by simp) ?_) | (refine wpAnyIn_ready (rs := [0, 2, 3]) (by decide +kernel) (by simp) ?_) | (refine wpAnyIn_ready (rs := [0, 2, 4]) (by decide +kernel) (by simp) ?_) | (refine wpAnyIn_ready (rs := [0, 3]) (by decide +kernel) (by simp) ?_) | (refine wpAnyIn_ready (rs := [0, 4]) (by decide +kernel) (by simp) ?_) | (refine wpAnyIn_ready (rs := [0, 5]) (by decide +kernel) (by simp) ?_) | (refine wpAnyIn_ready (rs := [0, 6]) (by decide +kernel) (by simp) ?_) | (refine wpAnyIn_ready (rs := [1]) (by decide +kernel) (by simp) ?_) | (refine wpAnyIn_ready (rs := [1, 2]) (by decide +kernel) (by simp) ?_) | (refine wpAnyIn_ready (rs := [1, 2, 3]) (by decide +kernel) (by simp) ?_) | (refine wpAnyIn_ready (rs := [1, 2, 4]) (by decide +kernel) (by simp) ?_) | (refine wpAnyIn_ready (rs := [1, 3]) (by decide +kernel) (by simp) ?_) | (refine wpAnyIn_ready (rs := [1, 4]) (by decide +kernel) (by simp) ?_) | (refine wpAnyIn_ready (rs := [1, 5]) (by decide +kernel) (by simp) ?_) | (refine wpAnyIn_ready (rs := [1, 6]) (by decide +kernel) (by simp) ?_) | (refine wpAnyIn_ready (rs := [2]) (by decide +kernel) (by simp) ?_) | (refine wpAnyIn_ready (rs := [2, 3]) (by decide +kernel) (by simp) ?_) | (refine wpAnyIn_ready (rs := [2, 4]) (by decide +kernel) (by simp) ?_) | (refine wpAnyIn_ready (rs := [3]) (by decide +kernel) (by simp) ?_) | (refine wpAnyIn_ready (rs := [4]) (by decide +kernel) (by simp) ?_) | (refine wpAnyIn_ready (rs := [5]) (by decide +kernel) (by simp) ?_) | (refine wpAnyIn_ready (rs := [6]) (by decide +kernel) (by simp) ?_) | (refine wpAnyIn_ready (rs := [7]) (by decide +kernel) (by simp) ?_) | (refine wpAnyIn_ready (rs := [8]) (by decide +kernel) (by simp) ?_) | (refine wpAnyIn_ready (rs := [9]) (by decide +kernel) (by simp) ?_))
    refine ⟨_, _, run_endRound none HI5.out.lo, ?_⟩
    show EndsB' _ _ _ _ _ X _ (World.putObj _ l (.loop { rec .busy with state := .ready, pending := none }))
    rw [HRN.out, HX.out]
    exact ⟨rfl, rd_turn HR5.out HI5.out hl .ready, ⟨_, HI5.out.turn .ready⟩, by simp; omega⟩
end Go.Proofs.Ytkoldjmhcifpjaa.readm
