/- The reader of a line: an option laid behind the others. (Merged by merge.py.) -/
import Derived.Test.YtkoldjmhcifpjaaMH
import Derived.RegionIn
import Derived.Shelf.RegionOpen
/-! ## ReadL -/
namespace Go.Proofs.Ytkoldjmhcifpjaa.readl
open Go Go.RowKit Go.Proofs.Ytkoldjmhcifpjaa.parsep Go.Proofs.Ytkoldjmhcifpjaa.reada Go.Proofs.Ytkoldjmhcifpjaa.readb Go.Proofs.Ytkoldjmhcifpjaa.readc Go.Proofs.Ytkoldjmhcifpjaa.readd Go.Proofs.Ytkoldjmhcifpjaa.reade Go.Proofs.Ytkoldjmhcifpjaa.readf Go.Proofs.Ytkoldjmhcifpjaa.readg Go.Proofs.Ytkoldjmhcifpjaa.readh Go.Proofs.Ytkoldjmhcifpjaa.readi Go.Proofs.Ytkoldjmhcifpjaa.roundp Go.Proofs.Ytkoldjmhcifpjaa.PShellReads Go.Proofs.YtkoldjmhcifpjaaW.PrintWords
set_option linter.unusedVariables false
set_option linter.unusedSimpArgs false
attribute [local go_sem] Oper.semAt_some
/-- The loop of the line's reader: what it assigns, its body, the body's last region. -/
def pick : Code → Code × Code
  | .seq _ (.seq (.seq _ (.block _ (.rangeFunc _ _ x y))) _) => (x, y)
  | _ => (.skip, .skip)
noncomputable def lineAs : Code := (pick (Try.f18.body.getD .skip)).1
noncomputable def lineBd : Code := (pick (Try.f18.body.getD .skip)).2
def last : Code → Code
  | .seq _ y => last y
  | .block _ y => last y
  | c => c
theorem follows : Try.prog.follows .mixedOrders = true := by kernel_rfl
theorem step_if {c : Bool} {A B : Prop} (h : if c = true then A else B) : (if c = true then A else B) := h
set_option maxHeartbeats 4000000 in
set_option maxRecDepth 100000 in
theorem last_error {w0 W : World} {g bl bx bf l D : Nat} {rec : LoopState → Loop} {s : ByteArray} {q : Nat} {t : Bs} {L : Ln} {v : Value} {N : Nat} (m : Nat) (hm : 1 ≤ m) (hbl : w0.heap.size ≤ bl) (hl : w0.heap.size ≤ l)
    (hrn : ∀ st st', { rec st with state := st', pending := none } = rec st') (hlen : L.opts.length ≤ N) (hN : N ≤ 4097)
    (h : RdS w0 W g s q t) (hI : In w0.heap.size g bl bx bf l D rec .busy L v W) (x : Bs) (X : Except Nat (Ln × Bs × Nat))
    (q2 : Nat) (hV : parsep.value t q = .error q2) (hX : X = .error q2)
    (y0 y3 y5 y6 y7 y8 y9 y10 y11 y12 y13 y14 y15 y16 y17 y18 y19 y20 y21 y22 y23 y24 y25 y26 y27 y28 y29 y30 y31 y32 y33 y34 : Value) :
    (last lineBd).wpIn (Fence.wide.inRound l) m Try.prog (Exit.inBlock 1 (roundPostP Try.prog l (EndsB' w0 g s (fun W' => W'.heap[D]? = some (.deferred (some []))) (fun L' W' => (∃ v', In w0.heap.size g bl bx bf l D rec .ready L' v' W') ∧ L'.opts.length ≤ N + 1) X)))
      { tmps := #[y0, .pointer (some ⟨bx, 0, none⟩), .pointer (some ⟨bl, 0, none⟩), y3, .string ⟨x.toArray⟩, y5, y6, y7, y8, y9, y10, y11, y12, y13, y14, y15, y16, y17, y18, y19, y20, y21, y22, y23, y24, y25, y26, y27, y28, y29, y30, y31, y32, y33, y34, undef, undef, undef, undef, undef, undef, undef, undef, undef, undef], defers := [] } W := by
  have HR := Aside0.mk h
  have HI := Aside0.mk hI
  have HX := Aside0.mk hX
  have HRN := Aside0.mk hrn
  have j0 : W.cell? ⟨bx, 0, none⟩ = some (.pointer (some ⟨g, 0, none⟩)) := (blk_cell hI.bx 0).trans rfl
  have b2 : W.cell? ⟨bl, 2, none⟩ = some v := (blk_cell hI.ln.blk 2).trans rfl
  have f2 := blk_frozen hI.ln.blk 2
  have hdr := drawn_rd h (w' := W.drew) ⟨⟨1, rfl⟩⟩
  have HRd := Aside0.mk hdr.1
  have HId := Aside0.mk (hI.rd h hdr.2)
  have j0d : W.drew.cell? ⟨bx, 0, none⟩ = some (.pointer (some ⟨g, 0, none⟩)) := j0
  have b2d : W.drew.cell? ⟨bl, 2, none⟩ = some v := b2
  clear h hI hX hrn hdr
  obtain ⟨i0, hi, hz0, hz1, hz2⟩ := info_parts info34
  dsimp only [last, lineBd, pick, Try.f18, Option.getD]
  have hmx := follows
  have HE := HX
  have HV := Aside0.mk hV
  clear hV
  refine wpIn_region_any (by assumption) ?_
  change wpAnyIn _ _ _ _ _ _ _ _ _ (World.drew _)
  repeat' (first | (with_reducible exact AllReadyIn.nil) | (with_reducible refine AllReadyIn.cons rfl (fun K hK => ?_) ?_) | ((with_reducible refine step_if ?_); go_simp; refine hK _ _ ?_; clear hK K) | (refine wpAnyIn_done (by decide +kernel) ?_ _) | (refine wpAnyIn_ready (rs := [0]) (by decide +kernel) (by simp) ?_) | (refine wpAnyIn_ready (rs := [0, 2]) (by decide +kernel) (by simp) ?_) | (refine wpAnyIn_ready (rs := [0, 2, 3]) (by decide +kernel) (by simp) ?_) | (refine wpAnyIn_ready (rs := [0, 2, 4]) (by decide +kernel) (by simp) ?_) | (refine wpAnyIn_ready (rs := [0, 3]) (by decide +kernel) (by simp) ?_) | (refine wpAnyIn_ready (rs := [0, 4]) (by decide +kernel) (by simp) ?_) | (refine wpAnyIn_ready (rs := [0, 5]) (by decide +kernel) (by simp) ?_) | (refine wpAnyIn_ready (rs := [0, 6]) (by decide +kernel) (by simp) ?_) | (refine wpAnyIn_ready (rs := [1]) (by decide +kernel) (by simp) ?_) | (refine wpAnyIn_ready (rs := [1, 2]) (by decide +kernel) (by simp) ?_) | (refine wpAnyIn_ready (rs := [1, 2, 3]) (by decide +kernel) (by simp) ?_) | (refine wpAnyIn_ready (rs := [1, 2, 4]) (by decide +kernel) (by simp) ?_) | (refine wpAnyIn_ready (rs := [1, 3]) (by decide +kernel) (by simp) ?_) | (refine wpAnyIn_ready (rs := [1, 4]) (by decide +kernel) (by simp) ?_) | (refine wpAnyIn_ready (rs := [1, 5]) (by decide +kernel) (by simp) ?_) | (refine wpAnyIn_ready (rs := [1, 6]) (by decide +kernel) (by simp) ?_) | (refine wpAnyIn_ready (rs := [2]) (by decide +kernel) (by simp) ?_) | (refine wpAnyIn_ready (rs := [2, 3]) (by decide +kernel) (by simp) ?_) | (refine wpAnyIn_ready (rs := [2, 4]) (by decide +kernel) (by simp) ?_) | (refine wpAnyIn_ready (rs := [3]) (by decide +kernel) (by simp) ?_) | (refine wpAnyIn_ready (rs := [4]) (by decide +kernel) (by simp) ?_) | (refine wpAnyIn_ready (rs := [5]) (by decide +kernel) (by simp) ?_) | (refine wpAnyIn_ready (rs := [6]) (by decide +kernel) (by simp) ?_) | (refine wpAnyIn_ready (rs := [7]) (by decide +kernel) (by simp) ?_) | (refine wpAnyIn_ready (rs := [8]) (by decide +kernel) (by simp) ?_) | (refine wpAnyIn_ready (rs := [9]) (by decide +kernel) (by simp) ?_))
  all_goals ((with_reducible refine step_if ?_); go_simp; gi_wp2_with (first | (refine ⟨trivial, ?_⟩; gi_at_call 31; refine (CallsIn.inRound l (callsIn_wide.2 (value_call HRd.out))).mono ?_; rw [HV.out]; rintro e W3 ⟨hK_, hB_, rfl⟩; exact ⟨rfl, (show EndsB' _ _ _ _ _ X _ _ by rw [HE.out]; exact ⟨rfl, hB_, (HId.out.rd HRd.out hK_).de⟩)⟩) | fail))
end Go.Proofs.Ytkoldjmhcifpjaa.readl
