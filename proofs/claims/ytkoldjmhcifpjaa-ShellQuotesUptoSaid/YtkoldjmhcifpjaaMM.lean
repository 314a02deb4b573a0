/- The reader of a line: one round of its loop. The reader of a line: the whole line. The reader of a line: what catches a fault. The reader of a line: shell.Parse. (Merged by merge.py.) -/
import Derived.Test.YtkoldjmhcifpjaaMK
import Derived.Test.YtkoldjmhcifpjaaMH
import Derived.Tactics
import Derived.Tactics2
import Derived.Defers
import Derived.Recover
import Derived.Laws.Pointers
import Derived.WalkLawsBesides
/-! ## ReadJ -/
namespace Go.Proofs.Ytkoldjmhcifpjaa.readj
open Go Go.RowKit Go.Proofs.Ytkoldjmhcifpjaa.parsep Go.Proofs.Ytkoldjmhcifpjaa.reada Go.Proofs.Ytkoldjmhcifpjaa.readb Go.Proofs.Ytkoldjmhcifpjaa.readc Go.Proofs.Ytkoldjmhcifpjaa.readd Go.Proofs.Ytkoldjmhcifpjaa.reade Go.Proofs.Ytkoldjmhcifpjaa.readf Go.Proofs.Ytkoldjmhcifpjaa.readg Go.Proofs.Ytkoldjmhcifpjaa.readh Go.Proofs.Ytkoldjmhcifpjaa.readi Go.Proofs.Ytkoldjmhcifpjaa.readl Go.Proofs.Ytkoldjmhcifpjaa.readm Go.Proofs.Ytkoldjmhcifpjaa.roundp Go.Proofs.Ytkoldjmhcifpjaa.PShellReads Go.Proofs.YtkoldjmhcifpjaaW.PrintWords
set_option linter.unusedVariables false
set_option linter.unusedSimpArgs false
attribute [local go_sem] Oper.semAt_some
set_option maxHeartbeats 2000000 in
set_option maxRecDepth 100000 in
theorem body_round {w0 W : World} {g bl bx bf l D : Nat} {rec : LoopState → Loop} {s : ByteArray} {a : Nat} {r : Bs} {L : Ln} {v : Value} {n : Nat} (m : Nat) (hm : 1 ≤ m) (x0 x5 x6 : Value) (hn : n ≤ 4097) (hlen : L.opts.length ≤ n) (hbl : w0.heap.size ≤ bl) (hl : w0.heap.size ≤ l)
    (hrs : ∀ st, (rec st).state = st) (hrp : ∀ st st', { rec st with state := st' } = rec st') (hrn : ∀ st st', { rec st with state := st', pending := none } = rec st')
    (h : RdS w0 W g s a r) (hI : In w0.heap.size g bl bx bf l D rec .ready L v W) :
    RoundIn Fence.wide m Try.prog l 18 #[x0, .pointer (some ⟨bx, 0, none⟩), .pointer (some ⟨bl, 0, none⟩), undef, undef, x5, x6, .int .i64 (n : Int), undef, undef, undef, undef, undef, undef, undef, undef, undef, undef, undef, undef, undef, undef, undef, undef, undef, undef, undef, undef, undef, undef, undef, undef, undef, undef, undef, undef, undef, undef, undef, undef, undef, undef, undef, undef, undef] lineAs lineBd W
      (EndsB' w0 g s (fun W' => W'.heap[D]? = some (.deferred (some []))) (fun L' W' => (∃ v', In w0.heap.size g bl bx bf l D rec .ready L' v' W') ∧ L'.opts.length ≤ n + 1) (body n L r a)) := by
  obtain ⟨X, hX⟩ : ∃ X, X = body n L r a := ⟨_, rfl⟩
  rw [← hX]
  have HX := Aside0.mk hX
  clear hX
  have HR0 := Aside0.mk h
  have HI0 := Aside0.mk hI
  have HRS := Aside0.mk hrs
  have HRP := Aside0.mk hrp
  have HRN := Aside0.mk hrn
  clear h hI hrs hrp hrn
  refine roundIn_of_wpInP (fn := Try.f18) rfl trivial ?_
  dsimp only [lineAs, lineBd, pick, Try.f18, Option.getD]
  gi_wp2
  refine ⟨_, run_beginRound HI0.out.lo (HRS.out _), ?_⟩
  rw [HRP.out]
  have HR1 := Aside0.mk (rd_turn HR0.out HI0.out hl .busy)
  have HI1 := Aside0.mk (HI0.out.turn .busy)
  clear HR0 HI0
  generalize W.putObj l (.loop (rec .busy)) = W1 at *
  have j0 := blk_cell HI1.out.bx 0
  simp only [List.getElem?_toArray, List.getElem?_cons_zero] at j0
  have b0 := blk_cell HI1.out.ln.blk 0
  have b1 := blk_cell HI1.out.ln.blk 1
  have b2 := blk_cell HI1.out.ln.blk 2
  have f0 := blk_frozen HI1.out.ln.blk 0
  have f1 := blk_frozen HI1.out.ln.blk 1
  have f2 := blk_frozen HI1.out.ln.blk 2
  simp only [List.getElem?_toArray, List.getElem?_cons_zero, List.getElem?_cons_succ] at b0 b1 b2
  by_cases h0 : n = 0
  · subst h0
    cases hL : letters r a with
    | error q =>
      have HL := Aside0.mk hL
      have HE := Aside0.mk (show X = .error q by rw [HX.out]; simp [body, hL])
      clear hL b0 b1 b2 f0 f1 f2
      gi_wp2_with (first | (refine ⟨trivial, ?_⟩; gi_at_call 26; refine (CallsIn.inRound l (callsIn_wide.2 (letters_call HR1.out))).mono ?_; rw [HL.out]; rintro e W3 ⟨hK_, hB_, rfl⟩) | fail)
      refine ⟨rfl, ?_⟩
      show EndsB' _ _ _ _ _ X _ _
      rw [HE.out]
      exact ⟨rfl, hB_, (HI1.out.rd HR1.out hK_).de⟩
    | ok y =>
      obtain ⟨x, r3, q3⟩ := y
      have HL := Aside0.mk hL
      have HE := Aside0.mk (show X = .ok ({ L with cmd := x }, r3, q3) by rw [HX.out]; simp [body, hL])
      clear b0 b1 b2 f0 f1 f2 hL
      gi_wp2_with (first | (refine ⟨trivial, ?_⟩; gi_at_call 26; refine (CallsIn.inRound l (callsIn_wide.2 (letters_call HR1.out))).mono ?_; rw [HL.out]; rintro e W3 ⟨hK_, hB_, rfl, hR_⟩; have HI3 := Aside0.mk (HI1.out.rd HR1.out hK_); have HR3 := Aside0.mk hR_; have j0 := (blk_cell HI3.out.bx 0).trans rfl; have b0 := (blk_cell HI3.out.ln.blk 0).trans rfl; have f0 := blk_frozen HI3.out.ln.blk 0; have b1 := (blk_cell HI3.out.ln.blk 1).trans rfl; have f1 := blk_frozen HI3.out.ln.blk 1; have b2 := (blk_cell HI3.out.ln.blk 2).trans rfl; have f2 := blk_frozen HI3.out.ln.blk 2; clear hK_ hB_ hR_) | fail)
      have hI4 := HI3.out.cmd x
      have hR4 := rd_line HR3.out HI3.out hbl 0 (.string ⟨x.toArray⟩)
      refine ⟨_, _, run_endRound none hI4.lo, ?_⟩
      show EndsB' _ _ _ _ _ X _ (World.putObj _ l (.loop { rec .busy with state := .ready, pending := none }))
      rw [HRN.out, HE.out]
      exact ⟨rfl, rd_turn hR4 hI4 hl .ready, ⟨_, hI4.turn .ready⟩, by (try dsimp only); omega⟩
  · by_cases h1 : n = 1
    · subst h1
      cases hL : word r a with
      | error q =>
        have HL := Aside0.mk hL
        have HE := Aside0.mk (show X = .error q by rw [HX.out]; simp [body, hL])
        clear hL b0 b1 b2 f0 f1 f2
        gi_wp2_with (first | (refine ⟨trivial, ?_⟩; gi_at_call 27; refine (CallsIn.inRound l (callsIn_wide.2 (word_call HR1.out))).mono ?_; rw [HL.out]; rintro e W3 ⟨hK_, hB_, rfl⟩) | fail)
        refine ⟨rfl, ?_⟩
        show EndsB' _ _ _ _ _ X _ _
        rw [HE.out]
        exact ⟨rfl, hB_, (HI1.out.rd HR1.out hK_).de⟩
      | ok y =>
        obtain ⟨x, r3, q3⟩ := y
        have HL := Aside0.mk hL
        clear b0 b1 b2 f0 f1 f2
        cases ho : over r3 with
        | true =>
          have HE := Aside0.mk (show X = .ok ({ L with name := x }, r3, q3) by rw [HX.out]; simp [body, hL, ho])
          have HO := Aside0.mk ho
          clear hL ho
          gi_wp2_with (first | (refine ⟨trivial, ?_⟩; gi_at_call 27; refine (CallsIn.inRound l (callsIn_wide.2 (word_call HR1.out))).mono ?_; rw [HL.out]; rintro e W3 ⟨hK_, hB_, rfl, hR_⟩; have HI3 := Aside0.mk (HI1.out.rd HR1.out hK_); have HR3 := Aside0.mk hR_; have j0 := (blk_cell HI3.out.bx 0).trans rfl; have b0 := (blk_cell HI3.out.ln.blk 0).trans rfl; have f0 := blk_frozen HI3.out.ln.blk 0; have b1 := (blk_cell HI3.out.ln.blk 1).trans rfl; have f1 := blk_frozen HI3.out.ln.blk 1; have b2 := (blk_cell HI3.out.ln.blk 2).trans rfl; have f2 := blk_frozen HI3.out.ln.blk 2; clear hK_ hB_ hR_) | (refine ⟨trivial, ?_⟩; gi_at_call 28; refine (CallsIn.inRound l (callsIn_wide.2 (over_call HR3.out))).mono ?_; rw [HO.out]; rintro e W4 ⟨rfl, hR_, hK_⟩; have HI4 := Aside0.mk (HI3.out.rd HR3.out hK_); have HR4 := Aside0.mk hR_; have j0 := (blk_cell HI4.out.bx 0).trans rfl; have b0 := (blk_cell HI4.out.ln.blk 0).trans rfl; have f0 := blk_frozen HI4.out.ln.blk 0; have b1 := (blk_cell HI4.out.ln.blk 1).trans rfl; have f1 := blk_frozen HI4.out.ln.blk 1; have b2 := (blk_cell HI4.out.ln.blk 2).trans rfl; have f2 := blk_frozen HI4.out.ln.blk 2; have k0 := HR4.out.c0; have k1 := HR4.out.c1; have k2 := HR4.out.f1; clear hK_ hR_) | fail)
          have hI4 := HI4.out.name x
          have hR4 := rd_line HR4.out HI4.out hbl 1 (.string ⟨x.toArray⟩)
          refine ⟨_, _, run_endRound none hI4.lo, ?_⟩
          show EndsB' _ _ _ _ _ X _ (World.putObj _ l (.loop { rec .busy with state := .ready, pending := none }))
          rw [HRN.out, HE.out]
          exact ⟨rfl, rd_turn hR4 hI4 hl .ready, ⟨_, hI4.turn .ready⟩, by (try dsimp only); omega⟩
        | false =>
          have HO := Aside0.mk ho
          by_cases h61 : r3.head? = some 61
          · obtain ⟨t, rfl⟩ : ∃ t, r3 = 61 :: t := by
              cases r3 with
              | nil => simp at h61
              | cons c t => exact ⟨t, by simp at h61; rw [h61]⟩
            have b61 : (((hd (61 :: t)).toNat : Int) == 61) = true := rfl
            cases hV : parsep.value t (q3 + 1) with
            | error q =>
              have HE := Aside0.mk (show X = .error q by rw [HX.out]; simp [body, opt, hL, ho, hV])
              have HV := Aside0.mk hV
              clear hV h61
              gi_wp2_with (first | (refine ⟨trivial, ?_⟩; gi_at_call 27; refine (CallsIn.inRound l (callsIn_wide.2 (word_call HR1.out))).mono ?_; rw [HL.out]; rintro e W3 ⟨hK_, hB_, rfl, hR_⟩; have HI3 := Aside0.mk (HI1.out.rd HR1.out hK_); have HR3 := Aside0.mk hR_; have j0 := (blk_cell HI3.out.bx 0).trans rfl; have b0 := (blk_cell HI3.out.ln.blk 0).trans rfl; have f0 := blk_frozen HI3.out.ln.blk 0; have b1 := (blk_cell HI3.out.ln.blk 1).trans rfl; have f1 := blk_frozen HI3.out.ln.blk 1; have b2 := (blk_cell HI3.out.ln.blk 2).trans rfl; have f2 := blk_frozen HI3.out.ln.blk 2; clear hK_ hB_ hR_) | (refine ⟨trivial, ?_⟩; gi_at_call 28; refine (CallsIn.inRound l (callsIn_wide.2 (over_call HR3.out))).mono ?_; rw [HO.out]; rintro e W4 ⟨rfl, hR_, hK_⟩; have HI4 := Aside0.mk (HI3.out.rd HR3.out hK_); have HR4 := Aside0.mk hR_; have j0 := (blk_cell HI4.out.bx 0).trans rfl; have b0 := (blk_cell HI4.out.ln.blk 0).trans rfl; have f0 := blk_frozen HI4.out.ln.blk 0; have b1 := (blk_cell HI4.out.ln.blk 1).trans rfl; have f1 := blk_frozen HI4.out.ln.blk 1; have b2 := (blk_cell HI4.out.ln.blk 2).trans rfl; have f2 := blk_frozen HI4.out.ln.blk 2; have k0 := HR4.out.c0; have k1 := HR4.out.c1; have k2 := HR4.out.f1; clear hK_ hR_) | (refine ⟨trivial, ?_⟩; gi_at_call 29; refine (CallsIn.inRound l (callsIn_wide.2 (look_call HR4.out))).mono ?_;  rintro e W5 ⟨rfl, hR_, hK_⟩; have HI5 := Aside0.mk (HI4.out.rd HR4.out hK_); have HR5 := Aside0.mk hR_; have j0 := (blk_cell HI5.out.bx 0).trans rfl; have b0 := (blk_cell HI5.out.ln.blk 0).trans rfl; have f0 := blk_frozen HI5.out.ln.blk 0; have b1 := (blk_cell HI5.out.ln.blk 1).trans rfl; have f1 := blk_frozen HI5.out.ln.blk 1; have b2 := (blk_cell HI5.out.ln.blk 2).trans rfl; have f2 := blk_frozen HI5.out.ln.blk 2; have k0 := HR5.out.c0; have k1 := HR5.out.c1; have k2 := HR5.out.f1; clear hK_ hR_) | fail)
              have hR6 := HR5.out.tail (HR5.out.set (q3 + 1)).1 (HR5.out.set (q3 + 1)).2
              have hI6 := HI5.out.rd HR5.out (KeepBut.set_ (KeepBut.refl _ _ _) 1 (.int .i64 ((q3 + 1 : Nat) : Int)))
              rw [wrap_succ q3 (by have h1 := HR5.out.le; have h2 := HR5.out.small; omega)]
              exact last_error m hm hbl hl HRN.out hlen hn hR6 hI6 x X q HV.out HE.out _ _ _ _ _ _ _ _ _ _ _ _ _ _ _ _ _ _ _ _ _ _ _ _ _ _ _ _ _ _ _ _
            | ok z =>
              obtain ⟨x2, r4, q4⟩ := z
              have HE := Aside0.mk (show X = .ok ({ L with opts := L.opts ++ [(x, x2)] }, r4, q4) by rw [HX.out]; simp [body, opt, hL, ho, hV])
              have HV := Aside0.mk hV
              clear hV h61
              gi_wp2_with (first | (refine ⟨trivial, ?_⟩; gi_at_call 27; refine (CallsIn.inRound l (callsIn_wide.2 (word_call HR1.out))).mono ?_; rw [HL.out]; rintro e W3 ⟨hK_, hB_, rfl, hR_⟩; have HI3 := Aside0.mk (HI1.out.rd HR1.out hK_); have HR3 := Aside0.mk hR_; have j0 := (blk_cell HI3.out.bx 0).trans rfl; have b0 := (blk_cell HI3.out.ln.blk 0).trans rfl; have f0 := blk_frozen HI3.out.ln.blk 0; have b1 := (blk_cell HI3.out.ln.blk 1).trans rfl; have f1 := blk_frozen HI3.out.ln.blk 1; have b2 := (blk_cell HI3.out.ln.blk 2).trans rfl; have f2 := blk_frozen HI3.out.ln.blk 2; clear hK_ hB_ hR_) | (refine ⟨trivial, ?_⟩; gi_at_call 28; refine (CallsIn.inRound l (callsIn_wide.2 (over_call HR3.out))).mono ?_; rw [HO.out]; rintro e W4 ⟨rfl, hR_, hK_⟩; have HI4 := Aside0.mk (HI3.out.rd HR3.out hK_); have HR4 := Aside0.mk hR_; have j0 := (blk_cell HI4.out.bx 0).trans rfl; have b0 := (blk_cell HI4.out.ln.blk 0).trans rfl; have f0 := blk_frozen HI4.out.ln.blk 0; have b1 := (blk_cell HI4.out.ln.blk 1).trans rfl; have f1 := blk_frozen HI4.out.ln.blk 1; have b2 := (blk_cell HI4.out.ln.blk 2).trans rfl; have f2 := blk_frozen HI4.out.ln.blk 2; have k0 := HR4.out.c0; have k1 := HR4.out.c1; have k2 := HR4.out.f1; clear hK_ hR_) | (refine ⟨trivial, ?_⟩; gi_at_call 29; refine (CallsIn.inRound l (callsIn_wide.2 (look_call HR4.out))).mono ?_;  rintro e W5 ⟨rfl, hR_, hK_⟩; have HI5 := Aside0.mk (HI4.out.rd HR4.out hK_); have HR5 := Aside0.mk hR_; have j0 := (blk_cell HI5.out.bx 0).trans rfl; have b0 := (blk_cell HI5.out.ln.blk 0).trans rfl; have f0 := blk_frozen HI5.out.ln.blk 0; have b1 := (blk_cell HI5.out.ln.blk 1).trans rfl; have f1 := blk_frozen HI5.out.ln.blk 1; have b2 := (blk_cell HI5.out.ln.blk 2).trans rfl; have f2 := blk_frozen HI5.out.ln.blk 2; have k0 := HR5.out.c0; have k1 := HR5.out.c1; have k2 := HR5.out.f1; clear hK_ hR_) | fail)
              have hR6 := HR5.out.tail (HR5.out.set (q3 + 1)).1 (HR5.out.set (q3 + 1)).2
              have hI6 := HI5.out.rd HR5.out (KeepBut.set_ (KeepBut.refl _ _ _) 1 (.int .i64 ((q3 + 1 : Nat) : Int)))
              rw [wrap_succ q3 (by have h1 := HR5.out.le; have h2 := HR5.out.small; omega)]
              exact last_ok m hm hbl hl HRN.out hlen hn hR6 hI6 x X x2 r4 q4 HV.out HE.out _ _ _ _ _ _ _ _ _ _ _ _ _ _ _ _ _ _ _ _ _ _ _ _ _ _ _ _ _ _ _ _
          · have b61 := hd_is r3 61 61 rfl (by decide)
            rw [decide_eq_false h61] at b61
            have hop : ∀ M : Ln, opt M x r3 q3 = .error q3 := by
              intro M
              cases r3 with
              | nil => rfl
              | cons c t => simp [opt, show ¬ c = 61 from fun e => h61 (by rw [e]; rfl)]
            have HE := Aside0.mk (show X = .error q3 by rw [HX.out]; simp [body, hL, ho, hop])
            clear hop h61
            gi_wp2_with (first | (refine ⟨trivial, ?_⟩; gi_at_call 27; refine (CallsIn.inRound l (callsIn_wide.2 (word_call HR1.out))).mono ?_; rw [HL.out]; rintro e W3 ⟨hK_, hB_, rfl, hR_⟩; have HI3 := Aside0.mk (HI1.out.rd HR1.out hK_); have HR3 := Aside0.mk hR_; have j0 := (blk_cell HI3.out.bx 0).trans rfl; have b0 := (blk_cell HI3.out.ln.blk 0).trans rfl; have f0 := blk_frozen HI3.out.ln.blk 0; have b1 := (blk_cell HI3.out.ln.blk 1).trans rfl; have f1 := blk_frozen HI3.out.ln.blk 1; have b2 := (blk_cell HI3.out.ln.blk 2).trans rfl; have f2 := blk_frozen HI3.out.ln.blk 2; clear hK_ hB_ hR_) | (refine ⟨trivial, ?_⟩; gi_at_call 28; refine (CallsIn.inRound l (callsIn_wide.2 (over_call HR3.out))).mono ?_; rw [HO.out]; rintro e W4 ⟨rfl, hR_, hK_⟩; have HI4 := Aside0.mk (HI3.out.rd HR3.out hK_); have HR4 := Aside0.mk hR_; have j0 := (blk_cell HI4.out.bx 0).trans rfl; have b0 := (blk_cell HI4.out.ln.blk 0).trans rfl; have f0 := blk_frozen HI4.out.ln.blk 0; have b1 := (blk_cell HI4.out.ln.blk 1).trans rfl; have f1 := blk_frozen HI4.out.ln.blk 1; have b2 := (blk_cell HI4.out.ln.blk 2).trans rfl; have f2 := blk_frozen HI4.out.ln.blk 2; have k0 := HR4.out.c0; have k1 := HR4.out.c1; have k2 := HR4.out.f1; clear hK_ hR_) | (refine ⟨trivial, ?_⟩; gi_at_call 29; refine (CallsIn.inRound l (callsIn_wide.2 (look_call HR4.out))).mono ?_;  rintro e W5 ⟨rfl, hR_, hK_⟩; have HI5 := Aside0.mk (HI4.out.rd HR4.out hK_); have HR5 := Aside0.mk hR_; have j0 := (blk_cell HI5.out.bx 0).trans rfl; have b0 := (blk_cell HI5.out.ln.blk 0).trans rfl; have f0 := blk_frozen HI5.out.ln.blk 0; have b1 := (blk_cell HI5.out.ln.blk 1).trans rfl; have f1 := blk_frozen HI5.out.ln.blk 1; have b2 := (blk_cell HI5.out.ln.blk 2).trans rfl; have f2 := blk_frozen HI5.out.ln.blk 2; have k0 := HR5.out.c0; have k1 := HR5.out.c1; have k2 := HR5.out.f1; clear hK_ hR_) | (refine ⟨trivial, ?_⟩; gi_at_call 30; refine (CallsIn.inRound l (callsIn_wide.2 (fail_call HR5.out))).mono ?_; rintro e W9 ⟨rfl, rfl⟩) | fail)
            refine ⟨rfl, ?_⟩
            show EndsB' _ _ _ _ _ X _ _
            rw [HE.out]
            exact ⟨rfl, HR5.out.below, HI5.out.de⟩
    · have n0 : ((n : Int) == 0) = false := by simp; omega
      have n1 : ((n : Int) == 1) = false := by simp; omega
      cases hL : letters r a with
      | error q =>
        have HL := Aside0.mk hL
        have HE := Aside0.mk (show X = .error q by rw [HX.out]; simp [body, h0, h1, hL])
        clear hL b0 b1 b2 f0 f1 f2
        gi_wp2_with (first | (refine ⟨trivial, ?_⟩; gi_at_call 26; refine (CallsIn.inRound l (callsIn_wide.2 (letters_call HR1.out))).mono ?_; rw [HL.out]; rintro e W3 ⟨hK_, hB_, rfl⟩) | fail)
        refine ⟨rfl, ?_⟩
        show EndsB' _ _ _ _ _ X _ _
        rw [HE.out]
        exact ⟨rfl, hB_, (HI1.out.rd HR1.out hK_).de⟩
      | ok y =>
        obtain ⟨x, r3, q3⟩ := y
        have HL := Aside0.mk hL
        clear b0 b1 b2 f0 f1 f2
        by_cases h61 : r3.head? = some 61
        · obtain ⟨t, rfl⟩ : ∃ t, r3 = 61 :: t := by
            cases r3 with
            | nil => simp at h61
            | cons c t => exact ⟨t, by simp at h61; rw [h61]⟩
          have b61 : (((hd (61 :: t)).toNat : Int) == 61) = true := rfl
          cases hV : parsep.value t (q3 + 1) with
          | error q =>
            have HE := Aside0.mk (show X = .error q by rw [HX.out]; simp [body, opt, h0, h1, hL, hV])
            have HV := Aside0.mk hV
            clear hV h61
            gi_wp2_with (first | (refine ⟨trivial, ?_⟩; gi_at_call 26; refine (CallsIn.inRound l (callsIn_wide.2 (letters_call HR1.out))).mono ?_; rw [HL.out]; rintro e W3 ⟨hK_, hB_, rfl, hR_⟩; have HI3 := Aside0.mk (HI1.out.rd HR1.out hK_); have HR3 := Aside0.mk hR_; have j0 := (blk_cell HI3.out.bx 0).trans rfl; have b0 := (blk_cell HI3.out.ln.blk 0).trans rfl; have f0 := blk_frozen HI3.out.ln.blk 0; have b1 := (blk_cell HI3.out.ln.blk 1).trans rfl; have f1 := blk_frozen HI3.out.ln.blk 1; have b2 := (blk_cell HI3.out.ln.blk 2).trans rfl; have f2 := blk_frozen HI3.out.ln.blk 2; clear hK_ hB_ hR_) | (refine ⟨trivial, ?_⟩; gi_at_call 29; refine (CallsIn.inRound l (callsIn_wide.2 (look_call HR3.out))).mono ?_;  rintro e W4 ⟨rfl, hR_, hK_⟩; have HI4 := Aside0.mk (HI3.out.rd HR3.out hK_); have HR4 := Aside0.mk hR_; have j0 := (blk_cell HI4.out.bx 0).trans rfl; have b0 := (blk_cell HI4.out.ln.blk 0).trans rfl; have f0 := blk_frozen HI4.out.ln.blk 0; have b1 := (blk_cell HI4.out.ln.blk 1).trans rfl; have f1 := blk_frozen HI4.out.ln.blk 1; have b2 := (blk_cell HI4.out.ln.blk 2).trans rfl; have f2 := blk_frozen HI4.out.ln.blk 2; have k0 := HR4.out.c0; have k1 := HR4.out.c1; have k2 := HR4.out.f1; clear hK_ hR_) | fail)
            have hR6 := HR4.out.tail (HR4.out.set (q3 + 1)).1 (HR4.out.set (q3 + 1)).2
            have hI6 := HI4.out.rd HR4.out (KeepBut.set_ (KeepBut.refl _ _ _) 1 (.int .i64 ((q3 + 1 : Nat) : Int)))
            rw [wrap_succ q3 (by have h1 := HR4.out.le; have h2 := HR4.out.small; omega)]
            exact last_error m hm hbl hl HRN.out hlen hn hR6 hI6 x X q HV.out HE.out _ _ _ _ _ _ _ _ _ _ _ _ _ _ _ _ _ _ _ _ _ _ _ _ _ _ _ _ _ _ _ _
          | ok z =>
            obtain ⟨x2, r4, q4⟩ := z
            have HE := Aside0.mk (show X = .ok ({ L with opts := L.opts ++ [(x, x2)] }, r4, q4) by rw [HX.out]; simp [body, opt, h0, h1, hL, hV])
            have HV := Aside0.mk hV
            clear hV h61
            gi_wp2_with (first | (refine ⟨trivial, ?_⟩; gi_at_call 26; refine (CallsIn.inRound l (callsIn_wide.2 (letters_call HR1.out))).mono ?_; rw [HL.out]; rintro e W3 ⟨hK_, hB_, rfl, hR_⟩; have HI3 := Aside0.mk (HI1.out.rd HR1.out hK_); have HR3 := Aside0.mk hR_; have j0 := (blk_cell HI3.out.bx 0).trans rfl; have b0 := (blk_cell HI3.out.ln.blk 0).trans rfl; have f0 := blk_frozen HI3.out.ln.blk 0; have b1 := (blk_cell HI3.out.ln.blk 1).trans rfl; have f1 := blk_frozen HI3.out.ln.blk 1; have b2 := (blk_cell HI3.out.ln.blk 2).trans rfl; have f2 := blk_frozen HI3.out.ln.blk 2; clear hK_ hB_ hR_) | (refine ⟨trivial, ?_⟩; gi_at_call 29; refine (CallsIn.inRound l (callsIn_wide.2 (look_call HR3.out))).mono ?_;  rintro e W4 ⟨rfl, hR_, hK_⟩; have HI4 := Aside0.mk (HI3.out.rd HR3.out hK_); have HR4 := Aside0.mk hR_; have j0 := (blk_cell HI4.out.bx 0).trans rfl; have b0 := (blk_cell HI4.out.ln.blk 0).trans rfl; have f0 := blk_frozen HI4.out.ln.blk 0; have b1 := (blk_cell HI4.out.ln.blk 1).trans rfl; have f1 := blk_frozen HI4.out.ln.blk 1; have b2 := (blk_cell HI4.out.ln.blk 2).trans rfl; have f2 := blk_frozen HI4.out.ln.blk 2; have k0 := HR4.out.c0; have k1 := HR4.out.c1; have k2 := HR4.out.f1; clear hK_ hR_) | fail)
            have hR6 := HR4.out.tail (HR4.out.set (q3 + 1)).1 (HR4.out.set (q3 + 1)).2
            have hI6 := HI4.out.rd HR4.out (KeepBut.set_ (KeepBut.refl _ _ _) 1 (.int .i64 ((q3 + 1 : Nat) : Int)))
            rw [wrap_succ q3 (by have h1 := HR4.out.le; have h2 := HR4.out.small; omega)]
            exact last_ok m hm hbl hl HRN.out hlen hn hR6 hI6 x X x2 r4 q4 HV.out HE.out _ _ _ _ _ _ _ _ _ _ _ _ _ _ _ _ _ _ _ _ _ _ _ _ _ _ _ _ _ _ _ _
        · have b61 := hd_is r3 61 61 rfl (by decide)
          rw [decide_eq_false h61] at b61
          have hop : ∀ M : Ln, opt M x r3 q3 = .error q3 := by
            intro M
            cases r3 with
            | nil => rfl
            | cons c t => simp [opt, show ¬ c = 61 from fun e => h61 (by rw [e]; rfl)]
          have HE := Aside0.mk (show X = .error q3 by rw [HX.out]; simp [body, h0, h1, hL, hop])
          clear hop h61
          gi_wp2_with (first | (refine ⟨trivial, ?_⟩; gi_at_call 26; refine (CallsIn.inRound l (callsIn_wide.2 (letters_call HR1.out))).mono ?_; rw [HL.out]; rintro e W3 ⟨hK_, hB_, rfl, hR_⟩; have HI3 := Aside0.mk (HI1.out.rd HR1.out hK_); have HR3 := Aside0.mk hR_; have j0 := (blk_cell HI3.out.bx 0).trans rfl; have b0 := (blk_cell HI3.out.ln.blk 0).trans rfl; have f0 := blk_frozen HI3.out.ln.blk 0; have b1 := (blk_cell HI3.out.ln.blk 1).trans rfl; have f1 := blk_frozen HI3.out.ln.blk 1; have b2 := (blk_cell HI3.out.ln.blk 2).trans rfl; have f2 := blk_frozen HI3.out.ln.blk 2; clear hK_ hB_ hR_) | (refine ⟨trivial, ?_⟩; gi_at_call 29; refine (CallsIn.inRound l (callsIn_wide.2 (look_call HR3.out))).mono ?_;  rintro e W4 ⟨rfl, hR_, hK_⟩; have HI4 := Aside0.mk (HI3.out.rd HR3.out hK_); have HR4 := Aside0.mk hR_; have j0 := (blk_cell HI4.out.bx 0).trans rfl; have b0 := (blk_cell HI4.out.ln.blk 0).trans rfl; have f0 := blk_frozen HI4.out.ln.blk 0; have b1 := (blk_cell HI4.out.ln.blk 1).trans rfl; have f1 := blk_frozen HI4.out.ln.blk 1; have b2 := (blk_cell HI4.out.ln.blk 2).trans rfl; have f2 := blk_frozen HI4.out.ln.blk 2; have k0 := HR4.out.c0; have k1 := HR4.out.c1; have k2 := HR4.out.f1; clear hK_ hR_) | (refine ⟨trivial, ?_⟩; gi_at_call 30; refine (CallsIn.inRound l (callsIn_wide.2 (fail_call HR4.out))).mono ?_; rintro e W9 ⟨rfl, rfl⟩) | fail)
          refine ⟨rfl, ?_⟩
          show EndsB' _ _ _ _ _ X _ _
          rw [HE.out]
          exact ⟨rfl, HR4.out.below, HI4.out.de⟩
end Go.Proofs.Ytkoldjmhcifpjaa.readj
/-! ## ReadK -/
namespace Go.Proofs.Ytkoldjmhcifpjaa.readk
open Go Go.RowKit Go.Proofs.Ytkoldjmhcifpjaa.parsep Go.Proofs.Ytkoldjmhcifpjaa.reada Go.Proofs.Ytkoldjmhcifpjaa.readb Go.Proofs.Ytkoldjmhcifpjaa.readc Go.Proofs.Ytkoldjmhcifpjaa.readd Go.Proofs.Ytkoldjmhcifpjaa.reade Go.Proofs.Ytkoldjmhcifpjaa.readf Go.Proofs.Ytkoldjmhcifpjaa.readg Go.Proofs.Ytkoldjmhcifpjaa.readh Go.Proofs.Ytkoldjmhcifpjaa.readi Go.Proofs.Ytkoldjmhcifpjaa.readj Go.Proofs.Ytkoldjmhcifpjaa.readl Go.Proofs.Ytkoldjmhcifpjaa.roundp Go.Proofs.Ytkoldjmhcifpjaa.PShellReads Go.Proofs.YtkoldjmhcifpjaaW.PrintWords
set_option linter.unusedVariables false
set_option linter.unusedSimpArgs false
theorem foldl_one (t : Tmp) (v : Value) (xs : Array Value) : ((#[t] : Array Tmp).zip #[v]).foldl (fun tmps (x : Tmp × Value) => match x with | (t, a) => tmps.setIfInBounds t a) xs = xs.setIfInBounds t v := by
  simp
set_option maxHeartbeats 1000000 in
set_option maxRecDepth 100000 in
theorem fields25_call (p : Option Addr) (w : World) : Calls Try.prog 25 #[.pointer p] w fun e w' => e = .returned (.func (.func 34) #[] #[.pointer (some ⟨w.heap.size, 0, none⟩)]) ∧ w' = w.alloc (.cells #[.pointer p] 42) := by
  go_enter Try.func25, Try.ntmps25
  go_wp2
  go_ret
  exact ⟨rfl, rfl⟩
theorem rd_below {w0 W W' : World} {g : Nat} {s : ByteArray} {a : Nat} {r : Bs} (h : RdS w0 W g s a r) (hb : Below W.heap.size W W') : RdS w0 W' g s a r :=
  h.to ⟨(hb.block _ (blk_lt h.st.1)).trans h.st.1, h.st.2⟩ (h.below.trans ⟨hb.os, hb.tape, hb.output, hb.size, fun i hi => hb.block i (by have := h.below.size; omega)⟩)
/-- How a line's reading ends. -/
def EndsL (w0 : World) (X : Except Nat Ln) (e : Ending) (w' : World) : Prop :=
  Below w0.heap.size w0 w' ∧ match X with | .error q => e = gaveUp q | .ok L => ∃ v, e = .returned (.agg #[.string ⟨L.cmd.toArray⟩, .string ⟨L.name.toArray⟩, v]) ∧ w'.ownsRow w0.heap.size 34 2 v L.opts.length (oc L.opts)
set_option maxHeartbeats 2000000 in
set_option maxRecDepth 100000 in
theorem line_call {w0 w : World} {g : Nat} {s : ByteArray} {a : Nat} {r : Bs} (h : RdS w0 w g s a r) : Calls Try.prog 18 #[.pointer (some ⟨g, 0, none⟩)] w (EndsL w0 (prog (r.length + 1) 0 ⟨[], [], []⟩ r a)) := by
  obtain ⟨X, hX⟩ : ∃ X, X = prog (r.length + 1) 0 ⟨[], [], []⟩ r a := ⟨_, rfl⟩
  rw [← hX]
  have HX := Aside0.mk hX
  have HR := Aside0.mk h
  clear hX h
  refine calls_of_wpX Try.func18 rfl ?_
  simp only [Try.ntmps18, List.size_toArray, List.length_cons, List.length_nil, Nat.reduceAdd, Nat.reduceSub, Array.replicate_succ, Array.replicate_zero, List.push_toArray, List.append_toArray, List.nil_append, List.cons_append]
  refine wpX_seq (Qp := fun ch a w => bodyPostM Fence.wide 0 Try.prog Try.f18 (EndsL w0 X) (.panic ch) a w) (fun _ _ _ h => h) (wpX_of ?_)
  go_wp2
  refine wpX_seq (Qp := fun ch a w => bodyPostM Fence.wide 0 Try.prog Try.f18 (EndsL w0 X) (.panic ch) a w) (fun _ _ _ h => h) ?_
  refine wpX_seq (Qp := fun ch a w => bodyPostM Fence.wide 0 Try.prog Try.f18 (EndsL w0 X) (.panic ch) a w) (fun _ _ _ h => h) (wpX_of ?_)
  go_wp2_with (first | (go_at_call 25; refine (fields25_call _ _).mono ?_; rintro e w1 ⟨rfl, rfl⟩) | fail)
  show wpX _ _ _ _ _ _
  obtain ⟨W1, hW1⟩ : ∃ W1, W1 = ((w.alloc (.cells #[.pointer (some ⟨g, 0, none⟩)] 42)).alloc (.cells #[.string ⟨#[]⟩, .string ⟨#[]⟩, .slice none 0 0] 25)).alloc (.cells #[.pointer (some ⟨g, 0, none⟩)] 42) := ⟨_, rfl⟩
  rw [← hW1]
  have hR1 : RdS w0 W1 g s a r := by rw [hW1]; exact rd_alloc (rd_alloc (rd_alloc HR.out _) _) _
  have hx : W1.heap[w.heap.size]? = some (.cells #[.pointer (some ⟨g, 0, none⟩)] 42 (0, 0)) := by rw [hW1]; exact blk_alloc (blk_alloc (blk_new _ _) _) _
  have hl : W1.heap[w.heap.size + 1]? = some (.cells #[.string ⟨#[]⟩, .string ⟨#[]⟩, .slice none 0 0] 25 (0, 0)) := by
    have := blk_new (w.alloc (.cells #[.pointer (some ⟨g, 0, none⟩)] 42)) (.cells #[.string ⟨#[]⟩, .string ⟨#[]⟩, .slice none 0 0] 25)
    rw [World.size_alloc] at this
    rw [hW1]
    exact blk_alloc this _
  have hf : W1.heap[w.heap.size + 1 + 1]? = some (.cells #[.pointer (some ⟨g, 0, none⟩)] 42 (0, 0)) := by
    have := blk_new ((w.alloc (.cells #[.pointer (some ⟨g, 0, none⟩)] 42)).alloc (.cells #[.string ⟨#[]⟩, .string ⟨#[]⟩, .slice none 0 0] 25)) (.cells #[.pointer (some ⟨g, 0, none⟩)] 42)
    rw [World.size_alloc, World.size_alloc] at this
    rw [hW1]
    exact this
  have hs1 : w0.heap.size ≤ w.heap.size := HR.out.below.size
  have hs2 : w.heap.size ≤ W1.heap.size := by rw [hW1]; simp; omega
  clear hW1
  obtain ⟨rec, hrec⟩ : ∃ rec : LoopState → Loop, rec = fun st => { state := st, pending := none, fn := 18, tmps := #[.pointer (some ⟨g, 0, none⟩), .pointer (some ⟨w.heap.size, 0, none⟩), .pointer (some ⟨w.heap.size + 1, 0, none⟩), undef, undef, .pointer (some ⟨g, 0, none⟩), .func (.func 34) #[] #[.pointer (some ⟨w.heap.size + 1 + 1, 0, none⟩)], undef, undef, undef, undef, undef, undef, undef, undef, undef, undef, undef, undef, undef, undef, undef, undef, undef, undef, undef, undef, undef, undef, undef, undef, undef, undef, undef, undef, undef, undef, undef, undef, undef, undef, undef, undef, undef, undef], params := #[7], assign := lineAs, body := lineBd, defers := W1.heap.size } := ⟨_, rfl⟩
  refine wpX_block (wpX_rangeFunc (gf := 34) rfl (enters_of Try.func34 (by kernel_rfl) rfl) rec hrec ?_)
  refine (callsIn_wide (n := 3)).1 ?_
  have hR2 : RdS w0 ((W1.alloc (.deferred (some []))).alloc (.loop (rec .ready))) g s a r := rd_alloc (rd_alloc hR1 _) _
  have hI2 : In w0.heap.size g (w.heap.size + 1) w.heap.size (w.heap.size + 1 + 1) (W1.heap.size + 1) W1.heap.size rec .ready ⟨[], [], []⟩ (.slice none 0 0) ((W1.alloc (.deferred (some []))).alloc (.loop (rec .ready))) := by
    refine ⟨⟨blk_alloc (blk_alloc hl _) _, World.ownsRow_nil _ _ _ _⟩, blk_alloc (blk_alloc hx _) _, blk_alloc (blk_alloc hf _) _, ?_, blk_alloc (blk_new _ _) _⟩
    have := blk_new (W1.alloc (.deferred (some []))) (.loop (rec .ready))
    rw [World.size_alloc] at this
    exact this
  refine (fields_call (bf := w.heap.size + 1 + 1) (l := W1.heap.size + 1) 3 (by omega) (fun W => W.heap[W1.heap.size]? = some (.deferred (some []))) (fun n L W => (∃ v, In w0.heap.size g (w.heap.size + 1) w.heap.size (w.heap.size + 1 + 1) (W1.heap.size + 1) W1.heap.size rec .ready L v W) ∧ L.opts.length ≤ n) ?hE ?hb ?hJ ?hY hR2 ⟨⟨_, hI2⟩, Nat.zero_le _⟩).mono ?_
  case hE => exact fun n L W ⟨⟨v, h⟩, _⟩ => h.de
  case hb => exact fun n L W ⟨⟨v, h⟩, _⟩ => (blk_cell h.bf 0).trans rfl
  case hJ => exact fun n L W W' a r hR ⟨⟨v, h⟩, hn⟩ hk => ⟨⟨v, h.rd hR hk⟩, hn⟩
  case hY =>
    intro n L a r W hn hR hI
    obtain ⟨⟨v, hI⟩, hlen⟩ := hI
    have hy := run_yield (P := Try.prog) (args := #[.int .i64 (n : Int)]) hI.lo (by rw [hrec]; rfl)
    have he : rec .ready = { state := .ready, pending := none, fn := 18, tmps := #[.pointer (some ⟨g, 0, none⟩), .pointer (some ⟨w.heap.size, 0, none⟩), .pointer (some ⟨w.heap.size + 1, 0, none⟩), undef, undef, .pointer (some ⟨g, 0, none⟩), .func (.func 34) #[] #[.pointer (some ⟨w.heap.size + 1 + 1, 0, none⟩)], undef, undef, undef, undef, undef, undef, undef, undef, undef, undef, undef, undef, undef, undef, undef, undef, undef, undef, undef, undef, undef, undef, undef, undef, undef, undef, undef, undef, undef, undef, undef, undef, undef, undef, undef, undef, undef, undef], params := #[7], assign := lineAs, body := lineBd, defers := W1.heap.size } := by rw [hrec]
    rw [he] at hy
    dsimp only at hy
    rw [foldl_one] at hy
    refine ⟨_, _, _, _, hy, ?_⟩
    exact body_round 2 (by omega) (.pointer (some ⟨g, 0, none⟩)) (.pointer (some ⟨g, 0, none⟩)) (.func (.func 34) #[] #[.pointer (some ⟨w.heap.size + 1 + 1, 0, none⟩)]) hn hlen (by omega) (by omega) (fun st => by rw [hrec]) (fun st st' => by rw [hrec]) (fun st st' => by rw [hrec]) hR hI
  rw [← HX.out]
  rintro e W3 h
  cases X with
  | error q =>
    obtain ⟨rfl, hB, hD⟩ := h
    refine ⟨by simp, .inl ⟨_, _, rfl, run_takeDeferred hD, ?_⟩⟩
    exact ⟨hB.trans (belowK_b (w := w0) (Nat.le_refl _) W3 _ _ _ (by omega) hD rfl rfl), rfl⟩
  | ok L =>
    obtain ⟨⟨v, rfl⟩, hB, n, ⟨v1, hI⟩, hlen⟩ := h
    obtain ⟨A1, n1, cp1, rfl⟩ : ∃ A1 n1 cp1, v1 = .slice A1 n1 cp1 := by
      rcases hI.ln.row.2 with ⟨rfl, _⟩ | ⟨g1, cap, cur, rfl, _⟩
      · exact ⟨_, _, _, rfl⟩
      · exact ⟨_, _, _, rfl⟩
    refine ⟨hI.lo, ?_⟩
    refine wpX_of ?_
    dsimp only
    have hI4 := hI.turn .exhausted
    have hB4 : Below w0.heap.size w0 (W3.putObj (W1.heap.size + 1) (.loop (rec .exhausted))) := hB.trans (belowK_b (w := w0) (Nat.le_refl _) W3 _ _ _ (by omega) hI.lo rfl rfl)
    generalize W3.putObj (W1.heap.size + 1) (.loop (rec .exhausted)) = W4 at *
    have HI4 := Aside0.mk hI4
    have c0 : W4.cell? ⟨w.heap.size + 1, 0, none⟩ = some (.string ⟨L.cmd.toArray⟩) := (blk_cell hI4.ln.blk 0).trans rfl
    have c1 : W4.cell? ⟨w.heap.size + 1, 1, none⟩ = some (.string ⟨L.name.toArray⟩) := (blk_cell hI4.ln.blk 1).trans rfl
    have c2 : W4.cell? ⟨w.heap.size + 1, 2, none⟩ = some (.slice A1 n1 cp1) := (blk_cell hI4.ln.blk 2).trans rfl
    have f0 := blk_frozen hI4.ln.blk 0
    have f1 := blk_frozen hI4.ln.blk 1
    have f2 := blk_frozen hI4.ln.blk 2
    clear hI4 hI
    go_wp2
    have hI5 := (HI4.out.cmd L.cmd).name L.name
    have hI6 := hI5.line (KeepBut.set_ (KeepBut.refl _ _ _) 2 (.slice A1 n1 cp1)) ⟨blk_put hI5.ln.blk 2 _ rfl, hI5.ln.keepRow (KeepBut.set_ (KeepBut.refl _ _ _) 2 (.slice A1 n1 cp1))⟩
    have hB6 : Below w0.heap.size w0 (((W4.setCell ⟨w.heap.size + 1, 0, none⟩ (.string ⟨L.cmd.toArray⟩)).setCell ⟨w.heap.size + 1, 1, none⟩ (.string ⟨L.name.toArray⟩)).setCell ⟨w.heap.size + 1, 2, none⟩ (.slice A1 n1 cp1)) := ((hB4.setCell (by show _ ≤ w.heap.size + 1; omega) _).setCell (by show _ ≤ w.heap.size + 1; omega) _).setCell (by show _ ≤ w.heap.size + 1; omega) _
    refine ⟨by simp, .inl ⟨_, _, rfl, run_takeDeferred hI6.de, ?_⟩⟩
    have hb7 := (keep_put (W := ((W4.setCell ⟨w.heap.size + 1, 0, none⟩ (.string ⟨L.cmd.toArray⟩)).setCell ⟨w.heap.size + 1, 1, none⟩ (.string ⟨L.name.toArray⟩)).setCell ⟨w.heap.size + 1, 2, none⟩ (.slice A1 n1 cp1)) (l := W1.heap.size) (.deferred none)).blk hI6.ln.blk (heap_ne hI6.ln.blk hI6.de (by simp)) (by simp)
    refine ⟨_, results_single rfl (.cell (w.heap.size + 1) 25 _ (0, 0) _ rfl hb7 Try.underlying25 rfl (by kernel_rfl) .nil), ?_⟩
    refine ⟨hB6.trans (belowK_b (w := w0) (Nat.le_refl _) _ _ _ _ (by omega) hI6.de rfl rfl), ?_⟩
    exact ⟨_, rfl, ownsRow_putObj hI6.ln.row _ hI6.de rfl⟩
end Go.Proofs.Ytkoldjmhcifpjaa.readk
/-! ## ReadN -/
namespace Go.Proofs.Ytkoldjmhcifpjaa.readn
open Go Go.RowKit Go.Proofs.Ytkoldjmhcifpjaa.parsep Go.Proofs.Ytkoldjmhcifpjaa.reada Go.Proofs.Ytkoldjmhcifpjaa.readb Go.Proofs.Ytkoldjmhcifpjaa.readi Go.Proofs.Ytkoldjmhcifpjaa.PShellReads Go.Proofs.YtkoldjmhcifpjaaW.PrintWords
set_option linter.unusedVariables false
set_option linter.unusedSimpArgs false
set_option maxHeartbeats 1000000 in
set_option maxRecDepth 100000 in
theorem catch_idle (b0 b1 b2 : Nat) (w : World) :
    CallsD Try.prog 17 #[.pointer (some ⟨b0, 0, none⟩), .pointer (some ⟨b1, 0, none⟩), .pointer (some ⟨b2, 0, none⟩)] .returning w fun e u' w' => e = .returned (.tuple #[]) ∧ u' = .returning ∧ w' = w := by
  refine callsD_of_wpS Try.func17 rfl fun c₀ cs hu => ?_
  apply wpS_seq
  apply wpS_region
  simp [wpOpsS, go_sem, recoverD, hu, Try.ntmps17, Exit.thenS]
  refine wpS_of_wp ?_
  go_wp2
  cases c₀
  simp_all [bodyPostS, results, Try.results17]
theorem assert41 (W : World) (v : Value) : (Instr.typeAssert (.iface 41 v) 20 41 true).run Try.prog W = .ok (.tuple #[v, .bool true]) W := by kernel_rfl
set_option maxHeartbeats 1000000 in
set_option maxRecDepth 100000 in
theorem catch_panic (b0 b1 b2 q : Nat) (hq : q ≤ 4097) (u0 u1 u2 : Value) (e1 e2 : Int) (w : World)
    (h0 : w.heap[b0]? = some (.cells #[u0, u1, u2] 25 (0, 0))) (h1 : w.heap[b1]? = some (.cells #[.int .i64 e1] 28 (0, 0))) (h2 : w.heap[b2]? = some (.cells #[.int .i64 e2] 3 (0, 0))) :
    CallsD Try.prog 17 #[.pointer (some ⟨b0, 0, none⟩), .pointer (some ⟨b1, 0, none⟩), .pointer (some ⟨b2, 0, none⟩)] (.panicking [{ v := .iface 41 (.int .i64 (q : Int)), recovered := false }]) w fun e u' w' => e = .returned (.tuple #[]) ∧ u' = .panicking [{ v := .iface 41 (.int .i64 (q : Int)), recovered := true }] ∧
      w' = (((((w.setCell ⟨b0, 0, none⟩ (.string ⟨#[]⟩)).setCell ⟨b0, 1, none⟩ (.string ⟨#[]⟩)).setCell ⟨b0, 2, none⟩ (.slice none 0 0)).setCell ⟨b1, 0, none⟩ (.int .i64 160)).setCell ⟨b2, 0, none⟩ (.int .i64 ((q + 1 : Nat) : Int))) := by
  refine callsD_of_wpS Try.func17 rfl fun c₀ cs hu => ?_
  apply wpS_seq
  apply wpS_region
  simp [wpOpsS, go_sem, recoverD, hu, Try.ntmps17, Exit.thenS]
  have c0 : w.cell? ⟨b0, 0, none⟩ = some u0 := (blk_cell h0 0).trans rfl
  have c1 : w.cell? ⟨b0, 1, none⟩ = some u1 := (blk_cell h0 1).trans rfl
  have c2 : w.cell? ⟨b0, 2, none⟩ = some u2 := (blk_cell h0 2).trans rfl
  have c3 : w.cell? ⟨b1, 0, none⟩ = some (.int .i64 e1) := (blk_cell h1 0).trans rfl
  have c4 : w.cell? ⟨b2, 0, none⟩ = some (.int .i64 e2) := (blk_cell h2 0).trans rfl
  have f0 := blk_frozen h0 0
  have f1 := blk_frozen h0 1
  have f2 := blk_frozen h0 2
  have f3 := blk_frozen h1 0
  have f4 := blk_frozen h2 0
  have n01 : b0 ≠ b1 := heap_ne h0 h1 (by simp)
  have n02 : b0 ≠ b2 := heap_ne h0 h2 (by simp)
  have n12 : b1 ≠ b2 := heap_ne h1 h2 (by simp)
  refine wpS_of_wp ?_
  clear h0 h1 h2
  have ha := assert41
  have hw : wrap64 ((q : Int) + 1) = ((q + 1 : Nat) : Int) := by unfold wrap64; omega
  go_wp2
  cases c₀
  simp_all [bodyPostS, results, Try.results17]
end Go.Proofs.Ytkoldjmhcifpjaa.readn
/-! ## ReadP -/
namespace Go.Proofs.Ytkoldjmhcifpjaa.readp
open Go Go.RowKit Go.Proofs.Ytkoldjmhcifpjaa.parsep Go.Proofs.Ytkoldjmhcifpjaa.reada Go.Proofs.Ytkoldjmhcifpjaa.readb Go.Proofs.Ytkoldjmhcifpjaa.readi Go.Proofs.Ytkoldjmhcifpjaa.readn Go.Proofs.Ytkoldjmhcifpjaa.readk Go.Proofs.Ytkoldjmhcifpjaa.PShellReads Go.Proofs.YtkoldjmhcifpjaaW.PrintWords
set_option linter.unusedVariables false
set_option linter.unusedSimpArgs false
theorem row_form {w : World} {base n : Nat} {v : Value} {xs : List Value} (h : w.ownsRow base 34 2 v n xs) : ∃ A1 n1 cp1, v = .slice A1 n1 cp1 := by
  rcases h.2 with ⟨rfl, _⟩ | ⟨g1, cap, cur, rfl, _⟩
  · exact ⟨_, _, _, rfl⟩
  · exact ⟨_, _, _, rfl⟩
theorem run_err : ∀ (l : Bs) (x : Sv) (p q : Nat), run x l p = .error q → q ≤ p + l.length
  | [], x, p, q, h => by
    unfold run at h
    split at h
    · simp only [Except.error.injEq] at h
      omega
    · cases h
  | c :: t, x, p, q, h => by
    unfold run at h
    rw [List.length_cons]
    split at h
    · split at h
      · simp only [Except.error.injEq] at h
        omega
      · have := run_err t _ _ _ h
        omega
    · simp only [Except.error.injEq] at h
      omega
theorem prog_err (l : Bs) (q : Nat) (h : prog (l.length + 1) 0 ⟨[], [], []⟩ l 0 = .error q) : q ≤ l.length := by
  rw [← run_prog (l.length + 1) 0 ⟨[], [], []⟩ l 0 [] 0 (by omega)] at h
  have := run_err _ _ _ _ h
  omega
/-- What shell.Parse hands back. -/
def EndsP (w0 : World) (s : ByteArray) (e : Ending) (w' : World) : Prop :=
  Below w0.heap.size w0 w' ∧ if 4096 < s.size then e = .returned (.tuple #[.agg #[.string ⟨#[]⟩, .string ⟨#[]⟩, .slice none 0 0], .int .i64 160, .int .i64 4097]) else
    match prog (s.size + 1) 0 ⟨[], [], []⟩ s.data.toList 0 with
    | .error q => e = .returned (.tuple #[.agg #[.string ⟨#[]⟩, .string ⟨#[]⟩, .slice none 0 0], .int .i64 160, .int .i64 ((q + 1 : Nat) : Int)])
    | .ok L => ∃ v, e = .returned (.tuple #[.agg #[.string ⟨L.cmd.toArray⟩, .string ⟨L.name.toArray⟩, v], .int .i64 0, .int .i64 0]) ∧ w'.ownsRow w0.heap.size 34 2 v L.opts.length (oc L.opts)
set_option maxHeartbeats 2000000 in
set_option maxRecDepth 100000 in
theorem parse_call (s : ByteArray) (w : World) : Calls Try.prog 7 #[.string s] w (EndsP w s) := by
  have hmf : ∀ (fn : Fn) (first cap : Array Value) (w : World), (Instr.makeFunc fn first cap).run Try.prog w = .ok (.func fn first cap) w := fun _ _ _ _ => rfl
  go_enter_defers Try.func7, Try.ntmps7
  by_cases hs : 4096 < s.size
  · have hi : (4096 : Int) < (s.size : Int) := by omega
    go_wp2
    have hz : Below w.heap.size w (((w.alloc (.cells #[.string ⟨#[]⟩, .string ⟨#[]⟩, .slice none 0 0] 25)).alloc (.cells #[.int .i64 160] 28)).alloc (.cells #[.int .i64 4097] 3)) := (((Below.refl _ w).alloc (Nat.le_refl _) _).alloc (by simp) _).alloc (by simp; omega) _
    simp [bodyPostD, Leaves, results, Try.results7, go_sem]
    exact ⟨hz, by rw [if_pos hs]⟩
  · have hi : ¬ (4096 : Int) < (s.size : Int) := by omega
    obtain ⟨Wc, hWc⟩ : ∃ Wc, Wc = ((w.alloc (.cells #[.string ⟨#[]⟩, .string ⟨#[]⟩, .slice none 0 0] 25)).alloc (.cells #[.int .i64 0] 28)).alloc (.cells #[.int .i64 0] 3) := ⟨_, rfl⟩
    have hcs : Wc.heap.size = w.heap.size + 1 + 1 + 1 := by rw [hWc]; simp
    have hR : RdS Wc (Wc.alloc (.cells #[.string s, .int .i64 0] 44)) (w.heap.size + 1 + 1 + 1) s 0 s.data.toList := by
      rw [← hcs]
      exact ⟨⟨blk_new _ _, Nat.le_refl _⟩, (Below.refl _ _).alloc (Nat.le_refl _) _, rfl, by simp, by omega⟩
    have hb0 : Wc.heap[w.heap.size]? = some (.cells #[.string ⟨#[]⟩, .string ⟨#[]⟩, .slice none 0 0] 25 (0, 0)) := by rw [hWc]; exact blk_alloc (blk_alloc (blk_new _ _) _) _
    have hb1 : Wc.heap[w.heap.size + 1]? = some (.cells #[.int .i64 0] 28 (0, 0)) := by
      have := blk_new (w.alloc (.cells #[.string ⟨#[]⟩, .string ⟨#[]⟩, .slice none 0 0] 25)) (.cells #[.int .i64 0] 28)
      rw [World.size_alloc] at this
      rw [hWc]
      exact blk_alloc this _
    have hb2 : Wc.heap[w.heap.size + 1 + 1]? = some (.cells #[.int .i64 0] 3 (0, 0)) := by
      have := blk_new ((w.alloc (.cells #[.string ⟨#[]⟩, .string ⟨#[]⟩, .slice none 0 0] 25)).alloc (.cells #[.int .i64 0] 28)) (.cells #[.int .i64 0] 3)
      rw [World.size_alloc, World.size_alloc] at this
      rw [hWc]
      exact this
    have hzc : Below w.heap.size w Wc := by rw [hWc]; exact (((Below.refl _ w).alloc (Nat.le_refl _) _).alloc (by simp) _).alloc (by simp; omega) _
    have HP := line_call hR
    have hl : s.data.toList.length = s.size := by simp
    cases hX : prog (s.data.toList.length + 1) 0 ⟨[], [], []⟩ s.data.toList 0 with
    | error q =>
      have hq := prog_err _ _ hX
      rw [hX] at HP
      have HX := Aside0.mk hX
      clear hX
      have HP2 : Calls Try.prog 18 #[.pointer (some ⟨w.heap.size + 1 + 1 + 1, 0, none⟩)] ((((w.alloc (.cells #[.string ⟨#[]⟩, .string ⟨#[]⟩, .slice none 0 0] 25)).alloc (.cells #[.int .i64 0] 28)).alloc (.cells #[.int .i64 0] 3)).alloc (.cells #[.string s, .int .i64 0] 44)) (EndsL Wc (.error q)) := hWc ▸ HP
      have HPA := Aside0.mk HP2
      clear HP HP2
      go_wp2_with (first | (go_at_call 18; refine HPA.out.mono ?_; rintro e W3 ⟨hB_, rfl⟩) | fail)
      have k0 := (hB_.block _ (blk_lt hb0)).trans hb0
      have k1 := (hB_.block _ (blk_lt hb1)).trans hb1
      have k2 := (hB_.block _ (blk_lt hb2)).trans hb2
      refine leaves_cons (f := 17) (args := #[.pointer (some ⟨w.heap.size, 0, none⟩), .pointer (some ⟨w.heap.size + 1, 0, none⟩), .pointer (some ⟨w.heap.size + 1 + 1, 0, none⟩)]) (by simp) (by simp [go_sem]) ?_
      refine (catch_panic w.heap.size (w.heap.size + 1) (w.heap.size + 1 + 1) q (by omega) _ _ _ 0 0 W3 k0 k1 k2).mono ?_
      rintro e u' w'' ⟨rfl, rfl, rfl⟩
      have n01 := heap_ne k0 k1 (by simp)
      have n02 := heap_ne k0 k2 (by simp)
      have n12 := heap_ne k1 k2 (by simp)
      have st : ∀ (W : World) (b i : Nat) (u : Value), KeepBut W (W.setCell ⟨b, i, none⟩ u) b none := fun W b i u => KeepBut.set_ (KeepBut.refl _ _ _) _ _
      have p0 := blk_put (blk_put (blk_put k0 0 (.string ⟨#[]⟩) rfl) 1 (.string ⟨#[]⟩) rfl) 2 (.slice none 0 0) rfl
      have p1 := blk_put ((st _ _ 2 (.slice none 0 0)).blk ((st _ _ 1 (.string ⟨#[]⟩)).blk ((st _ _ 0 (.string ⟨#[]⟩)).blk k1 (Ne.symm n01) (by simp)) (Ne.symm n01) (by simp)) (Ne.symm n01) (by simp)) 0 (.int .i64 160) rfl
      have p2 := blk_put ((st _ _ 0 (.int .i64 160)).blk ((st _ _ 2 (.slice none 0 0)).blk ((st _ _ 1 (.string ⟨#[]⟩)).blk ((st _ _ 0 (.string ⟨#[]⟩)).blk k2 (Ne.symm n02) (by simp)) (Ne.symm n02) (by simp)) (Ne.symm n02) (by simp)) (Ne.symm n12) (by simp)) 0 (.int .i64 ((q + 1 : Nat) : Int)) rfl
      have p1' := (st _ _ 0 (.int .i64 ((q + 1 : Nat) : Int))).blk p1 n12 (by simp)
      have p0' := (st _ (w.heap.size + 1 + 1) 0 (.int .i64 ((q + 1 : Nat) : Int))).blk ((st _ _ 0 (.int .i64 160)).blk p0 n01 (by simp)) n02 (by simp)
      have hbw : Below w.heap.size w W3 := hzc.trans ⟨hB_.os, hB_.tape, hB_.output, hB_.size, fun i hi => hB_.block i (by omega)⟩
      have hb9 := ((((hbw.setCell (p := ⟨w.heap.size, 0, none⟩) (by simp) (.string ⟨#[]⟩)).setCell (p := ⟨w.heap.size, 1, none⟩) (by simp) (.string ⟨#[]⟩)).setCell (p := ⟨w.heap.size, 2, none⟩) (by simp) (.slice none 0 0)).setCell (p := ⟨w.heap.size + 1, 0, none⟩) (by simp) (.int .i64 160)).setCell (p := ⟨w.heap.size + 1 + 1, 0, none⟩) (by simp; omega) (.int .i64 ((q + 1 : Nat) : Int))
      clear p0 p1
      generalize ((((W3.setCell _ _).setCell _ _).setCell _ _).setCell _ _).setCell _ _ = W9 at *
      have e0 : W9.cell? ⟨w.heap.size, 0, none⟩ = some (.string ⟨#[]⟩) := (blk_cell p0' 0).trans rfl
      have e1 : W9.cell? ⟨w.heap.size, 1, none⟩ = some (.string ⟨#[]⟩) := (blk_cell p0' 1).trans rfl
      have e2 : W9.cell? ⟨w.heap.size, 2, none⟩ = some (.slice none 0 0) := (blk_cell p0' 2).trans rfl
      have g1 : W9.cell? ⟨w.heap.size + 1, 0, none⟩ = some (.int .i64 160) := (blk_cell p1' 0).trans rfl
      have g2 : W9.cell? ⟨w.heap.size + 1 + 1, 0, none⟩ = some (.int .i64 ((q + 1 : Nat) : Int)) := (blk_cell p2 0).trans rfl
      simp [Leaves, settle, results, Try.results7, go_sem, e0, e1, e2, g1, g2]
      refine ⟨hb9, ?_⟩
      rw [if_neg hs, ← hl, HX.out]
      simp
    | ok L =>
      rw [hX] at HP
      have HX := Aside0.mk hX
      clear hX
      have HP2 : Calls Try.prog 18 #[.pointer (some ⟨w.heap.size + 1 + 1 + 1, 0, none⟩)] ((((w.alloc (.cells #[.string ⟨#[]⟩, .string ⟨#[]⟩, .slice none 0 0] 25)).alloc (.cells #[.int .i64 0] 28)).alloc (.cells #[.int .i64 0] 3)).alloc (.cells #[.string s, .int .i64 0] 44)) (EndsL Wc (.ok L)) := hWc ▸ HP
      have HPA := Aside0.mk HP2
      clear HP HP2
      go_wp2_with (first | (go_at_call 18; refine HPA.out.mono ?_; rintro e W3 ⟨hB_, v, rfl, hrow⟩; obtain ⟨A1, n1, cp1, rfl⟩ := row_form hrow; have k0 := (hB_.block _ (blk_lt hb0)).trans hb0; have k1 := (hB_.block _ (blk_lt hb1)).trans hb1; have k2 := (hB_.block _ (blk_lt hb2)).trans hb2; have c0 : W3.cell? ⟨w.heap.size, 0, none⟩ = some (.string ⟨#[]⟩) := (blk_cell k0 0).trans rfl; have c1 : W3.cell? ⟨w.heap.size, 1, none⟩ = some (.string ⟨#[]⟩) := (blk_cell k0 1).trans rfl; have c2 : W3.cell? ⟨w.heap.size, 2, none⟩ = some (.slice none 0 0) := (blk_cell k0 2).trans rfl; have c3 : W3.cell? ⟨w.heap.size + 1, 0, none⟩ = some (.int .i64 0) := (blk_cell k1 0).trans rfl; have c4 : W3.cell? ⟨w.heap.size + 1 + 1, 0, none⟩ = some (.int .i64 0) := (blk_cell k2 0).trans rfl; have f0 := blk_frozen k0 0; have f1 := blk_frozen k0 1; have f2 := blk_frozen k0 2; have f3 := blk_frozen k1 0; have f4 := blk_frozen k2 0) | fail)
      have n01 := heap_ne k0 k1 (by simp)
      have n02 := heap_ne k0 k2 (by simp)
      have n12 := heap_ne k1 k2 (by simp)
      have st : ∀ (W : World) (b i : Nat) (u : Value), KeepBut W (W.setCell ⟨b, i, none⟩ u) b none := fun W b i u => KeepBut.set_ (KeepBut.refl _ _ _) _ _
      have p0 := blk_put (blk_put (blk_put k0 0 (.string ⟨L.cmd.toArray⟩) rfl) 1 (.string ⟨L.name.toArray⟩) rfl) 2 (.slice A1 n1 cp1) rfl
      have p1 := blk_put ((st _ _ 2 (.slice A1 n1 cp1)).blk ((st _ _ 1 (.string ⟨L.name.toArray⟩)).blk ((st _ _ 0 (.string ⟨L.cmd.toArray⟩)).blk k1 (Ne.symm n01) (by simp)) (Ne.symm n01) (by simp)) (Ne.symm n01) (by simp)) 0 (.int .i64 0) rfl
      have p2 := blk_put ((st _ _ 0 (.int .i64 0)).blk ((st _ _ 2 (.slice A1 n1 cp1)).blk ((st _ _ 1 (.string ⟨L.name.toArray⟩)).blk ((st _ _ 0 (.string ⟨L.cmd.toArray⟩)).blk k2 (Ne.symm n02) (by simp)) (Ne.symm n02) (by simp)) (Ne.symm n02) (by simp)) (Ne.symm n12) (by simp)) 0 (.int .i64 0) rfl
      have p1' := (st _ (w.heap.size + 1 + 1) 0 (.int .i64 0)).blk p1 n12 (by simp)
      have p0' := (st _ (w.heap.size + 1 + 1) 0 (.int .i64 0)).blk ((st _ (w.heap.size + 1) 0 (.int .i64 0)).blk p0 n01 (by simp)) n02 (by simp)
      have hbw : Below w.heap.size w W3 := hzc.trans ⟨hB_.os, hB_.tape, hB_.output, hB_.size, fun i hi => hB_.block i (by omega)⟩
      have hb9 := ((((hbw.setCell (p := ⟨w.heap.size, 0, none⟩) (by simp) (.string ⟨L.cmd.toArray⟩)).setCell (p := ⟨w.heap.size, 1, none⟩) (by simp) (.string ⟨L.name.toArray⟩)).setCell (p := ⟨w.heap.size, 2, none⟩) (by simp) (.slice A1 n1 cp1)).setCell (p := ⟨w.heap.size + 1, 0, none⟩) (by simp) (.int .i64 0)).setCell (p := ⟨w.heap.size + 1 + 1, 0, none⟩) (by simp; omega) (.int .i64 0)
      have hr9 := ownsRow_setCell_below (ownsRow_setCell_below (ownsRow_setCell_below (ownsRow_setCell_below (ownsRow_setCell_below hrow (a := ⟨w.heap.size, 0, none⟩) (by simp; omega) (.string ⟨L.cmd.toArray⟩)) (a := ⟨w.heap.size, 1, none⟩) (by simp; omega) (.string ⟨L.name.toArray⟩)) (a := ⟨w.heap.size, 2, none⟩) (by simp; omega) (.slice A1 n1 cp1)) (a := ⟨w.heap.size + 1, 0, none⟩) (by simp; omega) (.int .i64 0)) (a := ⟨w.heap.size + 1 + 1, 0, none⟩) (by simp; omega) (.int .i64 0)
      clear p0 p1 hrow
      generalize ((((W3.setCell _ _).setCell _ _).setCell _ _).setCell _ _).setCell _ _ = W9 at *
      refine leaves_cons (f := 17) (args := #[.pointer (some ⟨w.heap.size, 0, none⟩), .pointer (some ⟨w.heap.size + 1, 0, none⟩), .pointer (some ⟨w.heap.size + 1 + 1, 0, none⟩)]) (by simp) (by simp [go_sem]) ?_
      refine (catch_idle w.heap.size (w.heap.size + 1) (w.heap.size + 1 + 1) W9).mono ?_
      rintro e u' w'' ⟨rfl, rfl, rfl⟩
      have e0 : w''.cell? ⟨w.heap.size, 0, none⟩ = some (.string ⟨L.cmd.toArray⟩) := (blk_cell p0' 0).trans rfl
      have e1 : w''.cell? ⟨w.heap.size, 1, none⟩ = some (.string ⟨L.name.toArray⟩) := (blk_cell p0' 1).trans rfl
      have e2 : w''.cell? ⟨w.heap.size, 2, none⟩ = some (.slice A1 n1 cp1) := (blk_cell p0' 2).trans rfl
      have g1 : w''.cell? ⟨w.heap.size + 1, 0, none⟩ = some (.int .i64 0) := (blk_cell p1' 0).trans rfl
      have g2 : w''.cell? ⟨w.heap.size + 1 + 1, 0, none⟩ = some (.int .i64 0) := (blk_cell p2 0).trans rfl
      simp [Leaves, settle, results, Try.results7, go_sem, e0, e1, e2, g1, g2]
      refine ⟨hb9, ?_⟩
      rw [if_neg hs, ← hl, HX.out]
      exact ⟨_, rfl, hr9.1, hr9.2.imp id fun ⟨g1, cap, cur, h1, h2, r⟩ => ⟨g1, cap, cur, h1, by omega, r⟩⟩
end Go.Proofs.Ytkoldjmhcifpjaa.readp
