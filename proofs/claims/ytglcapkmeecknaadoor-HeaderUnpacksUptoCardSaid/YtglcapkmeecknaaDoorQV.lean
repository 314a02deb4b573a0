/- The walk of the reference's Unpack. (Merged by merge.py.) -/
import Derived.Test.YtglcapkmeecknaaDoorQU
import Derived.Deep.RegionHeld3
/-! ## U14 -/
namespace Go.Proofs.YtglcapkmeecknaaDoor.u14
open Go Go.RowKit Go.Proofs.YtglcapkmeecknaaDoor.s28 Go.Proofs.YtglcapkmeecknaaDoor.u13 Go.Proofs.YtglcapkmeecknaaDoor.tk Go.Proofs.YtglcapkmeecknaaDoor.g31 Go.Proofs.YtglcapkmeecknaaDoor.g36 Go.Proofs.YtglcapkmeecknaaDoor.e32 Go.Proofs.YtglcapkmeecknaaDoor.f29 Go.Proofs.YtglcapkmeecknaaDoor.headp Go.Proofs.YtglcapkmeecknaaDoor.p24 Go.Proofs.YtglcapkmeecknaaDoor.PHeaderPacks Go.Proofs.YtglcapkmeecknaaDoor.sha Go.Proofs.YtglcapkmeecknaaDoor.mem Go.Proofs.YtglcapkmeecknaaDoor.r12 Go.Proofs.YtglcapkmeecknaaDoor.h27 Go.Proofs.YtglcapkmeecknaaDoorW.PrintWords Go.Proofs.YtglcapkmeecknaaDoorW.PrintLast Go.Proofs.YtglcapkmeecknaaDoorW.PrintMore
set_option linter.unusedVariables false
set_option linter.unusedSimpArgs false
theorem rtS_of (s : List Int) (h : tkB s = true) : rtS s = tkS s := by
  unfold tkB at h
  rw [Bool.and_eq_true] at h
  unfold rtS zs
  rw [if_pos h.2]
section
variable {P : Program} {ops : Array Oper} {Q : Exit → Act → World → Prop} {md : Region.Mode} {S : World → Prop}
/-- An operation of a drawn region, taken first; its temporary by its number. -/
theorem take_yes {i : Nat} {N : Option Tmp} {oi : Oper} {v : Value} {fuel : Nat} {listed : Array Bool} {a : Act} {w : World} (hi : ops[i]? = some oi)
    (hs : Region.noSelect ops = true) (hf : Region.free md ops listed i = true) (hr : (Region.ready md ops listed).contains i = true)
    (hQ : ∀ c a w, Q (.panic c) (a.put N v) w → Q (.panic c) a w) (hN : oi.dst = N) (hw : Region.wanted oi (yielded ops a.tmps) = true) (hy : ∀ w, S w → (execOp a.eval oi).run P w = .ok (.value v) w) (hS : S w)
    (h : wpAnyH P md ops Q S fuel (listed.setIfInBounds i true) (a.put N v) w) : wpAnyH P md ops Q S (fuel + 1) listed a w := by
  subst hN
  exact wpAnyH_take hi hs hf hr hQ (Or.inl ⟨hw, hy⟩) hS h
theorem take_no {i : Nat} {N : Option Tmp} {oi : Oper} {fuel : Nat} {listed : Array Bool} {a : Act} {w : World} (hi : ops[i]? = some oi)
    (hs : Region.noSelect ops = true) (hf : Region.free md ops listed i = true) (hr : (Region.ready md ops listed).contains i = true)
    (hQ : ∀ c a w, Q (.panic c) (a.put N undef) w → Q (.panic c) a w) (hN : oi.dst = N) (hw : Region.wanted oi (yielded ops a.tmps) = false) (hS : S w)
    (h : wpAnyH P md ops Q S fuel (listed.setIfInBounds i true) (a.put N undef) w) : wpAnyH P md ops Q S (fuel + 1) listed a w := by
  subst hN
  exact wpAnyH_take hi hs hf hr hQ (Or.inr ⟨hw, rfl⟩) hS h
end
structure REnv (kf : Nat → BitVec 32) (x : St) (g o : Nat) (b : List Int) (w : World) : Prop where
  C : Kd.C (Kd.int .u8) w (some ⟨g, o, none⟩) b.length b
  T : RefTab kf x w
theorem REnv.below {kf : Nat → BitVec 32} {x : St} {g o : Nat} {b : List Int} {w w' : World} (h : REnv kf x g o b w) (hb : Below w.heap.size w w') : REnv kf x g o b w' := ⟨Kd.C_below h.C hb, h.T.below hb⟩
set_option maxHeartbeats 4000000 in
set_option maxRecDepth 100000 in
theorem runpack_call (kf : Nat → BitVec 32) (x : St) (sec : Bool) (w : World) (g o c : Nat) (b : List Int) (hlc : b.length ≤ c) (hb : Byt b) (hl : b.length ≤ 140737488355328) (hv : REnv kf x g o b w) :
    Calls Tryd.prog 14 #[.slice (some ⟨g, o, none⟩) b.length c, .bool sec] w fun e w' => e = .returned (.tuple #[.agg (unV kf x sec b), .int .i64 (unE kf x sec b)]) ∧ Below w.heap.size w w' := by
  obtain ⟨E, hE⟩ : ∃ E, Aside0 (E = unE kf x sec b) := ⟨_, ⟨rfl⟩⟩
  obtain ⟨V, hV⟩ : ∃ V, Aside0 (V = unV kf x sec b) := ⟨_, ⟨rfl⟩⟩
  rw [← hE.out, ← hV.out]
  have hVz := Aside0.mk (show E ≠ 0 → V = zero8 from fun h => by rw [hV.out]; unfold unV; rw [if_neg (by rw [← hE.out]; exact h)])
  have hVf := Aside0.mk (show E = 0 → V = fullV sec b from fun h => by rw [hV.out]; unfold unV; rw [if_pos (by rw [← hE.out]; exact h)])
  clear hV
  unfold unE at hE
  have HBz : Below w.heap.size w ((w.alloc (.cells zero8 24)).alloc (.cells zero8 24)) := below_alloc (below_alloc (Below.refl _ w) _) _
  have B4z : ((w.alloc (.cells zero8 24)).alloc (.cells zero8 24)).heap[w.heap.size]? = some (.cells zero8 24 (0, 0)) := blk_alloc (blk_new w _) _
  have B6z : ((w.alloc (.cells zero8 24)).alloc (.cells zero8 24)).heap[w.heap.size + 1]? = some (.cells zero8 24 (0, 0)) := by
    have := blk_new (w.alloc (.cells zero8 24)) (.cells zero8 24)
    rw [World.size_alloc] at this
    exact this
  go_enter Tryd.func14, Tryd.ntmps14
  by_cases h4 : b.length < 4096
  · have d4 : decide ((b.length : Int) < 4096) = true := by simp; omega
    have hE5 : E = 5 := by rw [hE.out, if_pos h4]
    have hV5 := hVz.out (by rw [hE5]; decide)
    clear hE hVz hVf
    subst hE5 hV5
    go_wp2_with fail
    exact bodyPost_ret (results_ct Tryd.results14 _ _ w.heap.size 24 zero8 (0, 0) _ rfl B4z Tryd.underlying24 rfl (by kernel_rfl)) rfl ⟨rfl, HBz⟩
  · have d4 : decide ((b.length : Int) < 4096) = false := by simp; omega
    rw [if_neg h4] at hE
    by_cases hfr : frE sec b = 0
    · rw [if_neg (show ¬ frE sec b ≠ 0 from fun h => h hfr)] at hE
      by_cases hfl : frH sec b = b.length
      · rw [if_neg (show ¬ frH sec b ≠ b.length from fun h => h hfl)] at hE
        obtain ⟨hX, hlo, hhi, M, hM⟩ := front_ok sec b hfr hfl
        have hlc2 : 4096 < c := by omega
        obtain ⟨ad1, hadd1, cut1, hlen1, hC1⟩ := mid ⟨g, o, none⟩ b c hlc 448 480 448 480 rfl rfl (by omega) (by omega)
        obtain rfl := hadd1 (by omega)
        rw [add_at] at cut1 hC1
        obtain ⟨ad2, hadd2, cut2, hlen2, hC2⟩ := mid ⟨g, o, none⟩ b c hlc 104 168 104 168 rfl rfl (by omega) (by omega)
        obtain rfl := hadd2 (by omega)
        rw [add_at] at cut2 hC2
        have hsum : ∀ W : World, Below w.heap.size w W → Calls Tryd.prog 12 #[.slice (some ⟨g, o, none⟩) b.length c] W fun e w' => ∃ A_ c', e = .returned (.slice A_ 32 c') ∧ (convert 25 9 (.slice A_ 32 c')).run Tryd.prog w' = .ok (.string (strOfNums (rsha kf x (hole b)))) w' ∧ Below W.heap.size W w' := by
          intro W hW
          refine (rsum_call kf x W (hv.below hW).T ⟨g, o, none⟩ c b hlc (hv.below hW).C (by omega) (by omega) hb).mono ?_
          rintro e w' ⟨v, h1, h2, h3⟩
          obtain ⟨A_, c', rfl, h5, h6⟩ := Kd.R_reads h2
          have hl32 : (rsha kf x (hole b)).length = 32 := digTo_len _ 8
          rw [hl32] at h1 h6
          exact ⟨A_, c', h1, str_ h6, h3⟩
        have HSUM := Aside0.mk hsum
        have HS1 := Aside0.mk (fun (W : World) (hW : Below w.heap.size w W) => str_ (c := c - 448) (hC1 W (hv.below hW).C))
        have HS2 := Aside0.mk (fun (W : World) (hW : Below w.heap.size w W) => str_ (c := c - 104) (hC2 W (hv.below hW).C))
        clear hsum hadd1 hlen1 hC1 hadd2 hlen2 hC2 hX hM
        have f0 : ((0 : Int) == 0) = true := rfl
        have f1 : (frH sec b != (b.length : Int)) = false := bne_eq_false_iff_eq.mpr hfl
        have f2 : (frH sec b == (b.length : Int)) = true := beq_iff_eq.mpr hfl
        generalize hDD : rsha kf x (hole b) = D at *
        generalize hS1g : strOfNums ((b.take 480).drop 448) = P1 at *
        have hP1 : strOfNums (seg b 448 480) = P1 := hS1g
        rw [hP1] at hE
        generalize strOfNums D = P2 at *
        obtain ⟨q, hq⟩ : ∃ q, (P1.toList == P2.toList) = q := ⟨_, rfl⟩
        have HQ := Aside0.mk hq
        clear hDD hS1g hP1
        go_upto_region 9 with (first | (go_at_call 34; refine (rfront_call sec _ g o c b hlc hb (by omega) hl (hv.below HBz).C).mono ?_; rintro e W1 ⟨rfl, hb1⟩; have HB := HBz.trans (hb1.mono HBz.size); have B4 := blk_below B4z hb1; have B6 := blk_below B6z hb1; clear HBz B4z B6z hb1) | fail)
        generalize W1 = wa at *
        go_cut [45] from 39 to 45 (fun v45 wx => v45 = .bool (!q) ∧ Below w.heap.size w wx ∧ wx.heap[w.heap.size]? = some (.cells zero8 24 (0, 0)) ∧ wx.heap[w.heap.size + 1]? = some (.cells zero8 24 (0, 0)))
        case first =>
          have HBd := below_drew HB
          have hS : (convert 25 9 (.slice (some ⟨g, o + 448, none⟩) 32 (c - 448))).run Tryd.prog wa.drew = .ok (.string P1) wa.drew := HS1.out _ HBd
          have hqb : (!(P1.toList == P2.toList)) = (!q) := by rw [hq]
          go_region_with (first | (go_at_call 12; refine (HSUM.out _ HBd).mono ?_; rintro e W2 ⟨A_, c', rfl, hcv, hb2⟩; have HB2 := HBd.trans (hb2.mono HBd.size); have B42 := blk_below (blk_drew B4) hb2; have B62 := blk_below (blk_drew B6) hb2; have hSb : (convert 25 9 (.slice (some ⟨g, o + 448, none⟩) 32 (c - 448))).run Tryd.prog W2 = .ok (.string P1) W2 := HS1.out _ HB2))
          all_goals (go_wp2_with fail; go_meet; exact ⟨rfl, HB2, B42, B62⟩)
        case rest =>
          obtain ⟨rfl, HB3, B43, B63⟩ := hcut
          clear HB B4 B6 HSUM HS1 hq
          cases q with
          | false =>
            have hne : ¬ P1.toList = P2.toList := beq_eq_false_iff_ne.mp HQ.out
            rw [if_pos hne] at hE
            have hV5 := hVz.out (by rw [hE.out]; decide)
            have hE5 := hE.out
            clear hE hVz hVf hne hfr hfl f1 f2
            subst hE5 hV5
            go_wp2_with (first | ((with_reducible refine gate_ (.load 24 (.tmp 6)) rfl ?_); refine wpList_load_row rfl 24 (.tmp 6) rfl (w.heap.size + 1) rfl 24 zero8 (0, 0) _ B63 Tryd.underlying24 rfl (by kernel_rfl) ?_) | ((with_reducible refine gate_ (.store 24 (.tmp 4) (.tmp 46)) rfl ?_); refine wpList_store_row rfl 24 (.tmp 4) (.tmp 46) rfl w.heap.size zero8 rfl rfl 24 zero8 B43 (by kernel_rfl) (by kernel_rfl) (by kernel_rfl) ?_) | fail)
            refine bodyPost_ret (results_ct Tryd.results14 _ _ w.heap.size 24 zero8 (0, 0) _ rfl (setRow_heap _ w.heap.size zero8 zero8 24 (0, 0) B43) Tryd.underlying24 rfl (by kernel_rfl)) rfl ⟨rfl, below_setRow HB3 (Nat.le_refl _) _⟩
          | true =>
            have hye : P1.toList = P2.toList := eq_of_beq HQ.out
            rw [if_neg (fun h => h hye)] at hE
            clear HQ hye f1 f2
            have HB := HB3
            have B4 := B43
            have B6 := B63
            clear HB3 B43 B63
            have GET16 := Aside0.mk (fun (W : World) (hW : Below w.heap.size w W) => rget_call W ⟨g, o, none⟩ c b hlc (hv.below hW).C hb 16 8 (by omega) (by omega) hl)
            have GETO := Aside0.mk (fun (W : World) (hW : Below w.heap.size w W) => rget_call W ⟨g, o, none⟩ c b hlc (hv.below hW).C hb 256 8 (by omega) (by omega) hl)
            have TX24 := Aside0.mk (fun (W : World) (hW : Below w.heap.size w W) => text_call W ⟨g, o, none⟩ c b hlc (hv.below hW).C 24 72 (by omega) (by omega) hl)
            have TX72 := Aside0.mk (fun (W : World) (hW : Below w.heap.size w W) => text_call W ⟨g, o, none⟩ c b hlc (hv.below hW).C 72 104 (by omega) (by omega) hl)
            have TX168 := Aside0.mk (fun (W : World) (hW : Below w.heap.size w W) => text_call W ⟨g, o, none⟩ c b hlc (hv.below hW).C 168 208 (by omega) (by omega) hl)
            have TX208 := Aside0.mk (fun (W : World) (hW : Below w.heap.size w W) => text_call W ⟨g, o, none⟩ c b hlc (hv.below hW).C 208 256 (by omega) (by omega) hl)
            have hTT : (b.take b.length).drop 4096 = b.drop 4096 := by rw [List.take_length]
            have TXT := Aside0.mk (fun (W : World) (hW : Below w.heap.size w W) => text_call W ⟨g, o, none⟩ c b hlc (hv.below hW).C 4096 b.length (by omega) (Nat.le_refl _) hl)
            rw [hTT] at TXT
            clear hTT
            have HZ264 := Aside0.mk (fun (W : World) (hW : Below w.heap.size w W) => rzeros_call W ⟨g, o, none⟩ c b hlc (hv.below hW).C 264 448 (by omega) (by omega) hl)
            have HZ480 := Aside0.mk (fun (W : World) (hW : Below w.heap.size w W) => rzeros_call W ⟨g, o, none⟩ c b hlc (hv.below hW).C 480 4096 (by omega) (by omega) hl)
            obtain ⟨OFF, hOFF⟩ : ∃ OFF : Int, OFF = (if sec then (b.length : Int) else 0) := ⟨_, rfl⟩
            have hwr : IntKind.u64.wrap OFF = OFF := by rw [hOFF, IntKind.wrap_u64]; split <;> omega
            obtain ⟨y, hy⟩ : ∃ y, ((tkS (seg b 72 104)).toList == sha256B.toList) = y := ⟨_, rfl⟩
            have hy2 : decide ((tkS (seg b 72 104)).toList = sha256B.toList) = y := by rw [← hy]; by_cases h : (tkS (seg b 72 104)).toList = sha256B.toList <;> simp [h]
            have hok : okF sec b = (decide (1 ≤ numAt b 16 8) && decide (numAt b 16 8 ≤ 4611686018427387904) && decide (numAt b 256 8 = OFF) && tkB (seg b 24 72) && tkB (seg b 168 208) && tkB (seg b 208 256) && tkB (seg b 72 104) && y && zs (seg b 264 448) && zs (seg b 480 4096)) := by
              unfold okF
              rw [hy2, ← hOFF]
            have hyb : ((tkS (seg b 72 104)).toList == (⟨#[115, 104, 97, 50, 53, 54]⟩ : ByteArray).toList) = y := hy
            have hyc : ((tkS (seg b 72 104)).toList == [115, 104, 97, 50, 53, 54]) = y := by rw [← sha_list]; exact hy
            have hyd : decide ((tkS (seg b 72 104)).toList = [115, 104, 97, 50, 53, 54]) = y := by rw [← sha_list]; exact hy2
            clear hy hy2
            have HE := Aside0.mk (hok ▸ hE.out : E = if (decide (1 ≤ numAt b 16 8) && decide (numAt b 16 8 ≤ 4611686018427387904) && decide (numAt b 256 8 = OFF) && tkB (seg b 24 72) && tkB (seg b 168 208) && tkB (seg b 208 256) && tkB (seg b 72 104) && y && zs (seg b 264 448) && zs (seg b 480 4096)) = false then 85 else if tkB (b.drop 4096) = false then 86 else 0)
            clear hE hok
            obtain ⟨FV, hFV⟩ : ∃ FV, Aside0 (FV = fullV sec b) := ⟨_, ⟨rfl⟩⟩
            rw [← hFV.out] at hVf
            obtain ⟨seq, hseq⟩ : ∃ seq, Aside0 (seq = numAt b 16 8) := ⟨_, ⟨rfl⟩⟩
            obtain ⟨no, hno⟩ : ∃ no, Aside0 (no = numAt b 256 8) := ⟨_, ⟨rfl⟩⟩
            rw [show num ((b.drop 16).take 8) = seq from hseq.out.symm] at GET16
            rw [show num ((b.drop 256).take 8) = no from hno.out.symm] at GETO
            rw [← hseq.out, ← hno.out] at HE
            obtain ⟨salt, hsalt⟩ : ∃ salt, Aside0 (salt = strOfNums ((b.take 168).drop 104)) := ⟨_, ⟨rfl⟩⟩
            rw [← hsalt.out] at HS2
            have hFV2 : Aside0 (FV = #[.bool sec, .int .i64 b.length, .int .u64 seq, .string (tkS (seg b 24 72)), .string (tkS (seg b 208 256)), .string (tkS (seg b 168 208)), .string salt, .string (tkS (b.drop 4096))]) := ⟨by rw [hFV.out, hseq.out, hsalt.out]; rfl⟩
            clear hFV
            have hFV := hFV2
            clear hFV2 hseq hno hsalt
            have hbeg : ∀ W : World, Calls Tryd.prog 21 #[.agg #[.bool sec, .int .i64 b.length, .int .u64 seq, .string ⟨#[]⟩, .string ⟨#[]⟩, .string ⟨#[]⟩, .string salt, .string ⟨#[]⟩]] W fun e w' => e = .returned (.int .i64 OFF) ∧ Below W.heap.size W w' :=
              fun W => cofferref08_Begin.calls sec (b.length : Int) seq _ _ _ salt _ OFF W (by unfold cofferref08_Begin.f; rw [hOFF]; cases sec <;> rfl)
            have HBEG := Aside0.mk hbeg
            clear hbeg hOFF
            have RT24 := Aside0.mk (rtS_of (seg b 24 72))
            have TX24b : Aside0 (∀ (W : World), Below w.heap.size w W → Calls Tryd.prog 36 #[.slice (some ⟨g, o, none⟩) b.length c, .int .i64 24, .int .i64 72] W fun e w' => e = .returned (.tuple #[.string (rtS (seg b 24 72)), .bool (tkB (seg b 24 72))]) ∧ w' = W) := ⟨TX24.out⟩
            clear TX24
            have RT72 := Aside0.mk (rtS_of (seg b 72 104))
            have TX72b : Aside0 (∀ (W : World), Below w.heap.size w W → Calls Tryd.prog 36 #[.slice (some ⟨g, o, none⟩) b.length c, .int .i64 72, .int .i64 104] W fun e w' => e = .returned (.tuple #[.string (rtS (seg b 72 104)), .bool (tkB (seg b 72 104))]) ∧ w' = W) := ⟨TX72.out⟩
            clear TX72
            have RT168 := Aside0.mk (rtS_of (seg b 168 208))
            have TX168b : Aside0 (∀ (W : World), Below w.heap.size w W → Calls Tryd.prog 36 #[.slice (some ⟨g, o, none⟩) b.length c, .int .i64 168, .int .i64 208] W fun e w' => e = .returned (.tuple #[.string (rtS (seg b 168 208)), .bool (tkB (seg b 168 208))]) ∧ w' = W) := ⟨TX168.out⟩
            clear TX168
            have RT208 := Aside0.mk (rtS_of (seg b 208 256))
            have TX208b : Aside0 (∀ (W : World), Below w.heap.size w W → Calls Tryd.prog 36 #[.slice (some ⟨g, o, none⟩) b.length c, .int .i64 208, .int .i64 256] W fun e w' => e = .returned (.tuple #[.string (rtS (seg b 208 256)), .bool (tkB (seg b 208 256))]) ∧ w' = W) := ⟨TX208.out⟩
            clear TX208
            have RTT := Aside0.mk (rtS_of (b.drop 4096))
            have HZ264b : Aside0 (∀ (W : World), Below w.heap.size w W → Calls Tryd.prog 37 #[.slice (some ⟨g, o, none⟩) b.length c, .int .i64 264, .int .i64 448] W fun e w' => e = .returned (.bool (zs (seg b 264 448))) ∧ w' = W) := ⟨HZ264.out⟩
            clear HZ264
            have HZ480b : Aside0 (∀ (W : World), Below w.heap.size w W → Calls Tryd.prog 37 #[.slice (some ⟨g, o, none⟩) b.length c, .int .i64 480, .int .i64 4096] W fun e w' => e = .returned (.bool (zs (seg b 480 4096))) ∧ w' = W) := ⟨HZ480.out⟩
            clear HZ480
            have GET16b : Aside0 (∀ (W : World), Below w.heap.size w W → Calls Tryd.prog 35 #[.slice (some ⟨g, o, none⟩) b.length c, .int .i64 16, .int .i64 8] W fun e w' => e = .returned (.int .u64 seq) ∧ w' = W) := ⟨GET16.out⟩
            have GETOb : Aside0 (∀ (W : World), Below w.heap.size w W → Calls Tryd.prog 35 #[.slice (some ⟨g, o, none⟩) b.length c, .int .i64 256, .int .i64 8] W fun e w' => e = .returned (.int .u64 no) ∧ w' = W) := ⟨GETO.out⟩
            have TXTb : Aside0 (∀ (W : World), Below w.heap.size w W → Calls Tryd.prog 36 #[.slice (some ⟨g, o, none⟩) b.length c, .int .i64 4096, .int .i64 b.length] W fun e w' => e = .returned (.tuple #[.string (rtS (b.drop 4096)), .bool (tkB (b.drop 4096))]) ∧ w' = W) := ⟨TXT.out⟩
            clear GET16 GETO TXT
            generalize tkS (seg b 24 72) = S24 at *
            generalize tkB (seg b 24 72) = T24 at *
            generalize rtS (seg b 24 72) = R24 at *
            generalize tkS (seg b 72 104) = S72 at *
            generalize tkB (seg b 72 104) = T72 at *
            generalize rtS (seg b 72 104) = R72 at *
            generalize tkS (seg b 168 208) = S168 at *
            generalize tkB (seg b 168 208) = T168 at *
            generalize rtS (seg b 168 208) = R168 at *
            generalize tkS (seg b 208 256) = S208 at *
            generalize tkB (seg b 208 256) = T208 at *
            generalize rtS (seg b 208 256) = R208 at *
            generalize tkS (b.drop 4096) = ST at *
            generalize tkB (b.drop 4096) = TT at *
            generalize rtS (b.drop 4096) = RT at *
            generalize zs (seg b 264 448) = Z264 at *
            generalize zs (seg b 480 4096) = Z480 at *
            clear hfr hfl
            generalize wc = wb at *
            have hSalt : (convert 25 9 (.slice (some ⟨g, o + 104, none⟩) 64 (c - 104))).run Tryd.prog (wb.alloc (.cells #[.bool sec, .int .i64 b.length, .int .u64 seq, .string ⟨#[]⟩, .string ⟨#[]⟩, .string ⟨#[]⟩, .string ⟨#[]⟩, .string ⟨#[]⟩] 24)) = .ok (.string salt) (wb.alloc (.cells #[.bool sec, .int .i64 b.length, .int .u64 seq, .string ⟨#[]⟩, .string ⟨#[]⟩, .string ⟨#[]⟩, .string ⟨#[]⟩, .string ⟨#[]⟩] 24)) := HS2.out _ (below_alloc HB _)
            clear HS2
            by_cases s1 : 1 ≤ seq
            · have e1 : decide (1 ≤ seq) = true := decide_eq_true s1
              have e1b : decide (seq < 1) = false := decide_eq_false (by omega)
              rw [e1] at HE
              clear s1
              by_cases s2 : seq ≤ 4611686018427387904
              · have e2 : decide (seq ≤ 4611686018427387904) = true := decide_eq_true s2
                have e2b : decide (seq > 4611686018427387904) = false := decide_eq_false (by omega)
                have e2c : decide (4611686018427387904 < seq) = false := decide_eq_false (by omega)
                rw [e2] at HE
                clear s2
                cases T24 with
                | false =>
                  have hE5 : E = 85 := by rw [HE.out]; simp
                  have hV5 := hVz.out (by rw [hE5]; decide)
                  clear HE hVz hVf hFV
                  subst hE5 hV5
                  go_wp2_with (first | (go_at_call 35; with_reducible refine (GET16b.out _ (below_alloc HB _)).mono ?_; rintro e W ⟨rfl, hW⟩; rw [hW]; clear hW) | (go_at_call 36; with_reducible refine (TX24b.out _ (below_alloc HB _)).mono ?_; rintro e W ⟨rfl, hW⟩; rw [hW]; clear hW) | (go_at_call 36; with_reducible refine (TX72b.out _ (below_alloc HB _)).mono ?_; rintro e W ⟨rfl, hW⟩; rw [hW]; clear hW) | (go_at_call 36; with_reducible refine (TX168b.out _ (below_alloc HB _)).mono ?_; rintro e W ⟨rfl, hW⟩; rw [hW]; clear hW) | (go_at_call 36; with_reducible refine (TX208b.out _ (below_alloc HB _)).mono ?_; rintro e W ⟨rfl, hW⟩; rw [hW]; clear hW) | ((with_reducible refine gate_ (.load 24 (.tmp 6)) rfl ?_); refine wpList_load_row rfl 24 (.tmp 6) rfl (w.heap.size + 1) rfl 24 zero8 (0, 0) _ (blk_alloc B6 _) Tryd.underlying24 rfl (by kernel_rfl) ?_) | ((with_reducible refine gate_ (.store 24 (.tmp 4) (.tmp 106)) rfl ?_); refine wpList_store_row rfl 24 (.tmp 4) (.tmp 106) rfl w.heap.size zero8 rfl rfl 24 zero8 (blk_alloc B4 _) (by kernel_rfl) (by kernel_rfl) (by kernel_rfl) ?_) | fail)
                  refine bodyPost_ret (results_ct Tryd.results14 _ _ w.heap.size 24 zero8 (0, 0) _ rfl (setRow_heap _ w.heap.size zero8 zero8 24 (0, 0) (blk_alloc B4 _)) Tryd.underlying24 rfl (by kernel_rfl)) rfl ⟨rfl, below_setRow (below_alloc HB _) (Nat.le_refl _) _⟩
                | true =>
                  obtain rfl := RT24.out rfl
                  cases T72 with
                  | false =>
                    have hE5 : E = 85 := by rw [HE.out]; simp
                    have hV5 := hVz.out (by rw [hE5]; decide)
                    clear HE hVz hVf hFV
                    subst hE5 hV5
                    go_wp2_with (first | (go_at_call 35; with_reducible refine (GET16b.out _ (below_alloc HB _)).mono ?_; rintro e W ⟨rfl, hW⟩; rw [hW]; clear hW) | (go_at_call 36; with_reducible refine (TX24b.out _ (below_alloc HB _)).mono ?_; rintro e W ⟨rfl, hW⟩; rw [hW]; clear hW) | (go_at_call 36; with_reducible refine (TX72b.out _ (below_alloc HB _)).mono ?_; rintro e W ⟨rfl, hW⟩; rw [hW]; clear hW) | (go_at_call 36; with_reducible refine (TX168b.out _ (below_alloc HB _)).mono ?_; rintro e W ⟨rfl, hW⟩; rw [hW]; clear hW) | (go_at_call 36; with_reducible refine (TX208b.out _ (below_alloc HB _)).mono ?_; rintro e W ⟨rfl, hW⟩; rw [hW]; clear hW) | ((with_reducible refine gate_ (.load 24 (.tmp 6)) rfl ?_); refine wpList_load_row rfl 24 (.tmp 6) rfl (w.heap.size + 1) rfl 24 zero8 (0, 0) _ (blk_alloc B6 _) Tryd.underlying24 rfl (by kernel_rfl) ?_) | ((with_reducible refine gate_ (.store 24 (.tmp 4) (.tmp 106)) rfl ?_); refine wpList_store_row rfl 24 (.tmp 4) (.tmp 106) rfl w.heap.size zero8 rfl rfl 24 zero8 (blk_alloc B4 _) (by kernel_rfl) (by kernel_rfl) (by kernel_rfl) ?_) | fail)
                    refine bodyPost_ret (results_ct Tryd.results14 _ _ w.heap.size 24 zero8 (0, 0) _ rfl (setRow_heap _ w.heap.size zero8 zero8 24 (0, 0) (blk_alloc B4 _)) Tryd.underlying24 rfl (by kernel_rfl)) rfl ⟨rfl, below_setRow (below_alloc HB _) (Nat.le_refl _) _⟩
                  | true =>
                    obtain rfl := RT72.out rfl
                    cases T168 with
                    | false =>
                      have hE5 : E = 85 := by rw [HE.out]; simp
                      have hV5 := hVz.out (by rw [hE5]; decide)
                      clear HE hVz hVf hFV
                      subst hE5 hV5
                      go_wp2_with (first | (go_at_call 35; with_reducible refine (GET16b.out _ (below_alloc HB _)).mono ?_; rintro e W ⟨rfl, hW⟩; rw [hW]; clear hW) | (go_at_call 36; with_reducible refine (TX24b.out _ (below_alloc HB _)).mono ?_; rintro e W ⟨rfl, hW⟩; rw [hW]; clear hW) | (go_at_call 36; with_reducible refine (TX72b.out _ (below_alloc HB _)).mono ?_; rintro e W ⟨rfl, hW⟩; rw [hW]; clear hW) | (go_at_call 36; with_reducible refine (TX168b.out _ (below_alloc HB _)).mono ?_; rintro e W ⟨rfl, hW⟩; rw [hW]; clear hW) | (go_at_call 36; with_reducible refine (TX208b.out _ (below_alloc HB _)).mono ?_; rintro e W ⟨rfl, hW⟩; rw [hW]; clear hW) | ((with_reducible refine gate_ (.load 24 (.tmp 6)) rfl ?_); refine wpList_load_row rfl 24 (.tmp 6) rfl (w.heap.size + 1) rfl 24 zero8 (0, 0) _ (blk_alloc B6 _) Tryd.underlying24 rfl (by kernel_rfl) ?_) | ((with_reducible refine gate_ (.store 24 (.tmp 4) (.tmp 106)) rfl ?_); refine wpList_store_row rfl 24 (.tmp 4) (.tmp 106) rfl w.heap.size zero8 rfl rfl 24 zero8 (blk_alloc B4 _) (by kernel_rfl) (by kernel_rfl) (by kernel_rfl) ?_) | fail)
                      refine bodyPost_ret (results_ct Tryd.results14 _ _ w.heap.size 24 zero8 (0, 0) _ rfl (setRow_heap _ w.heap.size zero8 zero8 24 (0, 0) (blk_alloc B4 _)) Tryd.underlying24 rfl (by kernel_rfl)) rfl ⟨rfl, below_setRow (below_alloc HB _) (Nat.le_refl _) _⟩
                    | true =>
                      obtain rfl := RT168.out rfl
                      cases T208 with
                      | false =>
                        have hE5 : E = 85 := by rw [HE.out]; simp
                        have hV5 := hVz.out (by rw [hE5]; decide)
                        clear HE hVz hVf hFV
                        subst hE5 hV5
                        go_wp2_with (first | (go_at_call 35; with_reducible refine (GET16b.out _ (below_alloc HB _)).mono ?_; rintro e W ⟨rfl, hW⟩; rw [hW]; clear hW) | (go_at_call 36; with_reducible refine (TX24b.out _ (below_alloc HB _)).mono ?_; rintro e W ⟨rfl, hW⟩; rw [hW]; clear hW) | (go_at_call 36; with_reducible refine (TX72b.out _ (below_alloc HB _)).mono ?_; rintro e W ⟨rfl, hW⟩; rw [hW]; clear hW) | (go_at_call 36; with_reducible refine (TX168b.out _ (below_alloc HB _)).mono ?_; rintro e W ⟨rfl, hW⟩; rw [hW]; clear hW) | (go_at_call 36; with_reducible refine (TX208b.out _ (below_alloc HB _)).mono ?_; rintro e W ⟨rfl, hW⟩; rw [hW]; clear hW) | ((with_reducible refine gate_ (.load 24 (.tmp 6)) rfl ?_); refine wpList_load_row rfl 24 (.tmp 6) rfl (w.heap.size + 1) rfl 24 zero8 (0, 0) _ (blk_alloc B6 _) Tryd.underlying24 rfl (by kernel_rfl) ?_) | ((with_reducible refine gate_ (.store 24 (.tmp 4) (.tmp 106)) rfl ?_); refine wpList_store_row rfl 24 (.tmp 4) (.tmp 106) rfl w.heap.size zero8 rfl rfl 24 zero8 (blk_alloc B4 _) (by kernel_rfl) (by kernel_rfl) (by kernel_rfl) ?_) | fail)
                        refine bodyPost_ret (results_ct Tryd.results14 _ _ w.heap.size 24 zero8 (0, 0) _ rfl (setRow_heap _ w.heap.size zero8 zero8 24 (0, 0) (blk_alloc B4 _)) Tryd.underlying24 rfl (by kernel_rfl)) rfl ⟨rfl, below_setRow (below_alloc HB _) (Nat.le_refl _) _⟩
                      | true =>
                        obtain rfl := RT208.out rfl
                        cases y with
                        | false =>
                          have hE5 : E = 85 := by rw [HE.out]; simp
                          have hV5 := hVz.out (by rw [hE5]; decide)
                          clear HE hVz hVf hFV
                          subst hE5 hV5
                          go_wp2_with (first | (go_at_call 35; with_reducible refine (GET16b.out _ (below_alloc HB _)).mono ?_; rintro e W ⟨rfl, hW⟩; rw [hW]; clear hW) | (go_at_call 36; with_reducible refine (TX24b.out _ (below_alloc HB _)).mono ?_; rintro e W ⟨rfl, hW⟩; rw [hW]; clear hW) | (go_at_call 36; with_reducible refine (TX72b.out _ (below_alloc HB _)).mono ?_; rintro e W ⟨rfl, hW⟩; rw [hW]; clear hW) | (go_at_call 36; with_reducible refine (TX168b.out _ (below_alloc HB _)).mono ?_; rintro e W ⟨rfl, hW⟩; rw [hW]; clear hW) | (go_at_call 36; with_reducible refine (TX208b.out _ (below_alloc HB _)).mono ?_; rintro e W ⟨rfl, hW⟩; rw [hW]; clear hW) | ((with_reducible refine gate_ (.load 24 (.tmp 6)) rfl ?_); refine wpList_load_row rfl 24 (.tmp 6) rfl (w.heap.size + 1) rfl 24 zero8 (0, 0) _ (blk_alloc B6 _) Tryd.underlying24 rfl (by kernel_rfl) ?_) | ((with_reducible refine gate_ (.store 24 (.tmp 4) (.tmp 106)) rfl ?_); refine wpList_store_row rfl 24 (.tmp 4) (.tmp 106) rfl w.heap.size zero8 rfl rfl 24 zero8 (blk_alloc B4 _) (by kernel_rfl) (by kernel_rfl) (by kernel_rfl) ?_) | fail)
                          refine bodyPost_ret (results_ct Tryd.results14 _ _ w.heap.size 24 zero8 (0, 0) _ rfl (setRow_heap _ w.heap.size zero8 zero8 24 (0, 0) (blk_alloc B4 _)) Tryd.underlying24 rfl (by kernel_rfl)) rfl ⟨rfl, below_setRow (below_alloc HB _) (Nat.le_refl _) _⟩
                        | true =>
                          go_upto_region 22 with (first | (go_at_call 35; with_reducible refine (GET16b.out _ (below_alloc HB _)).mono ?_; rintro e W ⟨rfl, hW⟩; rw [hW]; clear hW) | (go_at_call 36; with_reducible refine (TX24b.out _ (below_alloc HB _)).mono ?_; rintro e W ⟨rfl, hW⟩; rw [hW]; clear hW) | (go_at_call 36; with_reducible refine (TX72b.out _ (below_alloc HB _)).mono ?_; rintro e W ⟨rfl, hW⟩; rw [hW]; clear hW) | (go_at_call 36; with_reducible refine (TX168b.out _ (below_alloc HB _)).mono ?_; rintro e W ⟨rfl, hW⟩; rw [hW]; clear hW) | (go_at_call 36; with_reducible refine (TX208b.out _ (below_alloc HB _)).mono ?_; rintro e W ⟨rfl, hW⟩; rw [hW]; clear hW) | fail)
                          have HB9 : Below w.heap.size w (wb.alloc (.cells #[.bool sec, .int .i64 b.length, .int .u64 seq, .string ⟨#[]⟩, .string ⟨#[]⟩, .string ⟨#[]⟩, .string salt, .string ⟨#[]⟩] 24)) := below_alloc HB _
                          have B49 := blk_alloc B4 (.cells #[.bool sec, .int .i64 b.length, .int .u64 seq, .string ⟨#[]⟩, .string ⟨#[]⟩, .string ⟨#[]⟩, .string salt, .string ⟨#[]⟩] 24)
                          have B69 := blk_alloc B6 (.cells #[.bool sec, .int .i64 b.length, .int .u64 seq, .string ⟨#[]⟩, .string ⟨#[]⟩, .string ⟨#[]⟩, .string salt, .string ⟨#[]⟩] 24)
                          have B9 := blk_new wb (.cells #[.bool sec, .int .i64 b.length, .int .u64 seq, .string ⟨#[]⟩, .string ⟨#[]⟩, .string ⟨#[]⟩, .string salt, .string ⟨#[]⟩] 24)
                          have n9lt : w.heap.size + 1 < wb.heap.size := blk_lt B6
                          clear HB B4 B6 hSalt
                          generalize wb.alloc (.cells #[.bool sec, .int .i64 b.length, .int .u64 seq, .string ⟨#[]⟩, .string ⟨#[]⟩, .string ⟨#[]⟩, .string salt, .string ⟨#[]⟩] 24) = wa at *
                          generalize wb.heap.size = n9 at *
                          obtain ⟨z, hz⟩ : ∃ z, (no == OFF) = z := ⟨_, rfl⟩
                          have hz2 : decide (no = OFF) = z := by rw [← hz]; by_cases h : no = OFF <;> simp [h]
                          rw [hz2] at HE
                          have hzn : (no != OFF) = !z := by rw [← hz]; rfl
                          clear hz2
                          go_cut [122] from 107 to 122 (fun v122 wx => v122 = .bool (!(z && Z264 && Z480)) ∧ Below w.heap.size w wx ∧ wx.heap[w.heap.size]? = some (.cells zero8 24 (0, 0)) ∧ wx.heap[w.heap.size + 1]? = some (.cells zero8 24 (0, 0)) ∧ wx.heap[n9]? = some (.cells #[.bool sec, .int .i64 b.length, .int .u64 seq, .string ⟨#[]⟩, .string ⟨#[]⟩, .string ⟨#[]⟩, .string salt, .string ⟨#[]⟩] 24 (0, 0)))
                          case first =>
                            have HBd := below_drew HB9
                            have k0 : wa.cell? ⟨n9, 0, none⟩ = some (.bool sec) := (blk_cell B9 0).trans rfl
                            have k1 : wa.cell? ⟨n9, 1, none⟩ = some (.int .i64 b.length) := (blk_cell B9 1).trans rfl
                            have k2 : wa.cell? ⟨n9, 2, none⟩ = some (.int .u64 seq) := (blk_cell B9 2).trans rfl
                            have k3 : wa.cell? ⟨n9, 3, none⟩ = some (.string ⟨#[]⟩) := (blk_cell B9 3).trans rfl
                            have k4 : wa.cell? ⟨n9, 4, none⟩ = some (.string ⟨#[]⟩) := (blk_cell B9 4).trans rfl
                            have k5 : wa.cell? ⟨n9, 5, none⟩ = some (.string ⟨#[]⟩) := (blk_cell B9 5).trans rfl
                            have k6 : wa.cell? ⟨n9, 6, none⟩ = some (.string salt) := (blk_cell B9 6).trans rfl
                            have k7 : wa.cell? ⟨n9, 7, none⟩ = some (.string ⟨#[]⟩) := (blk_cell B9 7).trans rfl
                            cases z with
                            | false =>
                              have hzn2 : (no != OFF) = true := hzn
                              clear hzn
                              cases Z264 with
                              | false =>
                                refine wp_region_held_drew (S := (fun w' => Below w.heap.size w w' ∧ w'.heap[w.heap.size]? = some (.cells zero8 24 (0, 0)) ∧ w'.heap[w.heap.size + 1]? = some (.cells zero8 24 (0, 0)) ∧ w'.heap[n9]? = some (.cells #[.bool sec, .int .i64 b.length, .int .u64 seq, .string ⟨#[]⟩, .string ⟨#[]⟩, .string ⟨#[]⟩, .string salt, .string ⟨#[]⟩] 24 (0, 0)) ∧ w'.cell? ⟨n9, 0, none⟩ = some (.bool sec) ∧ w'.cell? ⟨n9, 1, none⟩ = some (.int .i64 b.length) ∧ w'.cell? ⟨n9, 2, none⟩ = some (.int .u64 seq) ∧ w'.cell? ⟨n9, 3, none⟩ = some (.string ⟨#[]⟩) ∧ w'.cell? ⟨n9, 4, none⟩ = some (.string ⟨#[]⟩) ∧ w'.cell? ⟨n9, 5, none⟩ = some (.string ⟨#[]⟩) ∧ w'.cell? ⟨n9, 6, none⟩ = some (.string salt) ∧ w'.cell? ⟨n9, 7, none⟩ = some (.string ⟨#[]⟩))) (by kernel_rfl) ⟨HBd, blk_drew B49, blk_drew B69, blk_drew B9, k0, k1, k2, k3, k4, k5, k6, k7⟩ (fun hH0 => ?_)
                                refine take_yes (i := 0) (N := some 107) (v := ?v1) rfl (by kernel_rfl) (by kernel_rfl) (by kernel_rfl) (fun _ _ _ h => h) rfl (by rfl) (fun w' hSw => ?hy1) hH0 ?rest1
                                case hy1 => ((try dsimp only at hSw); go_simp; first | done | (with_reducible rfl))
                                case rest1 =>
                                  try simp only [Act.put, List.setIfInBounds_toArray, List.set_cons_zero, List.set_cons_succ]
                                  refine take_yes (i := 2) (N := some 109) (v := ?v2) rfl (by kernel_rfl) (by kernel_rfl) (by kernel_rfl) (fun _ _ _ h => h) rfl (by rfl) (fun w' hSw => ?hy2) hH0 ?rest2
                                  case hy2 => ((try dsimp only at hSw); go_simp; first | done | (with_reducible rfl))
                                  case rest2 =>
                                    try simp only [Act.put, List.setIfInBounds_toArray, List.set_cons_zero, List.set_cons_succ]
                                    refine wpAnyH_ready (rs := [1]) (by kernel_rfl) (by simp) ?_
                                    refine AllReadyH.cons rfl (fun K hK => ?_) AllReadyH.nil
                                    go_simp
                                    refine (GETOb.out _ HBd).mono ?_
                                    rintro e W ⟨rfl, hW⟩
                                    rw [hW]
                                    clear hW
                                    refine hK.out _ _ ⟨HBd, blk_drew B49, blk_drew B69, blk_drew B9, k0, k1, k2, k3, k4, k5, k6, k7⟩ (fun hH1 => ?_)
                                    clear hK
                                    clear K
                                    try simp only [Act.put, List.setIfInBounds_toArray, List.set_cons_zero, List.set_cons_succ]
                                    refine wpAnyH_ready (rs := [3]) (by kernel_rfl) (by simp) ?_
                                    refine AllReadyH.cons rfl (fun K hK => ?_) AllReadyH.nil
                                    go_simp
                                    refine (HBEG.out _).mono ?_
                                    rintro e W3 ⟨rfl, hb3⟩
                                    have HB3 := HBd.trans (hb3.mono HBd.size)
                                    have B43 := blk_below (blk_drew B49) hb3
                                    have B63 := blk_below (blk_drew B69) hb3
                                    have B93 := blk_below (blk_drew B9) hb3
                                    have j0 : W3.cell? ⟨n9, 0, none⟩ = some (.bool sec) := (blk_cell B93 0).trans rfl
                                    have j1 : W3.cell? ⟨n9, 1, none⟩ = some (.int .i64 b.length) := (blk_cell B93 1).trans rfl
                                    have j2 : W3.cell? ⟨n9, 2, none⟩ = some (.int .u64 seq) := (blk_cell B93 2).trans rfl
                                    have j3 : W3.cell? ⟨n9, 3, none⟩ = some (.string ⟨#[]⟩) := (blk_cell B93 3).trans rfl
                                    have j4 : W3.cell? ⟨n9, 4, none⟩ = some (.string ⟨#[]⟩) := (blk_cell B93 4).trans rfl
                                    have j5 : W3.cell? ⟨n9, 5, none⟩ = some (.string ⟨#[]⟩) := (blk_cell B93 5).trans rfl
                                    have j6 : W3.cell? ⟨n9, 6, none⟩ = some (.string salt) := (blk_cell B93 6).trans rfl
                                    have j7 : W3.cell? ⟨n9, 7, none⟩ = some (.string ⟨#[]⟩) := (blk_cell B93 7).trans rfl
                                    refine hK.out _ _ ⟨HB3, B43, B63, B93, j0, j1, j2, j3, j4, j5, j6, j7⟩ (fun hH3 => ?_)
                                    clear hK
                                    clear K
                                    try simp only [Act.put, List.setIfInBounds_toArray, List.set_cons_zero, List.set_cons_succ]
                                    refine take_yes (i := 4) (N := some 111) (v := ?v3) rfl (by kernel_rfl) (by kernel_rfl) (by kernel_rfl) (fun _ _ _ h => h) rfl (by rfl) (fun w' hSw => ?hy3) hH3 ?rest3
                                    case hy3 => ((try dsimp only at hSw); go_simp; first | done | (with_reducible rfl))
                                    case rest3 =>
                                      try simp only [Act.put, List.setIfInBounds_toArray, List.set_cons_zero, List.set_cons_succ]
                                      refine take_yes (i := 5) (N := some 112) (v := .bool true) rfl (by kernel_rfl) (by kernel_rfl) (by kernel_rfl) (fun _ _ _ h => h) rfl (by rfl) (fun w' hSw => ?hy4) hH3 ?rest4
                                      case hy4 => ((try dsimp only at hSw); go_simp; first | done | rfl)
                                      case rest4 =>
                                        try simp only [Act.put, List.setIfInBounds_toArray, List.set_cons_zero, List.set_cons_succ]
                                        refine take_yes (i := 6) (N := some 113) (v := .bool true) rfl (by kernel_rfl) (by kernel_rfl) (by kernel_rfl) (fun _ _ _ h => h) rfl (by rfl) (fun w' hSw => ?hy5) hH3 ?rest5
                                        case hy5 => ((try dsimp only at hSw); go_simp; first | done | rfl)
                                        case rest5 =>
                                          try simp only [Act.put, List.setIfInBounds_toArray, List.set_cons_zero, List.set_cons_succ]
                                          refine take_no (i := 7) (N := some 114) rfl (by kernel_rfl) (by kernel_rfl) (by kernel_rfl) (fun _ _ _ h => h) rfl (by rfl) hH3 ?_
                                          try simp only [Act.put, List.setIfInBounds_toArray, List.set_cons_zero, List.set_cons_succ]
                                          refine take_no (i := 8) (N := some 115) rfl (by kernel_rfl) (by kernel_rfl) (by kernel_rfl) (fun _ _ _ h => h) rfl (by rfl) hH3 ?_
                                          try simp only [Act.put, List.setIfInBounds_toArray, List.set_cons_zero, List.set_cons_succ]
                                          refine take_no (i := 9) (N := some 116) rfl (by kernel_rfl) (by kernel_rfl) (by kernel_rfl) (fun _ _ _ h => h) rfl (by rfl) hH3 ?_
                                          try simp only [Act.put, List.setIfInBounds_toArray, List.set_cons_zero, List.set_cons_succ]
                                          refine take_yes (i := 10) (N := some 117) (v := .bool true) rfl (by kernel_rfl) (by kernel_rfl) (by kernel_rfl) (fun _ _ _ h => h) rfl (by rfl) (fun w' hSw => ?hy6) hH3 ?rest6
                                          case hy6 => ((try dsimp only at hSw); go_simp; first | done | rfl)
                                          case rest6 =>
                                            try simp only [Act.put, List.setIfInBounds_toArray, List.set_cons_zero, List.set_cons_succ]
                                            refine take_yes (i := 11) (N := some 118) (v := .bool true) rfl (by kernel_rfl) (by kernel_rfl) (by kernel_rfl) (fun _ _ _ h => h) rfl (by rfl) (fun w' hSw => ?hy7) hH3 ?rest7
                                            case hy7 => ((try dsimp only at hSw); go_simp; first | done | rfl)
                                            case rest7 =>
                                              try simp only [Act.put, List.setIfInBounds_toArray, List.set_cons_zero, List.set_cons_succ]
                                              refine take_no (i := 12) (N := some 119) rfl (by kernel_rfl) (by kernel_rfl) (by kernel_rfl) (fun _ _ _ h => h) rfl (by rfl) hH3 ?_
                                              try simp only [Act.put, List.setIfInBounds_toArray, List.set_cons_zero, List.set_cons_succ]
                                              refine take_no (i := 13) (N := some 120) rfl (by kernel_rfl) (by kernel_rfl) (by kernel_rfl) (fun _ _ _ h => h) rfl (by rfl) hH3 ?_
                                              try simp only [Act.put, List.setIfInBounds_toArray, List.set_cons_zero, List.set_cons_succ]
                                              refine take_no (i := 14) (N := some 121) rfl (by kernel_rfl) (by kernel_rfl) (by kernel_rfl) (fun _ _ _ h => h) rfl (by rfl) hH3 ?_
                                              try simp only [Act.put, List.setIfInBounds_toArray, List.set_cons_zero, List.set_cons_succ]
                                              refine take_yes (i := 15) (N := some 122) (v := .bool true) rfl (by kernel_rfl) (by kernel_rfl) (by kernel_rfl) (fun _ _ _ h => h) rfl (by rfl) (fun w' hSw => ?hy8) hH3 ?rest8
                                              case hy8 => ((try dsimp only at hSw); go_simp; first | done | rfl)
                                              case rest8 =>
                                                try simp only [Act.put, List.setIfInBounds_toArray, List.set_cons_zero, List.set_cons_succ]
                                                refine wpAnyH_done (by kernel_rfl) ?_ _
                                                go_wp2_with fail
                                                go_meet
                                                exact ⟨rfl, HB3, B43, B63, B93⟩
                              | true =>
                                refine wp_region_held_drew (S := (fun w' => Below w.heap.size w w' ∧ w'.heap[w.heap.size]? = some (.cells zero8 24 (0, 0)) ∧ w'.heap[w.heap.size + 1]? = some (.cells zero8 24 (0, 0)) ∧ w'.heap[n9]? = some (.cells #[.bool sec, .int .i64 b.length, .int .u64 seq, .string ⟨#[]⟩, .string ⟨#[]⟩, .string ⟨#[]⟩, .string salt, .string ⟨#[]⟩] 24 (0, 0)) ∧ w'.cell? ⟨n9, 0, none⟩ = some (.bool sec) ∧ w'.cell? ⟨n9, 1, none⟩ = some (.int .i64 b.length) ∧ w'.cell? ⟨n9, 2, none⟩ = some (.int .u64 seq) ∧ w'.cell? ⟨n9, 3, none⟩ = some (.string ⟨#[]⟩) ∧ w'.cell? ⟨n9, 4, none⟩ = some (.string ⟨#[]⟩) ∧ w'.cell? ⟨n9, 5, none⟩ = some (.string ⟨#[]⟩) ∧ w'.cell? ⟨n9, 6, none⟩ = some (.string salt) ∧ w'.cell? ⟨n9, 7, none⟩ = some (.string ⟨#[]⟩))) (by kernel_rfl) ⟨HBd, blk_drew B49, blk_drew B69, blk_drew B9, k0, k1, k2, k3, k4, k5, k6, k7⟩ (fun hH0 => ?_)
                                refine take_yes (i := 0) (N := some 107) (v := ?v9) rfl (by kernel_rfl) (by kernel_rfl) (by kernel_rfl) (fun _ _ _ h => h) rfl (by rfl) (fun w' hSw => ?hy9) hH0 ?rest9
                                case hy9 => ((try dsimp only at hSw); go_simp; first | done | (with_reducible rfl))
                                case rest9 =>
                                  try simp only [Act.put, List.setIfInBounds_toArray, List.set_cons_zero, List.set_cons_succ]
                                  refine take_yes (i := 2) (N := some 109) (v := ?v10) rfl (by kernel_rfl) (by kernel_rfl) (by kernel_rfl) (fun _ _ _ h => h) rfl (by rfl) (fun w' hSw => ?hy10) hH0 ?rest10
                                  case hy10 => ((try dsimp only at hSw); go_simp; first | done | (with_reducible rfl))
                                  case rest10 =>
                                    try simp only [Act.put, List.setIfInBounds_toArray, List.set_cons_zero, List.set_cons_succ]
                                    refine wpAnyH_ready (rs := [1]) (by kernel_rfl) (by simp) ?_
                                    refine AllReadyH.cons rfl (fun K hK => ?_) AllReadyH.nil
                                    go_simp
                                    refine (GETOb.out _ HBd).mono ?_
                                    rintro e W ⟨rfl, hW⟩
                                    rw [hW]
                                    clear hW
                                    refine hK.out _ _ ⟨HBd, blk_drew B49, blk_drew B69, blk_drew B9, k0, k1, k2, k3, k4, k5, k6, k7⟩ (fun hH1 => ?_)
                                    clear hK
                                    clear K
                                    try simp only [Act.put, List.setIfInBounds_toArray, List.set_cons_zero, List.set_cons_succ]
                                    refine wpAnyH_ready (rs := [3]) (by kernel_rfl) (by simp) ?_
                                    refine AllReadyH.cons rfl (fun K hK => ?_) AllReadyH.nil
                                    go_simp
                                    refine (HBEG.out _).mono ?_
                                    rintro e W3 ⟨rfl, hb3⟩
                                    have HB3 := HBd.trans (hb3.mono HBd.size)
                                    have B43 := blk_below (blk_drew B49) hb3
                                    have B63 := blk_below (blk_drew B69) hb3
                                    have B93 := blk_below (blk_drew B9) hb3
                                    have j0 : W3.cell? ⟨n9, 0, none⟩ = some (.bool sec) := (blk_cell B93 0).trans rfl
                                    have j1 : W3.cell? ⟨n9, 1, none⟩ = some (.int .i64 b.length) := (blk_cell B93 1).trans rfl
                                    have j2 : W3.cell? ⟨n9, 2, none⟩ = some (.int .u64 seq) := (blk_cell B93 2).trans rfl
                                    have j3 : W3.cell? ⟨n9, 3, none⟩ = some (.string ⟨#[]⟩) := (blk_cell B93 3).trans rfl
                                    have j4 : W3.cell? ⟨n9, 4, none⟩ = some (.string ⟨#[]⟩) := (blk_cell B93 4).trans rfl
                                    have j5 : W3.cell? ⟨n9, 5, none⟩ = some (.string ⟨#[]⟩) := (blk_cell B93 5).trans rfl
                                    have j6 : W3.cell? ⟨n9, 6, none⟩ = some (.string salt) := (blk_cell B93 6).trans rfl
                                    have j7 : W3.cell? ⟨n9, 7, none⟩ = some (.string ⟨#[]⟩) := (blk_cell B93 7).trans rfl
                                    refine hK.out _ _ ⟨HB3, B43, B63, B93, j0, j1, j2, j3, j4, j5, j6, j7⟩ (fun hH3 => ?_)
                                    clear hK
                                    clear K
                                    try simp only [Act.put, List.setIfInBounds_toArray, List.set_cons_zero, List.set_cons_succ]
                                    refine take_yes (i := 4) (N := some 111) (v := ?v11) rfl (by kernel_rfl) (by kernel_rfl) (by kernel_rfl) (fun _ _ _ h => h) rfl (by rfl) (fun w' hSw => ?hy11) hH3 ?rest11
                                    case hy11 => ((try dsimp only at hSw); go_simp; first | done | (with_reducible rfl))
                                    case rest11 =>
                                      try simp only [Act.put, List.setIfInBounds_toArray, List.set_cons_zero, List.set_cons_succ]
                                      refine take_yes (i := 5) (N := some 112) (v := .bool true) rfl (by kernel_rfl) (by kernel_rfl) (by kernel_rfl) (fun _ _ _ h => h) rfl (by rfl) (fun w' hSw => ?hy12) hH3 ?rest12
                                      case hy12 => ((try dsimp only at hSw); go_simp; first | done | rfl)
                                      case rest12 =>
                                        try simp only [Act.put, List.setIfInBounds_toArray, List.set_cons_zero, List.set_cons_succ]
                                        refine take_yes (i := 6) (N := some 113) (v := .bool true) rfl (by kernel_rfl) (by kernel_rfl) (by kernel_rfl) (fun _ _ _ h => h) rfl (by rfl) (fun w' hSw => ?hy13) hH3 ?rest13
                                        case hy13 => ((try dsimp only at hSw); go_simp; first | done | rfl)
                                        case rest13 =>
                                          try simp only [Act.put, List.setIfInBounds_toArray, List.set_cons_zero, List.set_cons_succ]
                                          refine take_no (i := 7) (N := some 114) rfl (by kernel_rfl) (by kernel_rfl) (by kernel_rfl) (fun _ _ _ h => h) rfl (by rfl) hH3 ?_
                                          try simp only [Act.put, List.setIfInBounds_toArray, List.set_cons_zero, List.set_cons_succ]
                                          refine take_no (i := 8) (N := some 115) rfl (by kernel_rfl) (by kernel_rfl) (by kernel_rfl) (fun _ _ _ h => h) rfl (by rfl) hH3 ?_
                                          try simp only [Act.put, List.setIfInBounds_toArray, List.set_cons_zero, List.set_cons_succ]
                                          refine take_no (i := 9) (N := some 116) rfl (by kernel_rfl) (by kernel_rfl) (by kernel_rfl) (fun _ _ _ h => h) rfl (by rfl) hH3 ?_
                                          try simp only [Act.put, List.setIfInBounds_toArray, List.set_cons_zero, List.set_cons_succ]
                                          refine take_yes (i := 10) (N := some 117) (v := .bool true) rfl (by kernel_rfl) (by kernel_rfl) (by kernel_rfl) (fun _ _ _ h => h) rfl (by rfl) (fun w' hSw => ?hy14) hH3 ?rest14
                                          case hy14 => ((try dsimp only at hSw); go_simp; first | done | rfl)
                                          case rest14 =>
                                            try simp only [Act.put, List.setIfInBounds_toArray, List.set_cons_zero, List.set_cons_succ]
                                            refine take_yes (i := 11) (N := some 118) (v := .bool true) rfl (by kernel_rfl) (by kernel_rfl) (by kernel_rfl) (fun _ _ _ h => h) rfl (by rfl) (fun w' hSw => ?hy15) hH3 ?rest15
                                            case hy15 => ((try dsimp only at hSw); go_simp; first | done | rfl)
                                            case rest15 =>
                                              try simp only [Act.put, List.setIfInBounds_toArray, List.set_cons_zero, List.set_cons_succ]
                                              refine take_no (i := 12) (N := some 119) rfl (by kernel_rfl) (by kernel_rfl) (by kernel_rfl) (fun _ _ _ h => h) rfl (by rfl) hH3 ?_
                                              try simp only [Act.put, List.setIfInBounds_toArray, List.set_cons_zero, List.set_cons_succ]
                                              refine take_no (i := 13) (N := some 120) rfl (by kernel_rfl) (by kernel_rfl) (by kernel_rfl) (fun _ _ _ h => h) rfl (by rfl) hH3 ?_
                                              try simp only [Act.put, List.setIfInBounds_toArray, List.set_cons_zero, List.set_cons_succ]
                                              refine take_no (i := 14) (N := some 121) rfl (by kernel_rfl) (by kernel_rfl) (by kernel_rfl) (fun _ _ _ h => h) rfl (by rfl) hH3 ?_
                                              try simp only [Act.put, List.setIfInBounds_toArray, List.set_cons_zero, List.set_cons_succ]
                                              refine take_yes (i := 15) (N := some 122) (v := .bool true) rfl (by kernel_rfl) (by kernel_rfl) (by kernel_rfl) (fun _ _ _ h => h) rfl (by rfl) (fun w' hSw => ?hy16) hH3 ?rest16
                                              case hy16 => ((try dsimp only at hSw); go_simp; first | done | rfl)
                                              case rest16 =>
                                                try simp only [Act.put, List.setIfInBounds_toArray, List.set_cons_zero, List.set_cons_succ]
                                                refine wpAnyH_done (by kernel_rfl) ?_ _
                                                go_wp2_with fail
                                                go_meet
                                                exact ⟨rfl, HB3, B43, B63, B93⟩
                            | true =>
                              have hzn2 : (no != OFF) = false := hzn
                              clear hzn
                              cases Z264 with
                              | false =>
                                refine wp_region_held_drew (S := (fun w' => Below w.heap.size w w' ∧ w'.heap[w.heap.size]? = some (.cells zero8 24 (0, 0)) ∧ w'.heap[w.heap.size + 1]? = some (.cells zero8 24 (0, 0)) ∧ w'.heap[n9]? = some (.cells #[.bool sec, .int .i64 b.length, .int .u64 seq, .string ⟨#[]⟩, .string ⟨#[]⟩, .string ⟨#[]⟩, .string salt, .string ⟨#[]⟩] 24 (0, 0)) ∧ w'.cell? ⟨n9, 0, none⟩ = some (.bool sec) ∧ w'.cell? ⟨n9, 1, none⟩ = some (.int .i64 b.length) ∧ w'.cell? ⟨n9, 2, none⟩ = some (.int .u64 seq) ∧ w'.cell? ⟨n9, 3, none⟩ = some (.string ⟨#[]⟩) ∧ w'.cell? ⟨n9, 4, none⟩ = some (.string ⟨#[]⟩) ∧ w'.cell? ⟨n9, 5, none⟩ = some (.string ⟨#[]⟩) ∧ w'.cell? ⟨n9, 6, none⟩ = some (.string salt) ∧ w'.cell? ⟨n9, 7, none⟩ = some (.string ⟨#[]⟩))) (by kernel_rfl) ⟨HBd, blk_drew B49, blk_drew B69, blk_drew B9, k0, k1, k2, k3, k4, k5, k6, k7⟩ (fun hH0 => ?_)
                                refine take_yes (i := 0) (N := some 107) (v := ?v17) rfl (by kernel_rfl) (by kernel_rfl) (by kernel_rfl) (fun _ _ _ h => h) rfl (by rfl) (fun w' hSw => ?hy17) hH0 ?rest17
                                case hy17 => ((try dsimp only at hSw); go_simp; first | done | (with_reducible rfl))
                                case rest17 =>
                                  try simp only [Act.put, List.setIfInBounds_toArray, List.set_cons_zero, List.set_cons_succ]
                                  refine take_yes (i := 2) (N := some 109) (v := ?v18) rfl (by kernel_rfl) (by kernel_rfl) (by kernel_rfl) (fun _ _ _ h => h) rfl (by rfl) (fun w' hSw => ?hy18) hH0 ?rest18
                                  case hy18 => ((try dsimp only at hSw); go_simp; first | done | (with_reducible rfl))
                                  case rest18 =>
                                    try simp only [Act.put, List.setIfInBounds_toArray, List.set_cons_zero, List.set_cons_succ]
                                    refine wpAnyH_ready (rs := [1]) (by kernel_rfl) (by simp) ?_
                                    refine AllReadyH.cons rfl (fun K hK => ?_) AllReadyH.nil
                                    go_simp
                                    refine (GETOb.out _ HBd).mono ?_
                                    rintro e W ⟨rfl, hW⟩
                                    rw [hW]
                                    clear hW
                                    refine hK.out _ _ ⟨HBd, blk_drew B49, blk_drew B69, blk_drew B9, k0, k1, k2, k3, k4, k5, k6, k7⟩ (fun hH1 => ?_)
                                    clear hK
                                    clear K
                                    try simp only [Act.put, List.setIfInBounds_toArray, List.set_cons_zero, List.set_cons_succ]
                                    refine wpAnyH_ready (rs := [3]) (by kernel_rfl) (by simp) ?_
                                    refine AllReadyH.cons rfl (fun K hK => ?_) AllReadyH.nil
                                    go_simp
                                    refine (HBEG.out _).mono ?_
                                    rintro e W3 ⟨rfl, hb3⟩
                                    have HB3 := HBd.trans (hb3.mono HBd.size)
                                    have B43 := blk_below (blk_drew B49) hb3
                                    have B63 := blk_below (blk_drew B69) hb3
                                    have B93 := blk_below (blk_drew B9) hb3
                                    have j0 : W3.cell? ⟨n9, 0, none⟩ = some (.bool sec) := (blk_cell B93 0).trans rfl
                                    have j1 : W3.cell? ⟨n9, 1, none⟩ = some (.int .i64 b.length) := (blk_cell B93 1).trans rfl
                                    have j2 : W3.cell? ⟨n9, 2, none⟩ = some (.int .u64 seq) := (blk_cell B93 2).trans rfl
                                    have j3 : W3.cell? ⟨n9, 3, none⟩ = some (.string ⟨#[]⟩) := (blk_cell B93 3).trans rfl
                                    have j4 : W3.cell? ⟨n9, 4, none⟩ = some (.string ⟨#[]⟩) := (blk_cell B93 4).trans rfl
                                    have j5 : W3.cell? ⟨n9, 5, none⟩ = some (.string ⟨#[]⟩) := (blk_cell B93 5).trans rfl
                                    have j6 : W3.cell? ⟨n9, 6, none⟩ = some (.string salt) := (blk_cell B93 6).trans rfl
                                    have j7 : W3.cell? ⟨n9, 7, none⟩ = some (.string ⟨#[]⟩) := (blk_cell B93 7).trans rfl
                                    refine hK.out _ _ ⟨HB3, B43, B63, B93, j0, j1, j2, j3, j4, j5, j6, j7⟩ (fun hH3 => ?_)
                                    clear hK
                                    clear K
                                    try simp only [Act.put, List.setIfInBounds_toArray, List.set_cons_zero, List.set_cons_succ]
                                    refine take_yes (i := 4) (N := some 111) (v := ?v19) rfl (by kernel_rfl) (by kernel_rfl) (by kernel_rfl) (fun _ _ _ h => h) rfl (by rfl) (fun w' hSw => ?hy19) hH3 ?rest19
                                    case hy19 => ((try dsimp only at hSw); go_simp; first | done | (with_reducible rfl))
                                    case rest19 =>
                                      try simp only [Act.put, List.setIfInBounds_toArray, List.set_cons_zero, List.set_cons_succ]
                                      refine take_yes (i := 5) (N := some 112) (v := .bool false) rfl (by kernel_rfl) (by kernel_rfl) (by kernel_rfl) (fun _ _ _ h => h) rfl (by rfl) (fun w' hSw => ?hy20) hH3 ?rest20
                                      case hy20 => ((try dsimp only at hSw); go_simp; first | done | rfl)
                                      case rest20 =>
                                        try simp only [Act.put, List.setIfInBounds_toArray, List.set_cons_zero, List.set_cons_succ]
                                        refine take_yes (i := 6) (N := some 113) (v := .bool false) rfl (by kernel_rfl) (by kernel_rfl) (by kernel_rfl) (fun _ _ _ h => h) rfl (by rfl) (fun w' hSw => ?hy21) hH3 ?rest21
                                        case hy21 => ((try dsimp only at hSw); go_simp; first | done | rfl)
                                        case rest21 =>
                                          try simp only [Act.put, List.setIfInBounds_toArray, List.set_cons_zero, List.set_cons_succ]
                                          refine take_yes (i := 7) (N := some 114) (v := ?v22) rfl (by kernel_rfl) (by kernel_rfl) (by kernel_rfl) (fun _ _ _ h => h) rfl (by rfl) (fun w' hSw => ?hy22) hH3 ?rest22
                                          case hy22 => ((try dsimp only at hSw); go_simp; first | done | (with_reducible rfl))
                                          case rest22 =>
                                            try simp only [Act.put, List.setIfInBounds_toArray, List.set_cons_zero, List.set_cons_succ]
                                            refine wpAnyH_ready (rs := [8]) (by kernel_rfl) (by simp) ?_
                                            refine AllReadyH.cons rfl (fun K hK => ?_) AllReadyH.nil
                                            go_simp
                                            refine (HZ264b.out _ HB3).mono ?_
                                            rintro e W ⟨rfl, hW⟩
                                            rw [hW]
                                            clear hW
                                            refine hK.out _ _ ⟨HB3, B43, B63, B93, j0, j1, j2, j3, j4, j5, j6, j7⟩ (fun hH8 => ?_)
                                            clear hK
                                            clear K
                                            try simp only [Act.put, List.setIfInBounds_toArray, List.set_cons_zero, List.set_cons_succ]
                                            refine take_yes (i := 9) (N := some 116) (v := .bool true) rfl (by kernel_rfl) (by kernel_rfl) (by kernel_rfl) (fun _ _ _ h => h) rfl (by rfl) (fun w' hSw => ?hy23) hH8 ?rest23
                                            case hy23 => ((try dsimp only at hSw); go_simp; first | done | rfl)
                                            case rest23 =>
                                              try simp only [Act.put, List.setIfInBounds_toArray, List.set_cons_zero, List.set_cons_succ]
                                              refine take_yes (i := 10) (N := some 117) (v := .bool true) rfl (by kernel_rfl) (by kernel_rfl) (by kernel_rfl) (fun _ _ _ h => h) rfl (by rfl) (fun w' hSw => ?hy24) hH8 ?rest24
                                              case hy24 => ((try dsimp only at hSw); go_simp; first | done | rfl)
                                              case rest24 =>
                                                try simp only [Act.put, List.setIfInBounds_toArray, List.set_cons_zero, List.set_cons_succ]
                                                refine take_yes (i := 11) (N := some 118) (v := .bool true) rfl (by kernel_rfl) (by kernel_rfl) (by kernel_rfl) (fun _ _ _ h => h) rfl (by rfl) (fun w' hSw => ?hy25) hH8 ?rest25
                                                case hy25 => ((try dsimp only at hSw); go_simp; first | done | rfl)
                                                case rest25 =>
                                                  try simp only [Act.put, List.setIfInBounds_toArray, List.set_cons_zero, List.set_cons_succ]
                                                  refine take_no (i := 12) (N := some 119) rfl (by kernel_rfl) (by kernel_rfl) (by kernel_rfl) (fun _ _ _ h => h) rfl (by rfl) hH8 ?_
                                                  try simp only [Act.put, List.setIfInBounds_toArray, List.set_cons_zero, List.set_cons_succ]
                                                  refine take_no (i := 13) (N := some 120) rfl (by kernel_rfl) (by kernel_rfl) (by kernel_rfl) (fun _ _ _ h => h) rfl (by rfl) hH8 ?_
                                                  try simp only [Act.put, List.setIfInBounds_toArray, List.set_cons_zero, List.set_cons_succ]
                                                  refine take_no (i := 14) (N := some 121) rfl (by kernel_rfl) (by kernel_rfl) (by kernel_rfl) (fun _ _ _ h => h) rfl (by rfl) hH8 ?_
                                                  try simp only [Act.put, List.setIfInBounds_toArray, List.set_cons_zero, List.set_cons_succ]
                                                  refine take_yes (i := 15) (N := some 122) (v := .bool true) rfl (by kernel_rfl) (by kernel_rfl) (by kernel_rfl) (fun _ _ _ h => h) rfl (by rfl) (fun w' hSw => ?hy26) hH8 ?rest26
                                                  case hy26 => ((try dsimp only at hSw); go_simp; first | done | rfl)
                                                  case rest26 =>
                                                    try simp only [Act.put, List.setIfInBounds_toArray, List.set_cons_zero, List.set_cons_succ]
                                                    refine wpAnyH_done (by kernel_rfl) ?_ _
                                                    go_wp2_with fail
                                                    go_meet
                                                    exact ⟨rfl, HB3, B43, B63, B93⟩
                              | true =>
                                refine wp_region_held_drew (S := (fun w' => Below w.heap.size w w' ∧ w'.heap[w.heap.size]? = some (.cells zero8 24 (0, 0)) ∧ w'.heap[w.heap.size + 1]? = some (.cells zero8 24 (0, 0)) ∧ w'.heap[n9]? = some (.cells #[.bool sec, .int .i64 b.length, .int .u64 seq, .string ⟨#[]⟩, .string ⟨#[]⟩, .string ⟨#[]⟩, .string salt, .string ⟨#[]⟩] 24 (0, 0)) ∧ w'.cell? ⟨n9, 0, none⟩ = some (.bool sec) ∧ w'.cell? ⟨n9, 1, none⟩ = some (.int .i64 b.length) ∧ w'.cell? ⟨n9, 2, none⟩ = some (.int .u64 seq) ∧ w'.cell? ⟨n9, 3, none⟩ = some (.string ⟨#[]⟩) ∧ w'.cell? ⟨n9, 4, none⟩ = some (.string ⟨#[]⟩) ∧ w'.cell? ⟨n9, 5, none⟩ = some (.string ⟨#[]⟩) ∧ w'.cell? ⟨n9, 6, none⟩ = some (.string salt) ∧ w'.cell? ⟨n9, 7, none⟩ = some (.string ⟨#[]⟩))) (by kernel_rfl) ⟨HBd, blk_drew B49, blk_drew B69, blk_drew B9, k0, k1, k2, k3, k4, k5, k6, k7⟩ (fun hH0 => ?_)
                                refine take_yes (i := 0) (N := some 107) (v := ?v27) rfl (by kernel_rfl) (by kernel_rfl) (by kernel_rfl) (fun _ _ _ h => h) rfl (by rfl) (fun w' hSw => ?hy27) hH0 ?rest27
                                case hy27 => ((try dsimp only at hSw); go_simp; first | done | (with_reducible rfl))
                                case rest27 =>
                                  try simp only [Act.put, List.setIfInBounds_toArray, List.set_cons_zero, List.set_cons_succ]
                                  refine take_yes (i := 2) (N := some 109) (v := ?v28) rfl (by kernel_rfl) (by kernel_rfl) (by kernel_rfl) (fun _ _ _ h => h) rfl (by rfl) (fun w' hSw => ?hy28) hH0 ?rest28
                                  case hy28 => ((try dsimp only at hSw); go_simp; first | done | (with_reducible rfl))
                                  case rest28 =>
                                    try simp only [Act.put, List.setIfInBounds_toArray, List.set_cons_zero, List.set_cons_succ]
                                    refine wpAnyH_ready (rs := [1]) (by kernel_rfl) (by simp) ?_
                                    refine AllReadyH.cons rfl (fun K hK => ?_) AllReadyH.nil
                                    go_simp
                                    refine (GETOb.out _ HBd).mono ?_
                                    rintro e W ⟨rfl, hW⟩
                                    rw [hW]
                                    clear hW
                                    refine hK.out _ _ ⟨HBd, blk_drew B49, blk_drew B69, blk_drew B9, k0, k1, k2, k3, k4, k5, k6, k7⟩ (fun hH1 => ?_)
                                    clear hK
                                    clear K
                                    try simp only [Act.put, List.setIfInBounds_toArray, List.set_cons_zero, List.set_cons_succ]
                                    refine wpAnyH_ready (rs := [3]) (by kernel_rfl) (by simp) ?_
                                    refine AllReadyH.cons rfl (fun K hK => ?_) AllReadyH.nil
                                    go_simp
                                    refine (HBEG.out _).mono ?_
                                    rintro e W3 ⟨rfl, hb3⟩
                                    have HB3 := HBd.trans (hb3.mono HBd.size)
                                    have B43 := blk_below (blk_drew B49) hb3
                                    have B63 := blk_below (blk_drew B69) hb3
                                    have B93 := blk_below (blk_drew B9) hb3
                                    have j0 : W3.cell? ⟨n9, 0, none⟩ = some (.bool sec) := (blk_cell B93 0).trans rfl
                                    have j1 : W3.cell? ⟨n9, 1, none⟩ = some (.int .i64 b.length) := (blk_cell B93 1).trans rfl
                                    have j2 : W3.cell? ⟨n9, 2, none⟩ = some (.int .u64 seq) := (blk_cell B93 2).trans rfl
                                    have j3 : W3.cell? ⟨n9, 3, none⟩ = some (.string ⟨#[]⟩) := (blk_cell B93 3).trans rfl
                                    have j4 : W3.cell? ⟨n9, 4, none⟩ = some (.string ⟨#[]⟩) := (blk_cell B93 4).trans rfl
                                    have j5 : W3.cell? ⟨n9, 5, none⟩ = some (.string ⟨#[]⟩) := (blk_cell B93 5).trans rfl
                                    have j6 : W3.cell? ⟨n9, 6, none⟩ = some (.string salt) := (blk_cell B93 6).trans rfl
                                    have j7 : W3.cell? ⟨n9, 7, none⟩ = some (.string ⟨#[]⟩) := (blk_cell B93 7).trans rfl
                                    refine hK.out _ _ ⟨HB3, B43, B63, B93, j0, j1, j2, j3, j4, j5, j6, j7⟩ (fun hH3 => ?_)
                                    clear hK
                                    clear K
                                    try simp only [Act.put, List.setIfInBounds_toArray, List.set_cons_zero, List.set_cons_succ]
                                    refine take_yes (i := 4) (N := some 111) (v := ?v29) rfl (by kernel_rfl) (by kernel_rfl) (by kernel_rfl) (fun _ _ _ h => h) rfl (by rfl) (fun w' hSw => ?hy29) hH3 ?rest29
                                    case hy29 => ((try dsimp only at hSw); go_simp; first | done | (with_reducible rfl))
                                    case rest29 =>
                                      try simp only [Act.put, List.setIfInBounds_toArray, List.set_cons_zero, List.set_cons_succ]
                                      refine take_yes (i := 5) (N := some 112) (v := .bool false) rfl (by kernel_rfl) (by kernel_rfl) (by kernel_rfl) (fun _ _ _ h => h) rfl (by rfl) (fun w' hSw => ?hy30) hH3 ?rest30
                                      case hy30 => ((try dsimp only at hSw); go_simp; first | done | rfl)
                                      case rest30 =>
                                        try simp only [Act.put, List.setIfInBounds_toArray, List.set_cons_zero, List.set_cons_succ]
                                        refine take_yes (i := 6) (N := some 113) (v := .bool false) rfl (by kernel_rfl) (by kernel_rfl) (by kernel_rfl) (fun _ _ _ h => h) rfl (by rfl) (fun w' hSw => ?hy31) hH3 ?rest31
                                        case hy31 => ((try dsimp only at hSw); go_simp; first | done | rfl)
                                        case rest31 =>
                                          try simp only [Act.put, List.setIfInBounds_toArray, List.set_cons_zero, List.set_cons_succ]
                                          refine take_yes (i := 7) (N := some 114) (v := ?v32) rfl (by kernel_rfl) (by kernel_rfl) (by kernel_rfl) (fun _ _ _ h => h) rfl (by rfl) (fun w' hSw => ?hy32) hH3 ?rest32
                                          case hy32 => ((try dsimp only at hSw); go_simp; first | done | (with_reducible rfl))
                                          case rest32 =>
                                            try simp only [Act.put, List.setIfInBounds_toArray, List.set_cons_zero, List.set_cons_succ]
                                            refine wpAnyH_ready (rs := [8]) (by kernel_rfl) (by simp) ?_
                                            refine AllReadyH.cons rfl (fun K hK => ?_) AllReadyH.nil
                                            go_simp
                                            refine (HZ264b.out _ HB3).mono ?_
                                            rintro e W ⟨rfl, hW⟩
                                            rw [hW]
                                            clear hW
                                            refine hK.out _ _ ⟨HB3, B43, B63, B93, j0, j1, j2, j3, j4, j5, j6, j7⟩ (fun hH8 => ?_)
                                            clear hK
                                            clear K
                                            try simp only [Act.put, List.setIfInBounds_toArray, List.set_cons_zero, List.set_cons_succ]
                                            refine take_yes (i := 9) (N := some 116) (v := .bool false) rfl (by kernel_rfl) (by kernel_rfl) (by kernel_rfl) (fun _ _ _ h => h) rfl (by rfl) (fun w' hSw => ?hy33) hH8 ?rest33
                                            case hy33 => ((try dsimp only at hSw); go_simp; first | done | rfl)
                                            case rest33 =>
                                              try simp only [Act.put, List.setIfInBounds_toArray, List.set_cons_zero, List.set_cons_succ]
                                              refine take_yes (i := 10) (N := some 117) (v := .bool false) rfl (by kernel_rfl) (by kernel_rfl) (by kernel_rfl) (fun _ _ _ h => h) rfl (by rfl) (fun w' hSw => ?hy34) hH8 ?rest34
                                              case hy34 => ((try dsimp only at hSw); go_simp; first | done | rfl)
                                              case rest34 =>
                                                try simp only [Act.put, List.setIfInBounds_toArray, List.set_cons_zero, List.set_cons_succ]
                                                refine take_yes (i := 11) (N := some 118) (v := .bool false) rfl (by kernel_rfl) (by kernel_rfl) (by kernel_rfl) (fun _ _ _ h => h) rfl (by rfl) (fun w' hSw => ?hy35) hH8 ?rest35
                                                case hy35 => ((try dsimp only at hSw); go_simp; first | done | rfl)
                                                case rest35 =>
                                                  try simp only [Act.put, List.setIfInBounds_toArray, List.set_cons_zero, List.set_cons_succ]
                                                  refine take_yes (i := 12) (N := some 119) (v := ?v36) rfl (by kernel_rfl) (by kernel_rfl) (by kernel_rfl) (fun _ _ _ h => h) rfl (by rfl) (fun w' hSw => ?hy36) hH8 ?rest36
                                                  case hy36 => ((try dsimp only at hSw); go_simp; first | done | (with_reducible rfl))
                                                  case rest36 =>
                                                    try simp only [Act.put, List.setIfInBounds_toArray, List.set_cons_zero, List.set_cons_succ]
                                                    refine wpAnyH_ready (rs := [13]) (by kernel_rfl) (by simp) ?_
                                                    refine AllReadyH.cons rfl (fun K hK => ?_) AllReadyH.nil
                                                    go_simp
                                                    refine (HZ480b.out _ HB3).mono ?_
                                                    rintro e W ⟨rfl, hW⟩
                                                    rw [hW]
                                                    clear hW
                                                    refine hK.out _ _ ⟨HB3, B43, B63, B93, j0, j1, j2, j3, j4, j5, j6, j7⟩ (fun hH13 => ?_)
                                                    clear hK
                                                    clear K
                                                    try simp only [Act.put, List.setIfInBounds_toArray, List.set_cons_zero, List.set_cons_succ]
                                                    refine take_yes (i := 14) (N := some 121) (v := .bool (!Z480)) rfl (by kernel_rfl) (by kernel_rfl) (by kernel_rfl) (fun _ _ _ h => h) rfl (by rfl) (fun w' hSw => ?hy37) hH13 ?rest37
                                                    case hy37 => ((try dsimp only at hSw); go_simp; first | done | rfl)
                                                    case rest37 =>
                                                      try simp only [Act.put, List.setIfInBounds_toArray, List.set_cons_zero, List.set_cons_succ]
                                                      refine take_yes (i := 15) (N := some 122) (v := .bool (!Z480)) rfl (by kernel_rfl) (by kernel_rfl) (by kernel_rfl) (fun _ _ _ h => h) rfl (by rfl) (fun w' hSw => ?hy38) hH13 ?rest38
                                                      case hy38 => ((try dsimp only at hSw); go_simp; first | done | rfl)
                                                      case rest38 =>
                                                        try simp only [Act.put, List.setIfInBounds_toArray, List.set_cons_zero, List.set_cons_succ]
                                                        refine wpAnyH_done (by kernel_rfl) ?_ _
                                                        go_wp2_with fail
                                                        go_meet
                                                        exact ⟨rfl, HB3, B43, B63, B93⟩
                          case rest =>
                            obtain ⟨rfl, HBr, B4r, B6r, B9r⟩ := hcut
                            have hn9 : w.heap.size ≤ n9 := by omega
                            have h4n : w.heap.size ≠ n9 := by omega
                            have h6n : w.heap.size + 1 ≠ n9 := by omega
                            clear HB9 B49 B69 B9 hz hzn GETOb HBEG HZ264b HZ480b
                            cases z with
                            | false =>
                              have hE5 : E = 85 := by rw [HE.out]; simp
                              have hV5 := hVz.out (by rw [hE5]; decide)
                              clear HE hVz hVf hFV
                              subst hE5 hV5
                              go_wp2_with (first | ((with_reducible refine gate_ (.load 24 (.tmp 6)) rfl ?_); refine wpList_load_row rfl 24 (.tmp 6) rfl (w.heap.size + 1) rfl 24 zero8 (0, 0) _ B6r Tryd.underlying24 rfl (by kernel_rfl) ?_) | ((with_reducible refine gate_ (.store 24 (.tmp 4) (.tmp 123)) rfl ?_); refine wpList_store_row rfl 24 (.tmp 4) (.tmp 123) rfl w.heap.size zero8 rfl rfl 24 zero8 B4r (by kernel_rfl) (by kernel_rfl) (by kernel_rfl) ?_) | fail)
                              refine bodyPost_ret (results_ct Tryd.results14 _ _ w.heap.size 24 zero8 (0, 0) _ rfl (setRow_heap _ w.heap.size zero8 zero8 24 (0, 0) B4r) Tryd.underlying24 rfl (by kernel_rfl)) rfl ⟨rfl, below_setRow HBr (Nat.le_refl _) _⟩
                            | true =>
                              cases Z264 with
                              | false =>
                                have hE5 : E = 85 := by rw [HE.out]; simp
                                have hV5 := hVz.out (by rw [hE5]; decide)
                                clear HE hVz hVf hFV
                                subst hE5 hV5
                                go_wp2_with (first | ((with_reducible refine gate_ (.load 24 (.tmp 6)) rfl ?_); refine wpList_load_row rfl 24 (.tmp 6) rfl (w.heap.size + 1) rfl 24 zero8 (0, 0) _ B6r Tryd.underlying24 rfl (by kernel_rfl) ?_) | ((with_reducible refine gate_ (.store 24 (.tmp 4) (.tmp 123)) rfl ?_); refine wpList_store_row rfl 24 (.tmp 4) (.tmp 123) rfl w.heap.size zero8 rfl rfl 24 zero8 B4r (by kernel_rfl) (by kernel_rfl) (by kernel_rfl) ?_) | fail)
                                refine bodyPost_ret (results_ct Tryd.results14 _ _ w.heap.size 24 zero8 (0, 0) _ rfl (setRow_heap _ w.heap.size zero8 zero8 24 (0, 0) B4r) Tryd.underlying24 rfl (by kernel_rfl)) rfl ⟨rfl, below_setRow HBr (Nat.le_refl _) _⟩
                              | true =>
                                cases Z480 with
                                | false =>
                                  have hE5 : E = 85 := by rw [HE.out]; simp
                                  have hV5 := hVz.out (by rw [hE5]; decide)
                                  clear HE hVz hVf hFV
                                  subst hE5 hV5
                                  go_wp2_with (first | ((with_reducible refine gate_ (.load 24 (.tmp 6)) rfl ?_); refine wpList_load_row rfl 24 (.tmp 6) rfl (w.heap.size + 1) rfl 24 zero8 (0, 0) _ B6r Tryd.underlying24 rfl (by kernel_rfl) ?_) | ((with_reducible refine gate_ (.store 24 (.tmp 4) (.tmp 123)) rfl ?_); refine wpList_store_row rfl 24 (.tmp 4) (.tmp 123) rfl w.heap.size zero8 rfl rfl 24 zero8 B4r (by kernel_rfl) (by kernel_rfl) (by kernel_rfl) ?_) | fail)
                                  refine bodyPost_ret (results_ct Tryd.results14 _ _ w.heap.size 24 zero8 (0, 0) _ rfl (setRow_heap _ w.heap.size zero8 zero8 24 (0, 0) B4r) Tryd.underlying24 rfl (by kernel_rfl)) rfl ⟨rfl, below_setRow HBr (Nat.le_refl _) _⟩
                                | true =>
                                  cases TT with
                                  | false =>
                                    have hE5 : E = 86 := by rw [HE.out]; simp
                                    have hV5 := hVz.out (by rw [hE5]; decide)
                                    clear HE hVz hVf hFV
                                    subst hE5 hV5
                                    go_wp2_with (first | (go_at_call 36; with_reducible refine (TXTb.out _ HBr).mono ?_; rintro e W ⟨rfl, hW⟩; rw [hW]; clear hW) | ((with_reducible refine gate_ (.load 24 (.tmp 6)) rfl ?_); refine wpList_load_row rfl 24 (.tmp 6) rfl (w.heap.size + 1) rfl 24 zero8 (0, 0) _ B6r Tryd.underlying24 rfl (by kernel_rfl) ?_) | ((with_reducible refine gate_ (.store 24 (.tmp 4) (.tmp 132)) rfl ?_); refine wpList_store_row rfl 24 (.tmp 4) (.tmp 132) rfl w.heap.size zero8 rfl rfl 24 zero8 B4r (by kernel_rfl) (by kernel_rfl) (by kernel_rfl) ?_) | fail)
                                    refine bodyPost_ret (results_ct Tryd.results14 _ _ w.heap.size 24 zero8 (0, 0) _ rfl (setRow_heap _ w.heap.size zero8 zero8 24 (0, 0) B4r) Tryd.underlying24 rfl (by kernel_rfl)) rfl ⟨rfl, below_setRow HBr (Nat.le_refl _) _⟩
                                  | true =>
                                    obtain rfl := RTT.out rfl
                                    have hE5 : E = 0 := by rw [HE.out]; simp
                                    have hV5 := hVf.out hE5
                                    have hF := hFV.out
                                    clear HE hVz hVf hFV
                                    subst hE5 hV5
                                    subst hF
                                    have m3 : wc.cell? ⟨n9, 3, none⟩ = some (.string ⟨#[]⟩) := (blk_cell B9r 3).trans rfl
                                    have f23 := blk_frozen B9r 3
                                    have m5 : wc.cell? ⟨n9, 5, none⟩ = some (.string ⟨#[]⟩) := (blk_cell B9r 5).trans rfl
                                    have f25 := blk_frozen B9r 5
                                    have m4 : wc.cell? ⟨n9, 4, none⟩ = some (.string ⟨#[]⟩) := (blk_cell B9r 4).trans rfl
                                    have f24 := blk_frozen B9r 4
                                    have m7 : wc.cell? ⟨n9, 7, none⟩ = some (.string ⟨#[]⟩) := (blk_cell B9r 7).trans rfl
                                    have f27 := blk_frozen B9r 7
                                    go_wp2_with (first | (go_at_call 36; with_reducible refine (TXTb.out _ HBr).mono ?_; rintro e W ⟨rfl, hW⟩; rw [hW]; clear hW) | ((with_reducible refine gate_ (.load 24 (.tmp 9)) rfl ?_); refine wpList_load_row rfl 24 (.tmp 9) rfl n9 rfl 24 #[.bool sec, .int .i64 b.length, .int .u64 seq, .string R24, .string R208, .string R168, .string salt, .string RT] (0, 0) _ (blk_set (blk_set (blk_set (blk_set B9r 3 (.string R24)) 5 (.string R168)) 4 (.string R208)) 7 (.string RT)) Tryd.underlying24 rfl (by kernel_rfl) ?_) | ((with_reducible refine gate_ (.store 24 (.tmp 4) (.tmp 141)) rfl ?_); refine wpList_store_row rfl 24 (.tmp 4) (.tmp 141) rfl w.heap.size #[.bool sec, .int .i64 b.length, .int .u64 seq, .string R24, .string R208, .string R168, .string salt, .string RT] rfl rfl 24 zero8 (blk_far (blk_far (blk_far (blk_far B4r h4n _) h4n _) h4n _) h4n _) (by kernel_rfl) (by kernel_rfl) (by kernel_rfl) ?_) | fail)
                                    refine bodyPost_ret (results_ct Tryd.results14 _ _ w.heap.size 24 #[.bool sec, .int .i64 b.length, .int .u64 seq, .string R24, .string R208, .string R168, .string salt, .string RT] (0, 0) _ rfl (setRow_heap _ w.heap.size zero8 #[.bool sec, .int .i64 b.length, .int .u64 seq, .string R24, .string R208, .string R168, .string salt, .string RT] 24 (0, 0) (blk_far (blk_far (blk_far (blk_far B4r h4n _) h4n _) h4n _) h4n _)) Tryd.underlying24 rfl (by kernel_rfl)) rfl ⟨rfl, below_setRow ((((HBr.setCell hn9 _).setCell hn9 _).setCell hn9 _).setCell hn9 _) (Nat.le_refl _) _⟩
              · have e2 : decide (seq ≤ 4611686018427387904) = false := decide_eq_false s2
                have e2b : decide (seq > 4611686018427387904) = true := decide_eq_true (by omega)
                have e2c : decide (4611686018427387904 < seq) = true := decide_eq_true (by omega)
                rw [e2] at HE
                clear s2
                have hE5 : E = 85 := by rw [HE.out]; simp
                have hV5 := hVz.out (by rw [hE5]; decide)
                clear HE hVz hVf hFV
                subst hE5 hV5
                go_wp2_with (first | (go_at_call 35; with_reducible refine (GET16b.out _ (below_alloc HB _)).mono ?_; rintro e W ⟨rfl, hW⟩; rw [hW]; clear hW) | (go_at_call 36; with_reducible refine (TX24b.out _ (below_alloc HB _)).mono ?_; rintro e W ⟨rfl, hW⟩; rw [hW]; clear hW) | (go_at_call 36; with_reducible refine (TX72b.out _ (below_alloc HB _)).mono ?_; rintro e W ⟨rfl, hW⟩; rw [hW]; clear hW) | (go_at_call 36; with_reducible refine (TX168b.out _ (below_alloc HB _)).mono ?_; rintro e W ⟨rfl, hW⟩; rw [hW]; clear hW) | (go_at_call 36; with_reducible refine (TX208b.out _ (below_alloc HB _)).mono ?_; rintro e W ⟨rfl, hW⟩; rw [hW]; clear hW) | ((with_reducible refine gate_ (.load 24 (.tmp 6)) rfl ?_); refine wpList_load_row rfl 24 (.tmp 6) rfl (w.heap.size + 1) rfl 24 zero8 (0, 0) _ (blk_alloc B6 _) Tryd.underlying24 rfl (by kernel_rfl) ?_) | ((with_reducible refine gate_ (.store 24 (.tmp 4) (.tmp 106)) rfl ?_); refine wpList_store_row rfl 24 (.tmp 4) (.tmp 106) rfl w.heap.size zero8 rfl rfl 24 zero8 (blk_alloc B4 _) (by kernel_rfl) (by kernel_rfl) (by kernel_rfl) ?_) | fail)
                refine bodyPost_ret (results_ct Tryd.results14 _ _ w.heap.size 24 zero8 (0, 0) _ rfl (setRow_heap _ w.heap.size zero8 zero8 24 (0, 0) (blk_alloc B4 _)) Tryd.underlying24 rfl (by kernel_rfl)) rfl ⟨rfl, below_setRow (below_alloc HB _) (Nat.le_refl _) _⟩
            · have e1 : decide (1 ≤ seq) = false := decide_eq_false s1
              have e1b : decide (seq < 1) = true := decide_eq_true (by omega)
              rw [e1] at HE
              clear s1
              have hE5 : E = 85 := by rw [HE.out]; simp
              have hV5 := hVz.out (by rw [hE5]; decide)
              clear HE hVz hVf hFV
              subst hE5 hV5
              go_wp2_with (first | (go_at_call 35; with_reducible refine (GET16b.out _ (below_alloc HB _)).mono ?_; rintro e W ⟨rfl, hW⟩; rw [hW]; clear hW) | (go_at_call 36; with_reducible refine (TX24b.out _ (below_alloc HB _)).mono ?_; rintro e W ⟨rfl, hW⟩; rw [hW]; clear hW) | (go_at_call 36; with_reducible refine (TX72b.out _ (below_alloc HB _)).mono ?_; rintro e W ⟨rfl, hW⟩; rw [hW]; clear hW) | (go_at_call 36; with_reducible refine (TX168b.out _ (below_alloc HB _)).mono ?_; rintro e W ⟨rfl, hW⟩; rw [hW]; clear hW) | (go_at_call 36; with_reducible refine (TX208b.out _ (below_alloc HB _)).mono ?_; rintro e W ⟨rfl, hW⟩; rw [hW]; clear hW) | ((with_reducible refine gate_ (.load 24 (.tmp 6)) rfl ?_); refine wpList_load_row rfl 24 (.tmp 6) rfl (w.heap.size + 1) rfl 24 zero8 (0, 0) _ (blk_alloc B6 _) Tryd.underlying24 rfl (by kernel_rfl) ?_) | ((with_reducible refine gate_ (.store 24 (.tmp 4) (.tmp 106)) rfl ?_); refine wpList_store_row rfl 24 (.tmp 4) (.tmp 106) rfl w.heap.size zero8 rfl rfl 24 zero8 (blk_alloc B4 _) (by kernel_rfl) (by kernel_rfl) (by kernel_rfl) ?_) | fail)
              refine bodyPost_ret (results_ct Tryd.results14 _ _ w.heap.size 24 zero8 (0, 0) _ rfl (setRow_heap _ w.heap.size zero8 zero8 24 (0, 0) (blk_alloc B4 _)) Tryd.underlying24 rfl (by kernel_rfl)) rfl ⟨rfl, below_setRow (below_alloc HB _) (Nat.le_refl _) _⟩
      · rw [if_pos hfl] at hE
        have hV5 := hVz.out (by rw [hE.out]; decide)
        have hE5 := hE.out
        clear hE hVz hVf
        subst hE5 hV5
        have f0 : ((0 : Int) == 0) = true := rfl
        have f1 : (frH sec b != (b.length : Int)) = true := bne_iff_ne.mpr hfl
        have f2 : (frH sec b == (b.length : Int)) = false := beq_eq_false_iff_ne.mpr hfl
        go_wp2_with (first | (go_at_call 34; refine (rfront_call sec _ g o c b hlc hb (by omega) hl (hv.below HBz).C).mono ?_; rintro e W1 ⟨rfl, hb1⟩; have HB := HBz.trans (hb1.mono HBz.size); have B4 := blk_below B4z hb1; have B6 := blk_below B6z hb1; clear HBz B4z B6z hb1) | ((with_reducible refine gate_ (.load 24 (.tmp 6)) rfl ?_); refine wpList_load_row rfl 24 (.tmp 6) rfl (w.heap.size + 1) rfl 24 zero8 (0, 0) _ B6 Tryd.underlying24 rfl (by kernel_rfl) ?_) | ((with_reducible refine gate_ (.store 24 (.tmp 4) (.tmp 38)) rfl ?_); refine wpList_store_row rfl 24 (.tmp 4) (.tmp 38) rfl w.heap.size zero8 rfl rfl 24 zero8 B4 (by kernel_rfl) (by kernel_rfl) (by kernel_rfl) ?_) | fail)
        refine bodyPost_ret (results_ct Tryd.results14 _ _ w.heap.size 24 zero8 (0, 0) _ rfl (setRow_heap _ w.heap.size zero8 zero8 24 (0, 0) B4) Tryd.underlying24 rfl (by kernel_rfl)) rfl ⟨rfl, below_setRow HB (Nat.le_refl _) _⟩
    · rw [if_pos hfr] at hE
      have hV5 := hVz.out (by rw [hE.out]; exact hfr)
      have hE5 := hE.out
      clear hE hVz hVf
      subst hV5
      have f1 : (frE sec b == 0) = false := beq_eq_false_iff_ne.mpr hfr
      have f2 : (frE sec b != 0) = true := bne_iff_ne.mpr hfr
      have hf34 := fun W hC => rfront_call sec W g o c b hlc hb (by omega) hl hC
      generalize frH sec b = H at *
      generalize frE sec b = F at *
      clear hfr
      subst hE5
      go_wp2_with (first | (go_at_call 34; refine (hf34 _ (hv.below HBz).C).mono ?_; rintro e W1 ⟨rfl, hb1⟩; have HB := HBz.trans (hb1.mono HBz.size); have B4 := blk_below B4z hb1; have B6 := blk_below B6z hb1; clear HBz B4z B6z hb1) | ((with_reducible refine gate_ (.load 24 (.tmp 6)) rfl ?_); refine wpList_load_row rfl 24 (.tmp 6) rfl (w.heap.size + 1) rfl 24 zero8 (0, 0) _ B6 Tryd.underlying24 rfl (by kernel_rfl) ?_) | ((with_reducible refine gate_ (.store 24 (.tmp 4) (.tmp 32)) rfl ?_); refine wpList_store_row rfl 24 (.tmp 4) (.tmp 32) rfl w.heap.size zero8 rfl rfl 24 zero8 B4 (by kernel_rfl) (by kernel_rfl) (by kernel_rfl) ?_) | fail)
      refine bodyPost_ret (results_ct Tryd.results14 _ _ w.heap.size 24 zero8 (0, 0) _ rfl (setRow_heap _ w.heap.size zero8 zero8 24 (0, 0) B4) Tryd.underlying24 rfl (by kernel_rfl)) rfl ⟨rfl, below_setRow HB (Nat.le_refl _) _⟩
end Go.Proofs.YtglcapkmeecknaaDoor.u14
