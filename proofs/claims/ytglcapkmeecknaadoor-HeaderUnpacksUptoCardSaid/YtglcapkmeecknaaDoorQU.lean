/- The walk of header.Unpack. (Merged by merge.py.) -/
import Derived.Test.YtglcapkmeecknaaDoorQC
import Derived.Test.YtglcapkmeecknaaDoorQN
import Derived.Deep.RegionHeld3
import Derived.Deep.RegionWith
/-! ## U13 -/
namespace Go.Proofs.YtglcapkmeecknaaDoor.u13
open Go Go.RowKit Go.Proofs.YtglcapkmeecknaaDoor.d40 Go.Proofs.YtglcapkmeecknaaDoor.tk Go.Proofs.YtglcapkmeecknaaDoor.g31 Go.Proofs.YtglcapkmeecknaaDoor.g36 Go.Proofs.YtglcapkmeecknaaDoor.e32 Go.Proofs.YtglcapkmeecknaaDoor.f29 Go.Proofs.YtglcapkmeecknaaDoor.f25 Go.Proofs.YtglcapkmeecknaaDoor.headp Go.Proofs.YtglcapkmeecknaaDoor.p24 Go.Proofs.YtglcapkmeecknaaDoor.PHeaderPacks Go.Proofs.YtglcapkmeecknaaDoor.sha Go.Proofs.YtglcapkmeecknaaDoor.mem Go.Proofs.YtglcapkmeecknaaDoor.r12 Go.Proofs.YtglcapkmeecknaaDoor.h27 Go.Proofs.YtglcapkmeecknaaDoorW.PrintWords Go.Proofs.YtglcapkmeecknaaDoorW.PrintLast Go.Proofs.YtglcapkmeecknaaDoorW.PrintMore
set_option linter.unusedVariables false
set_option linter.unusedSimpArgs false
def seg (b : List Int) (lo hi : Nat) : List Int := (b.take hi).drop lo
abbrev zero8 : Array Value := #[.bool false, .int .i64 0, .int .u64 0, .string ⟨#[]⟩, .string ⟨#[]⟩, .string ⟨#[]⟩, .string ⟨#[]⟩, .string ⟨#[]⟩]
def cells0 (sec : Bool) (n seq : Int) (salt : ByteArray) : Array Value := #[.bool sec, .int .i64 n, .int .u64 seq, .string ⟨#[]⟩, .string ⟨#[]⟩, .string ⟨#[]⟩, .string salt, .string ⟨#[]⟩]
def sha256B : ByteArray := ⟨#[115, 104, 97, 50, 53, 54]⟩
/-- Whether all that a copy's fields say is well formed. -/
def okF (sec : Bool) (b : List Int) : Bool :=
  decide (1 ≤ numAt b 16 8) && decide (numAt b 16 8 ≤ 4611686018427387904) && decide (numAt b 256 8 = if sec then (b.length : Int) else 0) && tkB (seg b 24 72) && tkB (seg b 168 208) && tkB (seg b 208 256) &&
    tkB (seg b 72 104) && decide ((tkS (seg b 72 104)).toList = sha256B.toList) && zs (seg b 264 448) && zs (seg b 480 4096)
def unE (kf : Nat → BitVec 32) (x : St) (sec : Bool) (b : List Int) : Int :=
  if b.length < 4096 then 5 else if frE sec b ≠ 0 then frE sec b else if frH sec b ≠ b.length then 83 else if (strOfNums (seg b 448 480)).toList ≠ (strOfNums (rsha kf x (hole b))).toList then 84
  else if okF sec b = false then 85 else if tkB (b.drop 4096) = false then 86 else 0
def fullV (sec : Bool) (b : List Int) : Array Value :=
  #[.bool sec, .int .i64 b.length, .int .u64 (numAt b 16 8), .string (tkS (seg b 24 72)), .string (tkS (seg b 208 256)), .string (tkS (seg b 168 208)), .string (strOfNums (seg b 104 168)), .string (tkS (b.drop 4096))]
def unV (kf : Nat → BitVec 32) (x : St) (sec : Bool) (b : List Int) : Array Value := if unE kf x sec b = 0 then fullV sec b else zero8
theorem front_ok (sec : Bool) (b : List Int) (h : frE sec b = 0) (hl : frH sec b = b.length) : numAt b 8 8 = b.length ∧ 16384 ≤ b.length ∧ b.length ≤ 4194304 ∧ ∃ M, b.length = 64 * M := by
  have h1 : numAt b 8 8 = b.length := by unfold frH at hl; rw [if_pos h] at hl; exact hl
  have h2 : isHd (numAt b 8 8) = true := by
    unfold frE at h
    by_cases c1 : (strOfNums (b.take 6)).toList ≠ (magicB sec).toList
    · rw [if_pos c1] at h; omega
    · rw [if_neg c1] at h
      by_cases c2 : numAt b 6 2 ≠ 2
      · rw [if_pos c2] at h; omega
      · rw [if_neg c2] at h
        by_cases c3 : isHd (numAt b 8 8) = false
        · rw [if_pos c3] at h; omega
        · simpa using c3
  rw [h1] at h2
  have h3 := of_decide_eq_true (by unfold isHd at h2; exact h2 : decide (_ ∨ _) = true)
  refine ⟨h1, by omega, by omega, b.length / 64, by omega⟩
theorem below_setRow {w W : World} {n : Nat} (h : Below w.heap.size w W) (hn : w.heap.size ≤ n) (cs : Array Value) : Below w.heap.size w (W.setRow n cs) :=
  ⟨h.os, h.tape, h.output, by rw [setRow_size]; exact h.size, fun k hk => (setRow_other W n k _ (by omega)).trans (h.block k hk)⟩
def okI (O1 : Bool) (b : List Int) : Nat → Bool
  | 0 => O1
  | 1 => O1 && tkB (seg b 24 72)
  | 2 => O1 && tkB (seg b 24 72) && tkB (seg b 168 208)
  | _ => O1 && tkB (seg b 24 72) && tkB (seg b 168 208) && tkB (seg b 208 256)
def cellsI (sec : Bool) (b : List Int) (seq : Int) (salt : ByteArray) : Nat → Array Value
  | 0 => cells0 sec b.length seq salt
  | 1 => #[.bool sec, .int .i64 b.length, .int .u64 seq, .string (tkS (seg b 24 72)), .string ⟨#[]⟩, .string ⟨#[]⟩, .string salt, .string ⟨#[]⟩]
  | 2 => #[.bool sec, .int .i64 b.length, .int .u64 seq, .string (tkS (seg b 24 72)), .string ⟨#[]⟩, .string (tkS (seg b 168 208)), .string salt, .string ⟨#[]⟩]
  | _ => #[.bool sec, .int .i64 b.length, .int .u64 seq, .string (tkS (seg b 24 72)), .string (tkS (seg b 208 256)), .string (tkS (seg b 168 208)), .string salt, .string ⟨#[]⟩]
theorem ended_ (W : World) (g o c n : Nat) (s : List Int) (hn : s.length = n) (hlc : n ≤ c) (hb : Byt s) (hl : n ≤ 140737488355328) (hC : Kd.C (Kd.int .u8) W (some ⟨g, o, none⟩) n s) (hT : Lib.Utf8Tabs 6 7 W) :
    Calls Tryd.prog 32 #[.slice (some ⟨g, o, none⟩) n c] W fun e w' => e = .returned (.tuple #[.string (tkS s), .bool (tkB s)]) ∧ Below W.heap.size W w' := by
  subst hn
  exact ended_call W g o c s hlc hb hl hC hT
theorem zeros_ (W : World) (g o c n : Nat) (s : List Int) (hn : s.length = n) (hlc : n ≤ c) (hl : n ≤ 140737488355328) (hC : Kd.C (Kd.int .u8) W (some ⟨g, o, none⟩) n s) :
    Calls Tryd.prog 33 #[.slice (some ⟨g, o, none⟩) n c] W fun e w' => e = .returned (.bool (zs s)) ∧ w' = W := by
  subst hn
  exact zeros_call W ⟨g, o, none⟩ c s hlc hC hl
theorem sha_list : sha256B.toList = [115, 104, 97, 50, 53, 54] := by kernel_rfl
structure Env (kf : Nat → BitVec 32) (x : St) (g o : Nat) (b : List Int) (w : World) : Prop where
  C : Kd.C (Kd.int .u8) w (some ⟨g, o, none⟩) b.length b
  m : Mags w
  T : Lib.Utf8Tabs 6 7 w
  D : DigTab kf x w
theorem Env.below {kf : Nat → BitVec 32} {x : St} {g o : Nat} {b : List Int} {w w' : World} (h : Env kf x g o b w) (hb : Below w.heap.size w w') : Env kf x g o b w' := ⟨Kd.C_below h.C hb, h.m.below hb, Utf8Tabs_below h.T hb, h.D.below hb⟩
set_option maxHeartbeats 4000000 in
set_option maxRecDepth 100000 in
theorem unpack_call (kf : Nat → BitVec 32) (x : St) (sec : Bool) (w : World) (g o c : Nat) (b : List Int) (hlc : b.length ≤ c) (hb : Byt b) (hl : b.length ≤ 140737488355328) (hv : Env kf x g o b w) :
    Calls Tryd.prog 13 #[.slice (some ⟨g, o, none⟩) b.length c, .bool sec] w fun e w' => e = .returned (.tuple #[.agg (unV kf x sec b), .int .i64 (unE kf x sec b)]) ∧ Below w.heap.size w w' := by
  obtain ⟨E, hE⟩ : ∃ E, Aside0 (E = unE kf x sec b) := ⟨_, ⟨rfl⟩⟩
  obtain ⟨V, hV⟩ : ∃ V, Aside0 (V = unV kf x sec b) := ⟨_, ⟨rfl⟩⟩
  rw [← hE.out, ← hV.out]
  have hVz := Aside0.mk (show E ≠ 0 → V = zero8 from fun h => by rw [hV.out]; unfold unV; rw [if_neg (by rw [← hE.out]; exact h)])
  have hVf := Aside0.mk (show E = 0 → V = fullV sec b from fun h => by rw [hV.out]; unfold unV; rw [if_pos (by rw [← hE.out]; exact h)])
  clear hV
  unfold unE at hE
  have HBz : Below w.heap.size w ((w.alloc (.cells zero8 24)).alloc (.cells zero8 24)) := below_alloc (below_alloc (Below.refl _ w) _) _
  have B4z : ((w.alloc (.cells zero8 24)).alloc (.cells zero8 24)).heap[w.heap.size]? = some (.cells zero8 24 (0, 0)) := blk_alloc (blk_new w _) _
  have B6z : ((w.alloc (.cells zero8 24)).alloc (.cells zero8 24)).heap[w.heap.size + 1]? = some (.cells zero8 24 (0, 0)) := by
    have := blk_new (w.alloc (.cells zero8 24)) (.cells zero8 24)
    rw [World.size_alloc] at this
    exact this
  go_enter Tryd.func13, Tryd.ntmps13
  by_cases h4 : b.length < 4096
  · have d4 : decide ((b.length : Int) < 4096) = true := by simp; omega
    have hE5 : E = 5 := by rw [hE.out, if_pos h4]
    have hV5 := hVz.out (by rw [hE5]; decide)
    clear hE hVz hVf
    subst hE5 hV5
    go_wp2_with fail
    exact bodyPost_ret (results_ct Tryd.results13 _ _ w.heap.size 24 zero8 (0, 0) _ rfl B4z Tryd.underlying24 rfl (by kernel_rfl)) rfl ⟨rfl, HBz⟩
  · have d4 : decide ((b.length : Int) < 4096) = false := by simp; omega
    rw [if_neg h4] at hE
    by_cases hfr : frE sec b = 0
    · rw [if_neg (show ¬ frE sec b ≠ 0 from fun h => h hfr)] at hE
      by_cases hfl : frH sec b = b.length
      · rw [if_neg (show ¬ frH sec b ≠ b.length from fun h => h hfl)] at hE
        obtain ⟨hX, hlo, hhi, M, hM⟩ := front_ok sec b hfr hfl
        have hlc2 : 4096 < c := by omega
        obtain ⟨ad1, hadd1, cut1, hlen1, hC1⟩ := mid ⟨g, o, none⟩ b c hlc 448 480 448 480 rfl rfl (by omega) (by omega)
        obtain rfl := hadd1 (by omega)
        rw [add_at] at cut1 hC1
        have hsum : ∀ W : World, Below w.heap.size w W → Calls Tryd.prog 27 #[.slice (some ⟨g, o, none⟩) b.length c] W fun e w' => ∃ a c', e = .returned (.slice (some a) 32 c') ∧ Kd.C (Kd.int .u8) w' (some a) 32 (rsha kf x (hole b)) ∧ Below W.heap.size W w' := by
          intro W hW
          refine (sumOf_call kf x W (hv.below hW).D ⟨g, o, none⟩ c b hlc (hv.below hW).C M hM (by omega) hhi hb).mono ?_
          rintro e w' ⟨a, c', h1, h2, h3, h4, h5⟩
          refine ⟨a, c', h1, ?_, h5⟩
          rw [rsha_mult kf x (hole b) M (by rw [hole_len b (by omega)]; exact hM)]
          exact h4
        have heq : ∀ (W : World) (a : Addr) (c' : Nat), Below w.heap.size w W → Kd.C (Kd.int .u8) W (some a) 32 (rsha kf x (hole b)) → Calls Tryd.prog 30 #[.slice (some ⟨g, o + 448, none⟩) (480 - 448) (c - 448), .slice (some a) 32 c'] W fun e w' => e = .returned (.bool (Lib.bytesOf (seg b 448 480) == Lib.bytesOf (rsha kf x (hole b)))) ∧ w' = W := fun W a c' hW ha =>
          Tryd.bytes_Equal _ _ (seg b 448 480) (rsha kf x (hole b)) W (str_ (hC1 W (hv.below hW).C)) (str_ ha)
        have hqq : (Lib.bytesOf (seg b 448 480) == Lib.bytesOf (rsha kf x (hole b))) = decide ((strOfNums (seg b 448 480)).toList = (strOfNums (rsha kf x (hole b))).toList) := by
          rw [Lib.strOfNums_toList, Lib.strOfNums_toList]
          by_cases h : Lib.bytesOf (seg b 448 480) = Lib.bytesOf (rsha kf x (hole b))
          · rw [decide_eq_true h, h]; simp
          · rw [decide_eq_false h, beq_eq_false_iff_ne]; exact h
        generalize (Lib.bytesOf (seg b 448 480) == Lib.bytesOf (rsha kf x (hole b))) = q at *
        have HsumA := Aside0.mk hsum
        have HeqA := Aside0.mk heq
        have HqqA := Aside0.mk hqq
        have HXA := Aside0.mk hX
        have HMA := Aside0.mk hM
        clear hsum heq hqq hC1 hX hM hlen1 hadd1
        have f0 : ((0 : Int) == 0) = true := rfl
        have f1 : (frH sec b != (b.length : Int)) = false := bne_eq_false_iff_eq.mpr hfl
        have f2 : (frH sec b == (b.length : Int)) = true := beq_iff_eq.mpr hfl
        go_wp2_with (first | (go_at_call 29; refine (front_call sec _ g o c b hlc hb (by omega) hl (hv.below HBz).C (hv.below HBz).m).mono ?_; rintro e W1 ⟨rfl, hb1⟩; have HB := HBz.trans (hb1.mono HBz.size); have B4 := blk_below B4z hb1; have B6 := blk_below B6z hb1; clear HBz B4z B6z hb1) | fail)
        go_upto_region 7 with (fail)
        go_cut [44] from 35 to 44 (fun v44 wx => v44 = .bool (!q) ∧ Below w.heap.size w wx ∧ wx.heap[w.heap.size]? = some (.cells zero8 24 (0, 0)) ∧ wx.heap[w.heap.size + 1]? = some (.cells zero8 24 (0, 0)))
        case first =>
          have HBd := below_drew HB
          go_region_with (first | (go_at_call 27; refine (HsumA.out _ HBd).mono ?_; rintro e W2 ⟨a, c', rfl, ha, hb2⟩; have HB2 := HBd.trans (hb2.mono HBd.size); have B42 := blk_below (blk_drew B4) hb2; have B62 := blk_below (blk_drew B6) hb2; have heq2 := HeqA.out W2 a c' HB2 ha) | (go_at_call 30; refine heq2.mono ?_; rintro e W3 ⟨rfl, rfl⟩))
          all_goals (go_wp2_with fail; go_meet; exact ⟨rfl, HB2, B42, B62⟩)
        case rest =>
          obtain ⟨rfl, HB3, B43, B63⟩ := hcut
          clear HB B4 B6
          have HB := HB3
          have B4 := B43
          have B6 := B63
          clear HB3 B43 B63
          cases q with
          | false =>
            have hne : ¬ (strOfNums (seg b 448 480)).toList = (strOfNums (rsha kf x (hole b))).toList := of_decide_eq_false HqqA.out.symm
            rw [if_pos hne] at hE
            have hV5 := hVz.out (by rw [hE.out]; decide)
            have hE5 := hE.out
            clear hE hVz hVf HsumA HeqA HqqA hne hfr hfl f1 f2 HXA HMA
            subst hE5 hV5
            go_wp2_with (first | ((with_reducible refine gate_ (.load 24 (.tmp 6)) rfl ?_); refine wpList_load_row rfl 24 (.tmp 6) rfl (w.heap.size + 1) rfl 24 zero8 (0, 0) _ B6 Tryd.underlying24 rfl (by kernel_rfl) ?_) | ((with_reducible refine gate_ (.store 24 (.tmp 4) (.tmp 47)) rfl ?_); refine wpList_store_row rfl 24 (.tmp 4) (.tmp 47) rfl w.heap.size zero8 rfl rfl 24 zero8 B4 (by kernel_rfl) (by kernel_rfl) (by kernel_rfl) ?_) | fail)
            refine bodyPost_ret (results_ct Tryd.results13 _ _ w.heap.size 24 zero8 (0, 0) _ rfl (setRow_heap _ w.heap.size zero8 zero8 24 (0, 0) (by first | exact B4 | exact blk_drewN B4 _)) Tryd.underlying24 rfl (by kernel_rfl)) rfl ⟨rfl, below_setRow (by first | exact HB | exact below_drewN_ HB _) (Nat.le_refl _) _⟩
          | true =>
            have hye : (strOfNums (seg b 448 480)).toList = (strOfNums (rsha kf x (hole b))).toList := of_decide_eq_true HqqA.out.symm
            rw [if_neg (fun h => h hye)] at hE
            clear HsumA HeqA HqqA hye f1 f2
            obtain ⟨cutq, get8⟩ := getA w g o c b hlc hb hv.C 16 16 8 rfl (by omega) (by omega) (by omega)
            obtain ⟨ad2, hadd2, cut2, hlen2, hC2⟩ := mid ⟨g, o, none⟩ b c hlc 104 168 104 168 rfl rfl (by omega) (by omega)
            obtain rfl := hadd2 (by omega)
            rw [add_at] at cut2 hC2
            have HS2 := Aside0.mk (fun (W : World) (hW : Below w.heap.size w W) => str_ (c := c - 104) (hC2 W (hv.below hW).C))
            have GET8 := Aside0.mk get8
            clear hadd2 hlen2 hC2 get8
            have n9lt : w.heap.size + 1 < wc.heap.size := blk_lt B6
            generalize hseq : numAt b 16 8 = seq at *
            have HSEQ := Aside0.mk hseq
            clear hseq
            generalize hsalt : strOfNums ((b.take 168).drop 104) = salt at *
            have HSALT := Aside0.mk hsalt
            clear hsalt
            go_upto_region 11 with (fail)
            generalize wc = wa at *
            go_cut [9] from 49 to 57 (fun v9 wx => v9 = .pointer (some ⟨wa.heap.size, 0, none⟩) ∧ Below w.heap.size w wx ∧ wx.heap[w.heap.size]? = some (.cells zero8 24 (0, 0)) ∧ wx.heap[w.heap.size + 1]? = some (.cells zero8 24 (0, 0)) ∧ wx.heap[wa.heap.size]? = some (.cells (cells0 sec b.length seq salt) 24 (0, 0)))
            case first =>
              have HBd := below_drew HB
              have hS : (convert 25 9 (.slice (some ⟨g, o + 104, none⟩) 64 (c - 104))).run Tryd.prog wa.drew = .ok (.string salt) wa.drew := HS2.out _ HBd
              have HBda : Below w.heap.size w (wa.alloc (.cells zero8 24)).drew := below_drew (below_alloc HB _)
              have hSa : (convert 25 9 (.slice (some ⟨g, o + 104, none⟩) 64 (c - 104))).run Tryd.prog (wa.alloc (.cells zero8 24)).drew = .ok (.string salt) (wa.alloc (.cells zero8 24)).drew := HS2.out _ HBda
              go_region_with (first | (go_at_call 31; refine (GET8.out _ (by first | exact HBd | exact HBda)).mono ?_; rintro e W ⟨rfl, rfl⟩))
              all_goals (go_wp2_with fail; go_meet; exact ⟨rfl, below_drew (below_alloc HB _), blk_drew (blk_alloc B4 _), blk_drew (blk_alloc B6 _), blk_drew (blk_new wa _)⟩)
            case rest =>
              obtain ⟨rfl, HB3, B43, B63, B9⟩ := hcut
              clear HB B4 B6 GET8 HS2 cutq cut2 cut1
              have HB := HB3
              have B4 := B43
              have B6 := B63
              clear HB3 B43 B63
              generalize wa.heap.size = n9 at *
              obtain ⟨cuto, geto⟩ := getA w g o c b hlc hb hv.C 256 256 8 rfl (by omega) (by omega) (by omega)
              have GETO := Aside0.mk geto
              obtain ⟨OFF, hOFF⟩ : ∃ OFF : Int, OFF = (if sec then (b.length : Int) else 0) := ⟨_, rfl⟩
              have OFFA := Aside0.mk hOFF
              have hwr : IntKind.u64.wrap OFF = OFF := by rw [hOFF, IntKind.wrap_u64]; split <;> omega
              have hbeg : ∀ W : World, Calls Tryd.prog 26 #[.agg #[.bool sec, .int .i64 b.length, .int .u64 seq, .string ⟨#[]⟩, .string ⟨#[]⟩, .string ⟨#[]⟩, .string salt, .string ⟨#[]⟩]] W fun e w' => e = .returned (.int .i64 OFF) ∧ Below W.heap.size W w' :=
                fun W => header_begin.calls sec (b.length : Int) seq _ _ _ salt _ OFF W (by unfold header_begin.f; rw [hOFF]; cases sec <;> rfl)
              have HBEG := Aside0.mk hbeg
              clear geto hbeg hOFF
              generalize hno : numAt b 256 8 = no at *
              have HNO := Aside0.mk hno
              clear hno
              go_upto_region 12 with (fail)
              generalize wc = wa at *
              go_cut [10] from 58 to 74 (fun v10 wx => v10 = .bool (decide (1 ≤ seq) && decide (seq ≤ 4611686018427387904) && decide (no = OFF)) ∧ Below w.heap.size w wx ∧ wx.heap[w.heap.size]? = some (.cells zero8 24 (0, 0)) ∧ wx.heap[w.heap.size + 1]? = some (.cells zero8 24 (0, 0)) ∧ wx.heap[n9]? = some (.cells (cells0 sec b.length seq salt) 24 (0, 0)))
              case first =>
                have HBd := below_drew HB
                have k0 : wa.cell? ⟨n9, 0, none⟩ = some (.bool sec) := (blk_cell B9 0).trans rfl
                have k1 : wa.cell? ⟨n9, 1, none⟩ = some (.int .i64 b.length) := (blk_cell B9 1).trans rfl
                have k2 : wa.cell? ⟨n9, 2, none⟩ = some (.int .u64 seq) := (blk_cell B9 2).trans rfl
                have k3 : wa.cell? ⟨n9, 3, none⟩ = some (.string ⟨#[]⟩) := (blk_cell B9 3).trans rfl
                have k4 : wa.cell? ⟨n9, 4, none⟩ = some (.string ⟨#[]⟩) := (blk_cell B9 4).trans rfl
                have k5 : wa.cell? ⟨n9, 5, none⟩ = some (.string ⟨#[]⟩) := (blk_cell B9 5).trans rfl
                have k6 : wa.cell? ⟨n9, 6, none⟩ = some (.string salt) := (blk_cell B9 6).trans rfl
                have k7 : wa.cell? ⟨n9, 7, none⟩ = some (.string ⟨#[]⟩) := (blk_cell B9 7).trans rfl
                by_cases s1 : 1 ≤ seq
                · have e1 : decide (1 ≤ seq) = true := decide_eq_true s1
                  have e1b : decide (seq ≥ 1) = true := decide_eq_true s1
                  clear s1
                  by_cases s2 : seq ≤ 4611686018427387904
                  · have e2 : decide (seq ≤ 4611686018427387904) = true := decide_eq_true s2
                    clear s2
                    obtain ⟨z, hz⟩ : ∃ z, (no == OFF) = z := ⟨_, rfl⟩
                    have hz2 : decide (no = OFF) = z := by rw [← hz]; by_cases h : no = OFF <;> simp [h]
                    have HZ2 := Aside0.mk hz2
                    clear hz2
                    go_region_with (first | (go_at_call 31; refine (GETO.out _ (by first | exact HBd | exact HB3)).mono ?_; rintro e W ⟨rfl, rfl⟩) | (go_at_call 26; refine (HBEG.out _).mono ?_; rintro e W3 ⟨rfl, hb3⟩; have HB3 := HBd.trans (hb3.mono HBd.size); have B43 := blk_below (blk_drew B4) hb3; have B63 := blk_below (blk_drew B6) hb3; have B93 := blk_below (blk_drew B9) hb3))
                    all_goals (go_wp2_with fail; go_meet; exact ⟨by rw [e1, e2, HZ2.out]; rfl, HB3, B43, B63, B93⟩)
                  · have e2 : decide (seq ≤ 4611686018427387904) = false := decide_eq_false s2
                    clear s2
                    go_quiet (fail)
                    go_wp2_with fail
                    go_meet
                    exact ⟨by rw [e1, e2]; rfl, below_drewN_ HB _, blk_drewN B4 _, blk_drewN B6 _, blk_drewN B9 _⟩
                · have e1 : decide (1 ≤ seq) = false := decide_eq_false s1
                  have e1b : decide (seq ≥ 1) = false := decide_eq_false s1
                  clear s1
                  go_quiet (fail)
                  go_wp2_with fail
                  go_meet
                  exact ⟨by rw [e1]; rfl, below_drewN_ HB _, blk_drewN B4 _, blk_drewN B6 _, blk_drewN B9 _⟩
              case rest =>
                obtain ⟨rfl, HB3, B43, B63, B93⟩ := hcut
                clear HB B4 B6 B9 GETO HBEG cuto hwr
                have HB := HB3
                have B4 := B43
                have B6 := B63
                have B9 := B93
                clear HB3 B43 B63 B93
                generalize hO1 : (decide (1 ≤ seq) && decide (seq ≤ 4611686018427387904) && decide (no = OFF)) = O1 at *
                have HO1 := Aside0.mk hO1
                clear hO1
                obtain ⟨ad24, hadd24, cut24, hlen24, hC24⟩ := mid ⟨g, o, none⟩ b c hlc 24 72 24 72 rfl rfl (by omega) (by omega)
                obtain rfl := hadd24 (by omega)
                rw [add_at] at cut24 hC24
                have END24 := Aside0.mk (fun (W : World) (hW : Below w.heap.size w W) => ended_ W g (o + 24) (c - 24) (72 - 24) (seg b 24 72) hlen24 (by omega) ((hb.take 72).drop 24) (by omega) (hC24 W (hv.below hW).C) (hv.below hW).T)
                clear hadd24 hlen24 hC24
                obtain ⟨ad168, hadd168, cut168, hlen168, hC168⟩ := mid ⟨g, o, none⟩ b c hlc 168 208 168 208 rfl rfl (by omega) (by omega)
                obtain rfl := hadd168 (by omega)
                rw [add_at] at cut168 hC168
                have END168 := Aside0.mk (fun (W : World) (hW : Below w.heap.size w W) => ended_ W g (o + 168) (c - 168) (208 - 168) (seg b 168 208) hlen168 (by omega) ((hb.take 208).drop 168) (by omega) (hC168 W (hv.below hW).C) (hv.below hW).T)
                clear hadd168 hlen168 hC168
                obtain ⟨ad208, hadd208, cut208, hlen208, hC208⟩ := mid ⟨g, o, none⟩ b c hlc 208 256 208 256 rfl rfl (by omega) (by omega)
                obtain rfl := hadd208 (by omega)
                rw [add_at] at cut208 hC208
                have END208 := Aside0.mk (fun (W : World) (hW : Below w.heap.size w W) => ended_ W g (o + 208) (c - 208) (256 - 208) (seg b 208 256) hlen208 (by omega) ((hb.take 256).drop 208) (by omega) (hC208 W (hv.below hW).C) (hv.below hW).T)
                clear hadd208 hlen208 hC208
                have n9w := blk_lt B9
                go_wp2_with (first | (go_at_call 25; refine (fields_call _ n9 _ B9).mono ?_; rintro e W2 ⟨V_, rfl, hV1, BV, hb2⟩; have HB2 := HB.trans (hb2.mono HB.size); have B42 := blk_below B4 hb2; have B62 := blk_below B6 hb2; have B92 := blk_below B9 hb2; clear HB B4 B6 B9) | fail)
                have hVn : V_ ≠ n9 := by omega
                have hn9 : w.heap.size ≤ n9 := by omega
                have hVw : w.heap.size ≤ V_ := by omega
                have hV4 : w.heap.size ≠ V_ := by omega
                have h4n : w.heap.size ≠ n9 := by omega
                have h6n : w.heap.size + 1 ≠ n9 := by omega
                clear hV1 hb2 n9w
                go_loopw [10, 77] (fun v10 v77 wr => ∃ i : Nat, i ≤ 3 ∧ v77 = .int .i64 i ∧ v10 = .bool (okI O1 b i) ∧ Below w.heap.size w wr ∧ wr.heap[w.heap.size]? = some (.cells zero8 24 (0, 0)) ∧ wr.heap[w.heap.size + 1]? = some (.cells zero8 24 (0, 0)) ∧ wr.heap[n9]? = some (.cells (cellsI sec b seq salt i) 24 (0, 0)) ∧ wr.heap[V_]? = some (.cells (fieldCells n9) 55 (0, 0))) (fun _ v77 _ => 3 - (intOf v77).toNat)
                case atStart => exact ⟨0, by omega, rfl, rfl, HB2, B42, B62, B92, BV⟩
                case round =>
                  obtain ⟨i, hi, rfl, rfl, HB, B4, B6, B9, BV2⟩ := hrel
                  clear HB2 B42 B62 B92 BV
                  have hi4 : i = 0 ∨ i = 1 ∨ i = 2 ∨ i = 3 := by omega
                  clear hi
                  rcases hi4 with rfl | rfl | rfl | rfl
                  · have q0 : wr.cell? ⟨V_, 0, none⟩ = some (.int .i64 24) := (blk_cell BV2 0).trans rfl
                    have q1 : wr.cell? ⟨V_, 1, none⟩ = some (.int .i64 48) := (blk_cell BV2 1).trans rfl
                    have q2 : wr.cell? ⟨V_, 2, none⟩ = some (.int .i64 47) := (blk_cell BV2 2).trans rfl
                    have q3 : wr.cell? ⟨V_, 3, none⟩ = some (.pointer (some ⟨n9, 3, none⟩)) := (blk_cell BV2 3).trans rfl
                    have HBa : Below w.heap.size w (wr.alloc (.cells #[.int .i64 24, .int .i64 48, .int .i64 47, .pointer (some ⟨n9, 3, none⟩)] 55)) := below_alloc HB _
                    have B12 : (wr.alloc (.cells #[.int .i64 24, .int .i64 48, .int .i64 47, .pointer (some ⟨n9, 3, none⟩)] 55)).heap[wr.heap.size]? = some (.cells #[.int .i64 24, .int .i64 48, .int .i64 47, .pointer (some ⟨n9, 3, none⟩)] 55 (0, 0)) := blk_new wr _
                    have B4a := blk_alloc B4 (.cells #[.int .i64 24, .int .i64 48, .int .i64 47, .pointer (some ⟨n9, 3, none⟩)] 55)
                    have B6a := blk_alloc B6 (.cells #[.int .i64 24, .int .i64 48, .int .i64 47, .pointer (some ⟨n9, 3, none⟩)] 55)
                    have B9a := blk_alloc B9 (.cells #[.int .i64 24, .int .i64 48, .int .i64 47, .pointer (some ⟨n9, 3, none⟩)] 55)
                    have BV2a := blk_alloc BV2 (.cells #[.int .i64 24, .int .i64 48, .int .i64 47, .pointer (some ⟨n9, 3, none⟩)] 55)
                    clear HB B4 B6 B9 BV2
                    have hOs : okI O1 b 1 = (okI O1 b 0 && tkB (seg b 24 72)) := rfl
                    have HOS := Aside0.mk hOs
                    clear hOs
                    have hEND := END24.out _ HBa
                    generalize hS : tkS (seg b 24 72) = S at *
                    generalize hT : tkB (seg b 24 72) = T at *
                    have HS := Aside0.mk hS
                    clear hS hT
                    generalize okI O1 b 0 = ob at *
                    cases ob
                    all_goals
                      have hlt : decide (((0 : Nat) : Int) < 3) = true := rfl
                      go_wp2_with (first | (go_at_call 32; refine hEND.mono ?_; rintro e W3 ⟨rfl, hb3⟩; have HB3 := HBa.trans (hb3.mono HBa.size); have B123 := blk_below B12 hb3; have B43 := blk_below B4a hb3; have B63 := blk_below B6a hb3; have B93 := blk_below B9a hb3; have BV3 := blk_below BV2a hb3; have kp : W3.cell? ⟨wr.heap.size, 3, none⟩ = some (.pointer (some ⟨n9, 3, none⟩)) := (blk_cell B123 3).trans rfl; have ks : W3.cell? ⟨n9, 3, none⟩ = some (.string ⟨#[]⟩) := (blk_cell B93 3).trans rfl; have fs := blk_frozen B93 3; clear HBa B12 B4a B6a B9a BV2a hb3 hEND q0 q1 q2 q3) | fail)
                      have B9s := blk_set B93 3 (.string S)
                      refine ⟨⟨1, by omega, by go_num, by rw [HOS.out]; rfl, HB3.setCell hn9 _, blk_far B43 h4n _, blk_far B63 h6n _, ?_, blk_far BV3 hVn _⟩, by simp [intOf]⟩
                      refine B9s.trans ?_
                      rw [← HS.out]
                      rfl
                  · have q0 : wr.cell? ⟨V_, 4, none⟩ = some (.int .i64 168) := (blk_cell BV2 4).trans rfl
                    have q1 : wr.cell? ⟨V_, 5, none⟩ = some (.int .i64 40) := (blk_cell BV2 5).trans rfl
                    have q2 : wr.cell? ⟨V_, 6, none⟩ = some (.int .i64 39) := (blk_cell BV2 6).trans rfl
                    have q3 : wr.cell? ⟨V_, 7, none⟩ = some (.pointer (some ⟨n9, 5, none⟩)) := (blk_cell BV2 7).trans rfl
                    have HBa : Below w.heap.size w (wr.alloc (.cells #[.int .i64 168, .int .i64 40, .int .i64 39, .pointer (some ⟨n9, 5, none⟩)] 55)) := below_alloc HB _
                    have B12 : (wr.alloc (.cells #[.int .i64 168, .int .i64 40, .int .i64 39, .pointer (some ⟨n9, 5, none⟩)] 55)).heap[wr.heap.size]? = some (.cells #[.int .i64 168, .int .i64 40, .int .i64 39, .pointer (some ⟨n9, 5, none⟩)] 55 (0, 0)) := blk_new wr _
                    have B4a := blk_alloc B4 (.cells #[.int .i64 168, .int .i64 40, .int .i64 39, .pointer (some ⟨n9, 5, none⟩)] 55)
                    have B6a := blk_alloc B6 (.cells #[.int .i64 168, .int .i64 40, .int .i64 39, .pointer (some ⟨n9, 5, none⟩)] 55)
                    have B9a := blk_alloc B9 (.cells #[.int .i64 168, .int .i64 40, .int .i64 39, .pointer (some ⟨n9, 5, none⟩)] 55)
                    have BV2a := blk_alloc BV2 (.cells #[.int .i64 168, .int .i64 40, .int .i64 39, .pointer (some ⟨n9, 5, none⟩)] 55)
                    clear HB B4 B6 B9 BV2
                    have hOs : okI O1 b 2 = (okI O1 b 1 && tkB (seg b 168 208)) := rfl
                    have HOS := Aside0.mk hOs
                    clear hOs
                    have hEND := END168.out _ HBa
                    generalize hS : tkS (seg b 168 208) = S at *
                    generalize hT : tkB (seg b 168 208) = T at *
                    have HS := Aside0.mk hS
                    clear hS hT
                    generalize okI O1 b 1 = ob at *
                    cases ob
                    all_goals
                      have hlt : decide (((1 : Nat) : Int) < 3) = true := rfl
                      go_wp2_with (first | (go_at_call 32; refine hEND.mono ?_; rintro e W3 ⟨rfl, hb3⟩; have HB3 := HBa.trans (hb3.mono HBa.size); have B123 := blk_below B12 hb3; have B43 := blk_below B4a hb3; have B63 := blk_below B6a hb3; have B93 := blk_below B9a hb3; have BV3 := blk_below BV2a hb3; have kp : W3.cell? ⟨wr.heap.size, 3, none⟩ = some (.pointer (some ⟨n9, 5, none⟩)) := (blk_cell B123 3).trans rfl; have ks : W3.cell? ⟨n9, 5, none⟩ = some (.string ⟨#[]⟩) := (blk_cell B93 5).trans rfl; have fs := blk_frozen B93 5; clear HBa B12 B4a B6a B9a BV2a hb3 hEND q0 q1 q2 q3) | fail)
                      have B9s := blk_set B93 5 (.string S)
                      refine ⟨⟨2, by omega, by go_num, by rw [HOS.out]; rfl, HB3.setCell hn9 _, blk_far B43 h4n _, blk_far B63 h6n _, ?_, blk_far BV3 hVn _⟩, by simp [intOf]⟩
                      refine B9s.trans ?_
                      rw [← HS.out]
                      rfl
                  · have q0 : wr.cell? ⟨V_, 8, none⟩ = some (.int .i64 208) := (blk_cell BV2 8).trans rfl
                    have q1 : wr.cell? ⟨V_, 9, none⟩ = some (.int .i64 48) := (blk_cell BV2 9).trans rfl
                    have q2 : wr.cell? ⟨V_, 10, none⟩ = some (.int .i64 47) := (blk_cell BV2 10).trans rfl
                    have q3 : wr.cell? ⟨V_, 11, none⟩ = some (.pointer (some ⟨n9, 4, none⟩)) := (blk_cell BV2 11).trans rfl
                    have HBa : Below w.heap.size w (wr.alloc (.cells #[.int .i64 208, .int .i64 48, .int .i64 47, .pointer (some ⟨n9, 4, none⟩)] 55)) := below_alloc HB _
                    have B12 : (wr.alloc (.cells #[.int .i64 208, .int .i64 48, .int .i64 47, .pointer (some ⟨n9, 4, none⟩)] 55)).heap[wr.heap.size]? = some (.cells #[.int .i64 208, .int .i64 48, .int .i64 47, .pointer (some ⟨n9, 4, none⟩)] 55 (0, 0)) := blk_new wr _
                    have B4a := blk_alloc B4 (.cells #[.int .i64 208, .int .i64 48, .int .i64 47, .pointer (some ⟨n9, 4, none⟩)] 55)
                    have B6a := blk_alloc B6 (.cells #[.int .i64 208, .int .i64 48, .int .i64 47, .pointer (some ⟨n9, 4, none⟩)] 55)
                    have B9a := blk_alloc B9 (.cells #[.int .i64 208, .int .i64 48, .int .i64 47, .pointer (some ⟨n9, 4, none⟩)] 55)
                    have BV2a := blk_alloc BV2 (.cells #[.int .i64 208, .int .i64 48, .int .i64 47, .pointer (some ⟨n9, 4, none⟩)] 55)
                    clear HB B4 B6 B9 BV2
                    have hOs : okI O1 b 3 = (okI O1 b 2 && tkB (seg b 208 256)) := rfl
                    have HOS := Aside0.mk hOs
                    clear hOs
                    have hEND := END208.out _ HBa
                    generalize hS : tkS (seg b 208 256) = S at *
                    generalize hT : tkB (seg b 208 256) = T at *
                    have HS := Aside0.mk hS
                    clear hS hT
                    generalize okI O1 b 2 = ob at *
                    cases ob
                    all_goals
                      have hlt : decide (((2 : Nat) : Int) < 3) = true := rfl
                      go_wp2_with (first | (go_at_call 32; refine hEND.mono ?_; rintro e W3 ⟨rfl, hb3⟩; have HB3 := HBa.trans (hb3.mono HBa.size); have B123 := blk_below B12 hb3; have B43 := blk_below B4a hb3; have B63 := blk_below B6a hb3; have B93 := blk_below B9a hb3; have BV3 := blk_below BV2a hb3; have kp : W3.cell? ⟨wr.heap.size, 3, none⟩ = some (.pointer (some ⟨n9, 4, none⟩)) := (blk_cell B123 3).trans rfl; have ks : W3.cell? ⟨n9, 4, none⟩ = some (.string ⟨#[]⟩) := (blk_cell B93 4).trans rfl; have fs := blk_frozen B93 4; clear HBa B12 B4a B6a B9a BV2a hb3 hEND q0 q1 q2 q3) | fail)
                      have B9s := blk_set B93 4 (.string S)
                      refine ⟨⟨3, by omega, by go_num, by rw [HOS.out]; rfl, HB3.setCell hn9 _, blk_far B43 h4n _, blk_far B63 h6n _, ?_, blk_far BV3 hVn _⟩, by simp [intOf]⟩
                      refine B9s.trans ?_
                      rw [← HS.out]
                      rfl
                  · have hlt : decide (((3 : Nat) : Int) < 3) = false := rfl
                    clear BV2 hVn hVw hV4 cut24 cut168 cut208 END24 END168 END208
                    obtain ⟨ad72, hadd72, cut72, hlen72, hC72⟩ := mid ⟨g, o, none⟩ b c hlc 72 104 72 104 rfl rfl (by omega) (by omega)
                    obtain rfl := hadd72 (by omega)
                    rw [add_at] at cut72 hC72
                    have END72 := Aside0.mk (ended_ wr g (o + 72) (c - 72) (104 - 72) (seg b 72 104) hlen72 (by omega) ((hb.take 104).drop 72) (by omega) (hC72 wr (hv.below HB).C) (hv.below HB).T)
                    clear hadd72 hlen72 hC72
                    obtain ⟨ad264, hadd264, cut264, hlen264, hC264⟩ := mid ⟨g, o, none⟩ b c hlc 264 448 264 448 rfl rfl (by omega) (by omega)
                    obtain rfl := hadd264 (by omega)
                    rw [add_at] at cut264 hC264
                    obtain ⟨ad480, hadd480, cut480, hlen480, hC480⟩ := mid ⟨g, o, none⟩ b c hlc 480 4096 480 4096 rfl rfl (by omega) (by omega)
                    obtain rfl := hadd480 (by omega)
                    rw [add_at] at cut480 hC480
                    have hz264 : ∀ W : World, Below w.heap.size w W → Calls Tryd.prog 33 #[.slice (some ⟨g, o + 264, none⟩) 184 (c - 264)] W fun e w' => e = .returned (.bool (zs (seg b 264 448))) ∧ w' = W := fun W hW => zeros_ W g (o + 264) (c - 264) 184 (seg b 264 448) (by rw [show (seg b 264 448).length = 448 - 264 from hlen264]) (by omega) (by omega) (hC264 W (hv.below hW).C)
                    have HZ264 := Aside0.mk hz264
                    clear hz264 hadd264 hlen264 hC264
                    have hz480 : ∀ W : World, Below w.heap.size w W → Calls Tryd.prog 33 #[.slice (some ⟨g, o + 480, none⟩) 3616 (c - 480)] W fun e w' => e = .returned (.bool (zs (seg b 480 4096))) ∧ w' = W := fun W hW => zeros_ W g (o + 480) (c - 480) 3616 (seg b 480 4096) (by rw [show (seg b 480 4096).length = 4096 - 480 from hlen480]) (by omega) (by omega) (hC480 W (hv.below hW).C)
                    have HZ480 := Aside0.mk hz480
                    clear hz480 hadd480 hlen480 hC480
                    obtain ⟨adT, haddT, cutT, hlenT, hCT⟩ := from_ ⟨g, o, none⟩ b c hlc 4096 4096 rfl (by omega)
                    obtain rfl := haddT (by omega)
                    rw [add_at] at cutT hCT
                    have ENDT := Aside0.mk (fun (W : World) (hW : Below w.heap.size w W) => ended_ W g (o + 4096) (c - 4096) (b.length - 4096) (b.drop 4096) hlenT (by omega) (hb.drop 4096) (by omega) (hCT W (hv.below hW).C) (hv.below hW).T)
                    clear haddT hlenT hCT
                    obtain ⟨y, hy⟩ : ∃ y, ((tkS (seg b 72 104)).toList == sha256B.toList) = y := ⟨_, rfl⟩
                    have hy2 : decide ((tkS (seg b 72 104)).toList = sha256B.toList) = y := by rw [← hy]; by_cases h : (tkS (seg b 72 104)).toList = sha256B.toList <;> simp [h]
                    have hok : okF sec b = (okI O1 b 3 && tkB (seg b 72 104) && y && zs (seg b 264 448) && zs (seg b 480 4096)) := by
                      unfold okF
                      rw [hy2, HSEQ.out, HNO.out, ← OFFA.out]
                      rw [← HO1.out]
                      rfl
                    have hyb : ((tkS (seg b 72 104)).toList == (⟨#[115, 104, 97, 50, 53, 54]⟩ : ByteArray).toList) = y := hy
                    have hl6 : sha256B.toList = [115, 104, 97, 50, 53, 54] := sha_list
                    have hyc : ((tkS (seg b 72 104)).toList == [115, 104, 97, 50, 53, 54]) = y := by rw [← hl6]; exact hy
                    have hyd : decide ((tkS (seg b 72 104)).toList = [115, 104, 97, 50, 53, 54]) = y := by rw [← hl6]; exact hy2
                    clear hy hy2 hl6
                    have HE := Aside0.mk (hok ▸ hE.out : E = if (okI O1 b 3 && tkB (seg b 72 104) && y && zs (seg b 264 448) && zs (seg b 480 4096)) = false then 85 else if tkB (b.drop 4096) = false then 86 else 0)
                    clear hE hok
                    have hFull := Aside0.mk (show (cellsI sec b seq salt 3).setIfInBounds 7 (.string (tkS (b.drop 4096))) = fullV sec b by rw [← HSEQ.out, ← HSALT.out]; rfl)
                    generalize tkS (seg b 72 104) = S at *
                    generalize tkB (seg b 72 104) = T at *
                    generalize okI O1 b 3 = ob at *
                    generalize zs (seg b 264 448) = Z264 at *
                    generalize zs (seg b 480 4096) = Z480 at *
                    generalize tkS (b.drop 4096) = S2 at *
                    generalize tkB (b.drop 4096) = T2 at *
                    generalize hcells : cellsI sec b seq salt 3 = CS at *
                    have HCS := Aside0.mk hcells
                    clear hcells HSEQ HNO OFFA HO1 HSALT HXA HMA hfr hfl
                    cases ob with
                    | false =>
                      have hE5 : E = 85 := HE.out
                      have hV5 := hVz.out (by rw [hE5]; decide)
                      clear HE hVz hVf hFull
                      subst hE5 hV5
                      go_wp2_with (first | (go_at_call 32; refine END72.out.mono ?_; rintro e W3 ⟨rfl, hb3⟩; have HB3 := HB.trans (hb3.mono HB.size); have B43 := blk_below B4 hb3; have B63 := blk_below B6 hb3; have B93 := blk_below B9 hb3; clear HB B4 B6 B9 hb3 END72) | (go_at_call 33; with_reducible refine (HZ264.out _ HB3).mono ?_; rintro e W ⟨rfl, hW⟩; rw [hW]; clear hW) | (go_at_call 33; with_reducible refine (HZ480.out _ HB3).mono ?_; rintro e W ⟨rfl, hW⟩; rw [hW]; clear hW) | ((with_reducible refine gate_ (.load 24 (.tmp 6)) rfl ?_); refine wpList_load_row rfl 24 (.tmp 6) rfl (w.heap.size + 1) rfl 24 zero8 (0, 0) _ B63 Tryd.underlying24 rfl (by kernel_rfl) ?_) | ((with_reducible refine gate_ (.store 24 (.tmp 4) (.tmp 129)) rfl ?_); refine wpList_store_row rfl 24 (.tmp 4) (.tmp 129) rfl w.heap.size zero8 rfl rfl 24 zero8 B43 (by kernel_rfl) (by kernel_rfl) (by kernel_rfl) ?_) | fail)
                      refine bodyPost_ret (results_ct Tryd.results13 _ _ w.heap.size 24 zero8 (0, 0) _ rfl (setRow_heap _ w.heap.size zero8 zero8 24 (0, 0) B43) Tryd.underlying24 rfl (by kernel_rfl)) rfl ⟨rfl, below_setRow HB3 (Nat.le_refl _) _⟩
                    | true =>
                      cases T with
                      | false =>
                        have hE5 : E = 85 := HE.out
                        have hV5 := hVz.out (by rw [hE5]; decide)
                        clear HE hVz hVf hFull
                        subst hE5 hV5
                        go_wp2_with (first | (go_at_call 32; refine END72.out.mono ?_; rintro e W3 ⟨rfl, hb3⟩; have HB3 := HB.trans (hb3.mono HB.size); have B43 := blk_below B4 hb3; have B63 := blk_below B6 hb3; have B93 := blk_below B9 hb3; clear HB B4 B6 B9 hb3 END72) | (go_at_call 33; with_reducible refine (HZ264.out _ HB3).mono ?_; rintro e W ⟨rfl, hW⟩; rw [hW]; clear hW) | (go_at_call 33; with_reducible refine (HZ480.out _ HB3).mono ?_; rintro e W ⟨rfl, hW⟩; rw [hW]; clear hW) | ((with_reducible refine gate_ (.load 24 (.tmp 6)) rfl ?_); refine wpList_load_row rfl 24 (.tmp 6) rfl (w.heap.size + 1) rfl 24 zero8 (0, 0) _ B63 Tryd.underlying24 rfl (by kernel_rfl) ?_) | ((with_reducible refine gate_ (.store 24 (.tmp 4) (.tmp 129)) rfl ?_); refine wpList_store_row rfl 24 (.tmp 4) (.tmp 129) rfl w.heap.size zero8 rfl rfl 24 zero8 B43 (by kernel_rfl) (by kernel_rfl) (by kernel_rfl) ?_) | fail)
                        refine bodyPost_ret (results_ct Tryd.results13 _ _ w.heap.size 24 zero8 (0, 0) _ rfl (setRow_heap _ w.heap.size zero8 zero8 24 (0, 0) B43) Tryd.underlying24 rfl (by kernel_rfl)) rfl ⟨rfl, below_setRow HB3 (Nat.le_refl _) _⟩
                      | true =>
                        cases y with
                        | false =>
                          have hE5 : E = 85 := HE.out
                          have hV5 := hVz.out (by rw [hE5]; decide)
                          clear HE hVz hVf hFull
                          subst hE5 hV5
                          go_wp2_with (first | (go_at_call 32; refine END72.out.mono ?_; rintro e W3 ⟨rfl, hb3⟩; have HB3 := HB.trans (hb3.mono HB.size); have B43 := blk_below B4 hb3; have B63 := blk_below B6 hb3; have B93 := blk_below B9 hb3; clear HB B4 B6 B9 hb3 END72) | (go_at_call 33; with_reducible refine (HZ264.out _ HB3).mono ?_; rintro e W ⟨rfl, hW⟩; rw [hW]; clear hW) | (go_at_call 33; with_reducible refine (HZ480.out _ HB3).mono ?_; rintro e W ⟨rfl, hW⟩; rw [hW]; clear hW) | ((with_reducible refine gate_ (.load 24 (.tmp 6)) rfl ?_); refine wpList_load_row rfl 24 (.tmp 6) rfl (w.heap.size + 1) rfl 24 zero8 (0, 0) _ B63 Tryd.underlying24 rfl (by kernel_rfl) ?_) | ((with_reducible refine gate_ (.store 24 (.tmp 4) (.tmp 129)) rfl ?_); refine wpList_store_row rfl 24 (.tmp 4) (.tmp 129) rfl w.heap.size zero8 rfl rfl 24 zero8 B43 (by kernel_rfl) (by kernel_rfl) (by kernel_rfl) ?_) | fail)
                          refine bodyPost_ret (results_ct Tryd.results13 _ _ w.heap.size 24 zero8 (0, 0) _ rfl (setRow_heap _ w.heap.size zero8 zero8 24 (0, 0) B43) Tryd.underlying24 rfl (by kernel_rfl)) rfl ⟨rfl, below_setRow HB3 (Nat.le_refl _) _⟩
                        | true =>
                          cases Z264 with
                          | false =>
                            have hE5 : E = 85 := HE.out
                            have hV5 := hVz.out (by rw [hE5]; decide)
                            clear HE hVz hVf hFull
                            subst hE5 hV5
                            go_wp2_with (first | (go_at_call 32; refine END72.out.mono ?_; rintro e W3 ⟨rfl, hb3⟩; have HB3 := HB.trans (hb3.mono HB.size); have B43 := blk_below B4 hb3; have B63 := blk_below B6 hb3; have B93 := blk_below B9 hb3; clear HB B4 B6 B9 hb3 END72) | (go_at_call 33; with_reducible refine (HZ264.out _ HB3).mono ?_; rintro e W ⟨rfl, hW⟩; rw [hW]; clear hW) | (go_at_call 33; with_reducible refine (HZ480.out _ HB3).mono ?_; rintro e W ⟨rfl, hW⟩; rw [hW]; clear hW) | ((with_reducible refine gate_ (.load 24 (.tmp 6)) rfl ?_); refine wpList_load_row rfl 24 (.tmp 6) rfl (w.heap.size + 1) rfl 24 zero8 (0, 0) _ B63 Tryd.underlying24 rfl (by kernel_rfl) ?_) | ((with_reducible refine gate_ (.store 24 (.tmp 4) (.tmp 129)) rfl ?_); refine wpList_store_row rfl 24 (.tmp 4) (.tmp 129) rfl w.heap.size zero8 rfl rfl 24 zero8 B43 (by kernel_rfl) (by kernel_rfl) (by kernel_rfl) ?_) | fail)
                            refine bodyPost_ret (results_ct Tryd.results13 _ _ w.heap.size 24 zero8 (0, 0) _ rfl (setRow_heap _ w.heap.size zero8 zero8 24 (0, 0) B43) Tryd.underlying24 rfl (by kernel_rfl)) rfl ⟨rfl, below_setRow HB3 (Nat.le_refl _) _⟩
                          | true =>
                            cases Z480 with
                            | false =>
                              have hE5 : E = 85 := HE.out
                              have hV5 := hVz.out (by rw [hE5]; decide)
                              clear HE hVz hVf hFull
                              subst hE5 hV5
                              go_wp2_with (first | (go_at_call 32; refine END72.out.mono ?_; rintro e W3 ⟨rfl, hb3⟩; have HB3 := HB.trans (hb3.mono HB.size); have B43 := blk_below B4 hb3; have B63 := blk_below B6 hb3; have B93 := blk_below B9 hb3; clear HB B4 B6 B9 hb3 END72) | (go_at_call 33; with_reducible refine (HZ264.out _ HB3).mono ?_; rintro e W ⟨rfl, hW⟩; rw [hW]; clear hW) | (go_at_call 33; with_reducible refine (HZ480.out _ HB3).mono ?_; rintro e W ⟨rfl, hW⟩; rw [hW]; clear hW) | ((with_reducible refine gate_ (.load 24 (.tmp 6)) rfl ?_); refine wpList_load_row rfl 24 (.tmp 6) rfl (w.heap.size + 1) rfl 24 zero8 (0, 0) _ B63 Tryd.underlying24 rfl (by kernel_rfl) ?_) | ((with_reducible refine gate_ (.store 24 (.tmp 4) (.tmp 129)) rfl ?_); refine wpList_store_row rfl 24 (.tmp 4) (.tmp 129) rfl w.heap.size zero8 rfl rfl 24 zero8 B43 (by kernel_rfl) (by kernel_rfl) (by kernel_rfl) ?_) | fail)
                              refine bodyPost_ret (results_ct Tryd.results13 _ _ w.heap.size 24 zero8 (0, 0) _ rfl (setRow_heap _ w.heap.size zero8 zero8 24 (0, 0) B43) Tryd.underlying24 rfl (by kernel_rfl)) rfl ⟨rfl, below_setRow HB3 (Nat.le_refl _) _⟩
                            | true =>
                              cases T2 with
                              | false =>
                                have hE5 : E = 86 := HE.out
                                have hV5 := hVz.out (by rw [hE5]; decide)
                                clear HE hVz hVf hFull
                                subst hE5 hV5
                                go_wp2_with (first | (go_at_call 32; refine END72.out.mono ?_; rintro e W3 ⟨rfl, hb3⟩; have HB3 := HB.trans (hb3.mono HB.size); have B43 := blk_below B4 hb3; have B63 := blk_below B6 hb3; have B93 := blk_below B9 hb3; clear HB B4 B6 B9 hb3 END72) | (go_at_call 32; refine (ENDT.out _ HB3).mono ?_; rintro e W4 ⟨rfl, hb4⟩; have HB4 := HB3.trans (hb4.mono HB3.size); have B44 := blk_below B43 hb4; have B64 := blk_below B63 hb4; have B94 := blk_below B93 hb4; have ks : W4.cell? ⟨n9, 7, none⟩ = some (.string ⟨#[]⟩) := (blk_cell B94 7).trans (by rw [← HCS.out]; rfl); have fs := blk_frozen B94 7; clear HB3 B43 B63 B93 hb4) | (go_at_call 33; with_reducible refine (HZ264.out _ HB3).mono ?_; rintro e W ⟨rfl, hW⟩; rw [hW]; clear hW) | (go_at_call 33; with_reducible refine (HZ480.out _ HB3).mono ?_; rintro e W ⟨rfl, hW⟩; rw [hW]; clear hW) | ((with_reducible refine gate_ (.load 24 (.tmp 6)) rfl ?_); refine wpList_load_row rfl 24 (.tmp 6) rfl (w.heap.size + 1) rfl 24 zero8 (0, 0) _ (blk_far B64 h6n _) Tryd.underlying24 rfl (by kernel_rfl) ?_) | ((with_reducible refine gate_ (.store 24 (.tmp 4) (.tmp 139)) rfl ?_); refine wpList_store_row rfl 24 (.tmp 4) (.tmp 139) rfl w.heap.size zero8 rfl rfl 24 zero8 (blk_far B44 h4n _) (by kernel_rfl) (by kernel_rfl) (by kernel_rfl) ?_) | fail)
                                refine bodyPost_ret (results_ct Tryd.results13 _ _ w.heap.size 24 zero8 (0, 0) _ rfl (setRow_heap _ w.heap.size zero8 zero8 24 (0, 0) (blk_far B44 h4n _)) Tryd.underlying24 rfl (by kernel_rfl)) rfl ⟨rfl, below_setRow (HB4.setCell hn9 _) (Nat.le_refl _) _⟩
                              | true =>
                                have hE5 : E = 0 := HE.out
                                have hV5 := hVf.out hE5
                                clear HE hVz hVf
                                subst hE5 hV5
                                have hsz : (fullV sec b).size = 8 := rfl
                                go_wp2_with (first | (go_at_call 32; refine END72.out.mono ?_; rintro e W3 ⟨rfl, hb3⟩; have HB3 := HB.trans (hb3.mono HB.size); have B43 := blk_below B4 hb3; have B63 := blk_below B6 hb3; have B93 := blk_below B9 hb3; clear HB B4 B6 B9 hb3 END72) | (go_at_call 32; refine (ENDT.out _ HB3).mono ?_; rintro e W4 ⟨rfl, hb4⟩; have HB4 := HB3.trans (hb4.mono HB3.size); have B44 := blk_below B43 hb4; have B64 := blk_below B63 hb4; have B94 := blk_below B93 hb4; have ks : W4.cell? ⟨n9, 7, none⟩ = some (.string ⟨#[]⟩) := (blk_cell B94 7).trans (by rw [← HCS.out]; rfl); have fs := blk_frozen B94 7; clear HB3 B43 B63 B93 hb4) | (go_at_call 33; with_reducible refine (HZ264.out _ HB3).mono ?_; rintro e W ⟨rfl, hW⟩; rw [hW]; clear hW) | (go_at_call 33; with_reducible refine (HZ480.out _ HB3).mono ?_; rintro e W ⟨rfl, hW⟩; rw [hW]; clear hW) | ((with_reducible refine gate_ (.load 24 (.tmp 9)) rfl ?_); refine wpList_load_row rfl 24 (.tmp 9) rfl n9 rfl 24 (fullV sec b) (0, 0) _ ((blk_set B94 7 _).trans (by rw [hFull.out])) Tryd.underlying24 rfl (by kernel_rfl) ?_) | ((with_reducible refine gate_ (.store 24 (.tmp 4) (.tmp 140)) rfl ?_); refine wpList_store_row rfl 24 (.tmp 4) (.tmp 140) rfl w.heap.size (fullV sec b) rfl rfl 24 zero8 (blk_far B44 h4n _) (by kernel_rfl) (by kernel_rfl) (by kernel_rfl) ?_) | fail)
                                refine bodyPost_ret (results_ct Tryd.results13 _ _ w.heap.size 24 (fullV sec b) (0, 0) _ rfl (setRow_heap _ w.heap.size zero8 (fullV sec b) 24 (0, 0) (blk_far B44 h4n _)) Tryd.underlying24 rfl (by kernel_rfl)) rfl ⟨rfl, below_setRow (HB4.setCell hn9 _) (Nat.le_refl _) _⟩
      · rw [if_pos hfl] at hE
        have hV5 := hVz.out (by rw [hE.out]; decide)
        have hE5 := hE.out
        clear hE hVz hVf
        subst hE5 hV5
        have f0 : ((0 : Int) == 0) = true := rfl
        have f1 : (frH sec b != (b.length : Int)) = true := bne_iff_ne.mpr hfl
        have f2 : (frH sec b == (b.length : Int)) = false := beq_eq_false_iff_ne.mpr hfl
        go_wp2_with (first | (go_at_call 29; refine (front_call sec _ g o c b hlc hb (by omega) hl (hv.below HBz).C (hv.below HBz).m).mono ?_; rintro e W1 ⟨rfl, hb1⟩; have HB := HBz.trans (hb1.mono HBz.size); have B4 := blk_below B4z hb1; have B6 := blk_below B6z hb1; clear HBz B4z B6z hb1) | fail)
        generalize frH sec b = H at *
        clear hfl hfr
        go_quiet (fail)
        replace B4 := blk_drewN B4 nq
        replace B6 := blk_drewN B6 nq
        replace HB := below_drewN_ HB nq
        generalize W1.drewN nq = W2 at *
        go_wp2_with (first | ((with_reducible refine gate_ (.load 24 (.tmp 6)) rfl ?_); refine wpList_load_row rfl 24 (.tmp 6) rfl (w.heap.size + 1) rfl 24 zero8 (0, 0) _ B6 Tryd.underlying24 rfl (by kernel_rfl) ?_) | ((with_reducible refine gate_ (.store 24 (.tmp 4) (.tmp 47)) rfl ?_); refine wpList_store_row rfl 24 (.tmp 4) (.tmp 47) rfl w.heap.size zero8 rfl rfl 24 zero8 B4 (by kernel_rfl) (by kernel_rfl) (by kernel_rfl) ?_) | fail)
        refine bodyPost_ret (results_ct Tryd.results13 _ _ w.heap.size 24 zero8 (0, 0) _ rfl (setRow_heap _ w.heap.size zero8 zero8 24 (0, 0) (by first | exact B4 | exact blk_drewN B4 _)) Tryd.underlying24 rfl (by kernel_rfl)) rfl ⟨rfl, below_setRow (by first | exact HB | exact below_drewN_ HB _) (Nat.le_refl _) _⟩
    · rw [if_pos hfr] at hE
      have hV5 := hVz.out (by rw [hE.out]; exact hfr)
      have hE5 := hE.out
      clear hE hVz hVf
      subst hV5
      have f1 : (frE sec b == 0) = false := beq_eq_false_iff_ne.mpr hfr
      have f2 : (frE sec b != 0) = true := bne_iff_ne.mpr hfr
      go_wp2_with (first | (go_at_call 29; refine (front_call sec _ g o c b hlc hb (by omega) hl (hv.below HBz).C (hv.below HBz).m).mono ?_; rintro e W1 ⟨rfl, hb1⟩; have HB := HBz.trans (hb1.mono HBz.size); have B4 := blk_below B4z hb1; have B6 := blk_below B6z hb1; clear HBz B4z B6z hb1) | fail)
      generalize frH sec b = H at *
      generalize frE sec b = F at *
      clear hfr
      subst hE5
      go_quiet (fail)
      replace B4 := blk_drewN B4 nq
      replace B6 := blk_drewN B6 nq
      replace HB := below_drewN_ HB nq
      generalize W1.drewN nq = W2 at *
      go_wp2_with (first | ((with_reducible refine gate_ (.load 24 (.tmp 6)) rfl ?_); refine wpList_load_row rfl 24 (.tmp 6) rfl (w.heap.size + 1) rfl 24 zero8 (0, 0) _ B6 Tryd.underlying24 rfl (by kernel_rfl) ?_) | ((with_reducible refine gate_ (.store 24 (.tmp 4) (.tmp 47)) rfl ?_); refine wpList_store_row rfl 24 (.tmp 4) (.tmp 47) rfl w.heap.size zero8 rfl rfl 24 zero8 B4 (by kernel_rfl) (by kernel_rfl) (by kernel_rfl) ?_) | fail)
      refine bodyPost_ret (results_ct Tryd.results13 _ _ w.heap.size 24 zero8 (0, 0) _ rfl (setRow_heap _ w.heap.size zero8 zero8 24 (0, 0) (by first | exact B4 | exact blk_drewN B4 _)) Tryd.underlying24 rfl (by kernel_rfl)) rfl ⟨rfl, below_setRow (by first | exact HB | exact below_drewN_ HB _) (Nat.le_refl _) _⟩
end Go.Proofs.YtglcapkmeecknaaDoor.u13
