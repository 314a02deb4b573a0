/- What may be of keyslots. (Merged by merge.py.) -/
import Derived.Test.YtpmbfibjldnaiaaGreatDoorMB
import Derived.Test.YtpmbfibjldnaiaaGreatDoorMA
/-! ## SlotsA -/
namespace Go.Proofs.YtpmbfibjldnaiaaGreatDoor.slotsa
open Go Go.RowKit Go.Proofs.YtpmbfibjldnaiaaGreatDoor.kindsc Go.Proofs.YtpmbfibjldnaiaaGreatDoor.kindsd Go.Proofs.YtpmbfibjldnaiaaGreatDoor.shapea Go.Proofs.YtpmbfibjldnaiaaGreatDoor.risea Go.Proofs.YtpmbfibjldnaiaaGreatDoor.PProbeSpots Go.Proofs.YtpmbfibjldnaiaaGreatDoorW.PrintWords
set_option linter.unusedVariables false
set_option linter.unusedSimpArgs false
def inB (n a b : Int) : Bool := decide (a ≤ n) && decide (n ≤ b)
theorem within_call (n a b : Int) (W : World) : Calls Tryz.prog 25 #[.int .i64 n, .int .i64 a, .int .i64 b] W fun e w' => e = .returned (.bool (inB n a b)) ∧ ∃ m, w' = W.drewN m := by
  refine (ledger_within.calls n a b (inB n a b) W ?_).mono fun e w' ⟨h1, h2⟩ => ⟨h1, h2.out⟩
  unfold ledger_within.f inB
  by_cases h : a ≤ n
  · rw [if_pos h, decide_eq_true h]; rfl
  · rw [if_neg h, decide_eq_false h]; rfl
theorem key_call2 (s : ByteArray) (gs o : Nat) (w : World) (hS : SizesAt w gs o) : Calls Tryz.prog 50 #[.string s] w fun e w' => e = .returned (.tuple #[.int .i64 (keyRes s.data.toList).1, .int .i64 (keyRes s.data.toList).2]) ∧ Below w.heap.size w w' := by
  have := key_call s.data.toList gs o w hS
  simpa using this
/-- A keyslot that may be. -/
def slotOk (x : S53) : Bool := ((keyRes x.f5.data.toList).2 == 0) && !((keyRes x.f5.data.toList).1 == 0) && inB x.f1 0 2 && ((x.f2 == 256) || (x.f2 == 512)) && inB x.f3 1 1048576 && inB x.f6 1 4000 && ((x.f4.size : Int) == 32)
def slotsB (l : List S53) : Bool := inB (l.length : Int) 1 32 && riseB 31 (-1) (l.map (·.f0)) && l.all slotOk
set_option maxHeartbeats 4000000 in
set_option maxRecDepth 100000 in
theorem slots_call (v0 v1 v2 v3 v4 v5 v6 v7 v8 v9 v10 v12 v13 v14 v15 v16 v17 v18 v19 v20 v21 v22 v23 v24 v25 v26 : Value) (A : Option Addr) (c : Nat) (l : List S53) (gs o : Nat) (w : World) (hR : Kd.C k53 w A l.length l) (hl : l.length ≤ 4611686018427387904) (hS : SizesAt w gs o) :
    Calls Tryz.prog 26 #[.agg #[v0, v1, v2, v3, v4, v5, v6, v7, v8, v9, v10, .slice A l.length c, v12, v13, v14, v15, v16, v17, v18, v19, v20, v21, v22, v23, v24, v25, v26]] w fun e w' => e = .returned (.bool (slotsB l)) ∧ Below w.heap.size w w' := by
  have hz : Below w.heap.size w (w.alloc (.cells #[v0, v1, v2, v3, v4, v5, v6, v7, v8, v9, v10, .slice A l.length c, v12, v13, v14, v15, v16, v17, v18, v19, v20, v21, v22, v23, v24, v25, v26] 36)) := b_alloc w _
  have hn := blk_new w (.cells #[v0, v1, v2, v3, v4, v5, v6, v7, v8, v9, v10, .slice A l.length c, v12, v13, v14, v15, v16, v17, v18, v19, v20, v21, v22, v23, v24, v25, v26] 36)
  have HRC := fun W (hb : Below w.heap.size w W) => riseSlots_call A c l 31 W (Kd.C_below hR hb) hl
  have HR := Aside0.mk hR
  have HS := Aside0.mk hS
  have HZ := Aside0.mk hz
  have HN := Aside0.mk hn
  clear hR hS hz hn
  cases h2 : riseB 31 (-1) (l.map (·.f0)) with
  | false =>
    rw [h2] at HRC
    have HRA := Aside0.mk HRC
    have H2 := Aside0.mk h2
    clear HRC h2
    go_enter Tryz.func26, Tryz.ntmps26
    go_wp2_with (first | (go_at_call 25; refine (within_call _ _ _ _).mono ?_; rintro e w' ⟨rfl, m, rfl⟩) | (go_at_call 48; refine (HRA.out _ (below_dn HZ.out _)).mono ?_; rintro e W2 ⟨rfl, hb2⟩; have q := (hb2.block _ (blk_lt HN.out)).trans HN.out; have q11 : W2.cell? ⟨w.heap.size, 11, none⟩ = some (.slice A l.length c) := (blk_cell q 11).trans rfl; have HB2 := Aside0.mk hb2; clear hb2 q) | fail)
    · go_ret
      exact ⟨by simp [slotsB, H2.out], by repeat (first | exact (below_dn HZ.out _).trans (HB2.out.mono HZ.out.size) | apply below_dn)⟩
    · go_ret
      exact ⟨by simp [slotsB, H2.out], by repeat (first | exact HZ.out | apply below_dn)⟩
  | true =>
    rw [h2] at HRC
    have HRA := Aside0.mk HRC
    have H2 := Aside0.mk h2
    clear HRC h2
    go_enter Tryz.func26, Tryz.ntmps26
    go_wp2_with (first | (go_at_call 25; refine (within_call _ _ _ _).mono ?_; rintro e w' ⟨rfl, m, rfl⟩) | (go_at_call 48; refine (HRA.out _ (below_dn HZ.out _)).mono ?_; rintro e W2 ⟨rfl, hb2⟩; have q := (hb2.block _ (blk_lt HN.out)).trans HN.out; have q11 : W2.cell? ⟨w.heap.size, 11, none⟩ = some (.slice A l.length c) := (blk_cell q 11).trans rfl; have HB2 := Aside0.mk hb2; clear hb2 q) | fail)
    · have h1 : inB (l.length : Int) 1 32 = true := by assumption
      have H1 : Aside0 (slotsB l = l.all slotOk) := ⟨by simp [slotsB, h1, H2.out]⟩
      have HW2 : Aside0 (Below w.heap.size w W2) := ⟨(below_dn HZ.out _).trans (HB2.out.mono HZ.out.size)⟩
      clear h1
      go_loopg [21] (l.length + 1) (fun kq v21 wr => ∃ i : Nat, Aside0 (v21 = .int .i64 (i : Int)) ∧ Aside0 (i ≤ l.length ∧ kq + i = l.length + 1) ∧ Aside0 (l.all slotOk = (l.drop i).all slotOk) ∧ Aside0 (Below w.heap.size w wr))
      case atStart => exact ⟨0, ⟨rfl⟩, ⟨by omega⟩, ⟨rfl⟩, ⟨by repeat (first | exact HW2.out | apply below_dn)⟩⟩
      case round =>
        obtain ⟨i, H21, HI, HF, HB⟩ := hrel
        obtain rfl := H21.out
        obtain ⟨hi, hk⟩ := HI.out
        have HQ := Aside0.mk hk
        clear hk
        by_cases hlt : i < l.length
        · obtain ⟨ad, e, c0, c1, c2, c3, c4, c5, c6, c7, c8⟩ := at_T53 HR.out (i : Int) (by omega) (by omega)
          have hx : rd_T53 l (i : Int) = l[i] := by
            unfold rd_T53
            rw [Int.toNat_natCast, List.getD_eq_getElem?_getD, List.getElem?_eq_getElem hlt]
            rfl
          rw [hx] at c0 c1 c2 c3 c4 c5 c6 c7 c8
          rw [Int.toNat_natCast] at c0 c1 c2 c3 c4 c5 c6 c7 c8
          have mv : ∀ {a : Addr} {u : Value}, w.cell? a = some u → wr.cell? a = some u := fun h => (HB.out.cell (World.block_lt_of_cell? w _ h)).trans h
          replace c0 := mv c0
          replace c1 := mv c1
          replace c2 := mv c2
          replace c3 := mv c3
          replace c4 := mv c4
          replace c5 := mv c5
          replace c6 := mv c6
          replace c7 := mv c7
          replace c8 := mv c8
          clear mv hx
          have HD : Aside0 (l.all slotOk = (slotOk l[i] && (l.drop (i + 1)).all slotOk)) := ⟨by
            rw [HF.out, List.drop_eq_getElem_cons hlt]
            rfl⟩
          have HSr : Aside0 (SizesAt wr gs o) := ⟨HS.out.later HB.out⟩
          cases e
          go_wp2_with (first | (go_at_call 50; refine (key_call2 l[i].f5 gs o _ (HSr.out.later (b_alloc wr _))).mono ?_; rintro e W1 ⟨rfl, hb1⟩; have q := (hb1.block _ (blk_lt (blk_new wr (.cells #[.int .i64 l[i].f0, .int .i64 l[i].f1, .int .i64 l[i].f2, .int .i64 l[i].f3, .string l[i].f4, .string l[i].f5, .int .i64 l[i].f6, .int .i64 l[i].f7.f0, .int .i64 l[i].f7.f1] 53)))).trans (blk_new wr _); have q1 : W1.cell? ⟨wr.heap.size, 1, none⟩ = some (.int .i64 l[i].f1) := (blk_cell q 1).trans rfl; have q2 : W1.cell? ⟨wr.heap.size, 2, none⟩ = some (.int .i64 l[i].f2) := (blk_cell q 2).trans rfl; have q3 : W1.cell? ⟨wr.heap.size, 3, none⟩ = some (.int .i64 l[i].f3) := (blk_cell q 3).trans rfl; have q4 : W1.cell? ⟨wr.heap.size, 4, none⟩ = some (.string l[i].f4) := (blk_cell q 4).trans rfl; have q6 : W1.cell? ⟨wr.heap.size, 6, none⟩ = some (.int .i64 l[i].f6) := (blk_cell q 6).trans rfl; have HB1 := Aside0.mk hb1; clear hb1 q) | (go_at_call 25; refine (within_call _ _ _ _).mono ?_; rintro e w' ⟨rfl, m, rfl⟩) | fail)
          all_goals have hbw : Below w.heap.size w W1 := (HB.out.alloc HB.out.size _).trans (HB1.out.mono (by simp; have := HB.out.size; omega))
          all_goals first
            | (go_ret
               refine ⟨?_, by repeat (first | exact hbw | apply below_dn)⟩
               rw [H1.out, HD.out]
               have hno : slotOk l[i] = false := by
                 clear c0 c1 c2 c3 c4 c5 c6 c7 c8 q1 q2 q3 q4 q6 hbw
                 unfold slotOk
                 simp_all
               rw [hno]
               rfl)
            | (go_roundg (l.length - i)
               case rel =>
                 have hyes : slotOk l[i] = true := by
                   clear c0 c1 c2 c3 c4 c5 c6 c7 c8 q1 q2 q3 q4 q6 hbw
                   unfold slotOk
                   simp_all
                 exact ⟨i + 1, ⟨by go_num⟩, ⟨by omega, by omega⟩, ⟨by rw [HD.out, hyes]; rfl⟩, ⟨by repeat (first | exact hbw | apply below_dn)⟩⟩
               case measure => have := HQ.out; omega)
        · obtain rfl : i = l.length := by omega
          go_wp2_with fail
          go_ret
          refine ⟨?_, HB.out⟩
          rw [H1.out, HF.out, List.drop_length]
          rfl
    · have h1 : ¬ inB (l.length : Int) 1 32 = true := by assumption
      go_ret
      exact ⟨by simp at h1; simp [slotsB, h1], by repeat (first | exact HZ.out | apply below_dn)⟩
end Go.Proofs.YtpmbfibjldnaiaaGreatDoor.slotsa
