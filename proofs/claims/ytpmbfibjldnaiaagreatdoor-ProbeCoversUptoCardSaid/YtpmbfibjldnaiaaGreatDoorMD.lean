/- Numbers that rise: of tokens, and whole numbers. What may be of epochs. (Written by gep.py.) (Merged by merge.py.) -/
import Derived.Test.YtpmbfibjldnaiaaGreatDoorMB
import Derived.Test.YtpmbfibjldnaiaaGreatDoorMC
import Derived.BigQuiet
import Derived.Deep.QuietTactic
/-! ## RiseB -/
namespace Go.Proofs.YtpmbfibjldnaiaaGreatDoor.riseb
open Go Go.RowKit Go.Proofs.YtpmbfibjldnaiaaGreatDoor.shapea Go.Proofs.YtpmbfibjldnaiaaGreatDoor.risea Go.Proofs.YtpmbfibjldnaiaaGreatDoor.PProbeSpots Go.Proofs.YtpmbfibjldnaiaaGreatDoorW.PrintWords
set_option linter.unusedVariables false
set_option linter.unusedSimpArgs false
set_option maxHeartbeats 1000000 in
set_option maxRecDepth 100000 in
theorem tokNo_call (n : Int) (v1 v2 v3 : Value) (w : World) : Calls Tryz.prog 55 #[.agg #[.int .i64 n, v1, v2, v3]] w fun e w' => e = .returned (.int .i64 n) ∧ Below w.heap.size w w' := by
  go_enter Tryz.func55, Tryz.ntmps55
  go_wp2_with fail
  go_ret
  exact ⟨rfl, (Below.refl _ _).alloc (Nat.le_refl _) _⟩
set_option maxHeartbeats 1000000 in
set_option maxRecDepth 100000 in
theorem intNo_call (n : Int) (w : World) : Calls Tryz.prog 92 #[.int .i64 n] w fun e w' => e = .returned (.int .i64 n) ∧ w = w' := by
  go_enter Tryz.func92, Tryz.ntmps92
  go_wp2_with fail
  go_ret
  exact ⟨rfl, rfl⟩
set_option maxHeartbeats 2000000 in
set_option maxRecDepth 100000 in
theorem riseToks_call (A : Option Addr) (c : Nat) (l : List S98) (most : Int) (w : World) (hR : Kd.C k98 w A l.length l) (hl : l.length ≤ 4611686018427387904) :
    Calls Tryz.prog 54 #[.slice A l.length c, .int .i64 most, .func (.func 55) #[] #[]] w fun e w' => e = .returned (.bool (riseB most (-1) (l.map (·.f0)))) ∧ Below w.heap.size w w' := by
  have HR := Aside0.mk hR
  clear hR
  go_enter Tryz.func54, Tryz.ntmps54
  go_wp2_with fail
  go_loopg [7, 13] (l.length + 1) (fun kq v7 v13 wr => ∃ (i : Nat) (last : Int), Aside0 (v13 = .int .i64 (i : Int)) ∧ Aside0 (v7 = .int .i64 last) ∧ Aside0 (i ≤ l.length ∧ kq + i = l.length + 1) ∧ Aside0 (riseB most (-1) (l.map (·.f0)) = riseB most last ((l.drop i).map (·.f0))) ∧ Aside0 (Below w.heap.size w wr))
  case atStart => exact ⟨0, -1, ⟨rfl⟩, ⟨rfl⟩, ⟨by omega⟩, ⟨rfl⟩, ⟨Below.refl _ _⟩⟩
  case round =>
    obtain ⟨i, last, H13, H7, HI, HF, HB⟩ := hrel
    obtain rfl := H13.out
    obtain rfl := H7.out
    obtain ⟨hi, hk⟩ := HI.out
    have HQ := Aside0.mk hk
    clear hk
    by_cases hlt : i < l.length
    · obtain ⟨ad, A2, cc2, e, c0, c1, c2, c3, g1, g2⟩ := at_T98 HR.out (i : Int) (by omega) (by omega)
      have hx : rd_T98 l (i : Int) = l[i] := by
        unfold rd_T98
        rw [Int.toNat_natCast, List.getD_eq_getElem?_getD, List.getElem?_eq_getElem hlt]
        rfl
      rw [hx] at c0 c1 c2 c3
      rw [Int.toNat_natCast] at c0 c1 c2 c3
      have mv : ∀ {a : Addr} {u : Value}, w.cell? a = some u → wr.cell? a = some u := fun h => (HB.out.cell (World.block_lt_of_cell? w _ h)).trans h
      replace c0 := mv c0
      replace c1 := mv c1
      replace c2 := mv c2
      replace c3 := mv c3
      clear mv hx
      have HD : Aside0 (riseB most (-1) (l.map (·.f0)) = if l[i].f0 ≤ last ∨ l[i].f0 > most then false else riseB most l[i].f0 ((l.drop (i + 1)).map (·.f0))) := ⟨by
        rw [HF.out, List.drop_eq_getElem_cons hlt]
        rfl⟩
      cases e
      go_wp2_with (first | (go_at_call 55; refine (tokNo_call l[i].f0 _ _ _ _).mono ?_; rintro e W1 ⟨rfl, hb1⟩) | fail)
      all_goals have hbw : Below w.heap.size w W1 := (HB.out.alloc HB.out.size _).trans (hb1.mono (by simp; have := HB.out.size; omega))
      all_goals first
        | (go_ret; exact ⟨by rw [HD.out, if_pos (by omega)]; rfl, hbw⟩)
        | (go_roundg (l.length - i)
           case rel => exact ⟨i + 1, l[i].f0, ⟨by go_num⟩, ⟨rfl⟩, ⟨by omega, by omega⟩, ⟨by rw [HD.out, if_neg (by omega)]⟩, ⟨hbw⟩⟩
           case measure => have := HQ.out; omega)
    · obtain rfl : i = l.length := by omega
      go_wp2_with fail
      go_ret
      refine ⟨?_, HB.out⟩
      rw [HF.out, List.drop_length]
      rfl
set_option maxHeartbeats 2000000 in
set_option maxRecDepth 100000 in
theorem riseInts_call (A : Option Addr) (c : Nat) (l : List Int) (most : Int) (w : World) (hR : Kd.C (Kd.int .i64) w A l.length l) (hl : l.length ≤ 4611686018427387904) :
    Calls Tryz.prog 91 #[.slice A l.length c, .int .i64 most, .func (.func 92) #[] #[]] w fun e w' => e = .returned (.bool (riseB most (-1) l)) ∧ Below w.heap.size w w' := by
  have HR := Aside0.mk hR
  clear hR
  go_enter Tryz.func91, Tryz.ntmps91
  go_wp2_with fail
  go_loopg [7, 13] (l.length + 1) (fun kq v7 v13 wr => ∃ (i : Nat) (last : Int), Aside0 (v13 = .int .i64 (i : Int)) ∧ Aside0 (v7 = .int .i64 last) ∧ Aside0 (i ≤ l.length ∧ kq + i = l.length + 1) ∧ Aside0 (riseB most (-1) l = riseB most last (l.drop i)) ∧ Aside0 (Below w.heap.size w wr))
  case atStart => exact ⟨0, -1, ⟨rfl⟩, ⟨rfl⟩, ⟨by omega⟩, ⟨rfl⟩, ⟨Below.refl _ _⟩⟩
  case round =>
    obtain ⟨i, last, H13, H7, HI, HF, HB⟩ := hrel
    obtain rfl := H13.out
    obtain rfl := H7.out
    obtain ⟨hi, hk⟩ := HI.out
    have HQ := Aside0.mk hk
    clear hk
    by_cases hlt : i < l.length
    · obtain ⟨hn, hmx, hat⟩ := Kd.reads_of_C (d := (0 : Int)) HR.out
      obtain ⟨ad, e, hcc⟩ := hat (by omega)
      have c0 : wr.cell? (ad.add i) = some (.int .i64 l[i]) := by
        have := hcc i hlt
        rw [List.getD_eq_getElem?_getD, List.getElem?_eq_getElem hlt] at this
        exact (HB.out.cell (World.block_lt_of_cell? w _ this)).trans this
      clear hcc hat hn
      have HD : Aside0 (riseB most (-1) l = if l[i] ≤ last ∨ l[i] > most then false else riseB most l[i] (l.drop (i + 1))) := ⟨by
        rw [HF.out, List.drop_eq_getElem_cons hlt]
        rfl⟩
      cases e
      go_wp2_with (first | (go_at_call 92; refine (intNo_call l[i] _).mono ?_; rintro e W1 ⟨rfl, rfl⟩) | fail)
      all_goals first
        | (go_ret; exact ⟨by rw [HD.out, if_pos (by omega)]; rfl, HB.out⟩)
        | (go_roundg (l.length - i)
           case rel => exact ⟨i + 1, l[i], ⟨by go_num⟩, ⟨rfl⟩, ⟨by omega, by omega⟩, ⟨by rw [HD.out, if_neg (by omega)]⟩, ⟨HB.out⟩⟩
           case measure => have := HQ.out; omega)
    · obtain rfl : i = l.length := by omega
      go_wp2_with fail
      go_ret
      refine ⟨?_, HB.out⟩
      rw [HF.out, List.drop_length]
      rfl
end Go.Proofs.YtpmbfibjldnaiaaGreatDoor.riseb
/-! ## EpA -/
namespace Go.Proofs.YtpmbfibjldnaiaaGreatDoor.epa
open Go Go.RowKit Go.Proofs.YtpmbfibjldnaiaaGreatDoor.kindsa Go.Proofs.YtpmbfibjldnaiaaGreatDoor.kindsb Go.Proofs.YtpmbfibjldnaiaaGreatDoor.kindsc Go.Proofs.YtpmbfibjldnaiaaGreatDoor.kindsd Go.Proofs.YtpmbfibjldnaiaaGreatDoor.shapea Go.Proofs.YtpmbfibjldnaiaaGreatDoor.risea Go.Proofs.YtpmbfibjldnaiaaGreatDoor.slotsa Go.Proofs.YtpmbfibjldnaiaaGreatDoor.PProbeSpots Go.Proofs.YtpmbfibjldnaiaaGreatDoorW.PrintWords
set_option linter.unusedVariables false
set_option linter.unusedSimpArgs false
/-- How long a sealed key is. -/
def sealL (n : Int) : Int := if n > 0 then n + 8 else n
/-- An epoch that may be. -/
def epOk (x : S91) : Bool := ((keyRes x.f1.data.toList).2 == 0) && decide (x.f0 ≤ 4611686018427387904) && ((x.f2.size : Int) == 32) && ((x.f4.size : Int) == 32) && ((x.f3.size : Int) == sealL (keyRes x.f1.data.toList).1)
theorem epOk_iff (x : S91) : epOk x = true ↔ ((keyRes x.f1.data.toList).2 = 0 ∧ x.f0 ≤ 4611686018427387904 ∧ (x.f2.size : Int) = 32 ∧ (x.f4.size : Int) = 32 ∧ ((0 < (keyRes x.f1.data.toList).1 ∧ (x.f3.size : Int) = (keyRes x.f1.data.toList).1 + 8) ∨ ((keyRes x.f1.data.toList).1 ≤ 0 ∧ (x.f3.size : Int) = (keyRes x.f1.data.toList).1))) := by
  unfold epOk sealL
  simp only [Bool.and_eq_true, beq_iff_eq, decide_eq_true_eq]
  split <;> constructor <;> intro h <;> omega
def wantE (on : Bool) : Int := if on then 2 else 1
def rises : List S91 → Bool
  | [a, b] => decide (a.f0 < b.f0)
  | _ => true
def epochsB (on : Bool) (l : List S91) : Bool := ((l.length : Int) == wantE on) && rises l && l.all epOk
theorem keyFrom_bd (s : Bs) : ∀ (l : List (Bs × Nat)), (∀ x ∈ l, x.2 ≤ 32) → ∀ n, keyFrom s l = some n → n ≤ 64
  | [], _, n, h => by simp [keyFrom] at h
  | x :: t, hx, n, h => by
    have h0 := hx x (List.mem_cons_self ..)
    unfold keyFrom at h
    split at h
    · split at h
      · have := Option.some.inj h
        rename_i hf
        obtain ⟨k, u3, hk⟩ : ∃ k, kindsL[(findK (s.drop x.1.length) kindsL 0).toNat]? = some k ∧ True := by
          have hj := (findK_lt (s.drop x.1.length) kindsL 0 hf).1
          have : (findK (s.drop x.1.length) kindsL 0).toNat < kindsL.length := by omega
          exact ⟨_, List.getElem?_eq_getElem this, trivial⟩
        have hm : mr (findK (s.drop x.1.length) kindsL 0).toNat ≤ 32 := by
          unfold mr
          rw [u3]
          have hin := List.mem_of_getElem? u3
          have hall : ∀ k ∈ kindsL, k.2.2 ≤ 32 := by decide
          exact hall k hin
        split at this <;> omega
      · exact keyFrom_bd s t (fun y hy => hx y (List.mem_cons_of_mem _ hy)) n h
    · exact keyFrom_bd s t (fun y hy => hx y (List.mem_cons_of_mem _ hy)) n h
theorem keyRes_bd (s : Bs) : 0 ≤ (keyRes s).1 ∧ (keyRes s).1 ≤ 64 := by
  unfold keyRes
  cases h : keySize s with
  | none => exact ⟨by show (0 : Int) ≤ 0; omega, by show (0 : Int) ≤ 64; omega⟩
  | some n =>
    have : n ≤ 64 := by
      unfold keySize at h
      split at h
      · have := Option.some.inj h; omega
      · exact keyFrom_bd s sizesL (by decide) n h
    exact ⟨by show (0 : Int) ≤ (n : Int); omega, by show (n : Int) ≤ 64; omega⟩
/-- What the loop over the epochs leaves. -/
def EpEnd (w : World) (b : Bool) (e : Ending) (w' : World) : Prop := e = .returned (.bool b) ∧ Below w.heap.size w w'
set_option maxHeartbeats 4000000 in
set_option maxRecDepth 100000 in
theorem epochs_call (v0 v1 v2 v3 v4 v5 v6 v7 v8 v9 v10 v11 v13 v15 v16 v17 v18 v19 v20 v21 v22 v23 v24 v25 v26 : Value) (on : Bool) (A : Option Addr) (c : Nat) (l : List S91) (gs o : Nat) (w : World) (hR : Kd.C k91 w A l.length l) (hl : l.length ≤ 4611686018427387904) (hS : SizesAt w gs o) :
    Calls Tryz.prog 27 #[.agg #[v0, v1, v2, v3, v4, v5, v6, v7, v8, v9, v10, v11, .slice A l.length c, v13, .bool on, v15, v16, v17, v18, v19, v20, v21, v22, v23, v24, v25, v26]] w fun e w' => e = .returned (.bool (epochsB on l)) ∧ Below w.heap.size w w' := by
  have hz : Below w.heap.size w (w.alloc (.cells #[v0, v1, v2, v3, v4, v5, v6, v7, v8, v9, v10, v11, .slice A l.length c, v13, .bool on, v15, v16, v17, v18, v19, v20, v21, v22, v23, v24, v25, v26] 36)) := b_alloc w _
  have HR := Aside0.mk hR
  have HS := Aside0.mk hS
  have HZ := Aside0.mk hz
  clear hR hS hz
  by_cases hlen : (l.length : Int) = wantE on
  · cases on with
    | false =>
      have hne : ((l.length : Int) != 1) = false := by simpa [wantE] using hlen
      have H1 : Aside0 (epochsB false l = l.all epOk) := ⟨by
        have hr : rises l = true := by
          match l, hlen with
          | [a], _ => rfl
        simp [epochsB, hlen, hr]⟩
      clear hlen
      go_enter Tryz.func27, Tryz.ntmps27
      go_wp2_with fail
      go_quiet (fail)
      go_wp2_with fail
      go_loopg [36] (l.length + 1) (fun kq v36 wr => ∃ i : Nat, Aside0 (v36 = .int .i64 (i : Int)) ∧ Aside0 (i ≤ l.length ∧ kq + i = l.length + 1) ∧ Aside0 (l.all epOk = (l.drop i).all epOk) ∧ Aside0 (Below w.heap.size w wr))
      case atStart => exact ⟨0, ⟨rfl⟩, ⟨by omega⟩, ⟨rfl⟩, ⟨by repeat (first | exact HZ.out | apply below_dn)⟩⟩
      case round =>
        obtain ⟨i, H36, HI, HF, HB⟩ := hrel
        obtain rfl := H36.out
        obtain ⟨hi, hk⟩ := HI.out
        have HQ := Aside0.mk hk
        clear hk
        by_cases hlt : i < l.length
        · obtain ⟨ad, e, c0, c1, c2, c3, c4⟩ := at_T91 HR.out (i : Int) (by omega) (by omega)
          have hx : rd_T91 l (i : Int) = l[i] := by
            unfold rd_T91
            rw [Int.toNat_natCast, List.getD_eq_getElem?_getD, List.getElem?_eq_getElem hlt]
            rfl
          rw [hx] at c0 c1 c2 c3 c4
          rw [Int.toNat_natCast] at c0 c1 c2 c3 c4
          have mv : ∀ {a : Addr} {u : Value}, w.cell? a = some u → wr.cell? a = some u := fun h => (HB.out.cell (World.block_lt_of_cell? w _ h)).trans h
          replace c0 := mv c0
          replace c1 := mv c1
          replace c2 := mv c2
          replace c3 := mv c3
          replace c4 := mv c4
          clear mv hx
          have HD : Aside0 (l.all epOk = (epOk l[i] && (l.drop (i + 1)).all epOk)) := ⟨by
            rw [HF.out, List.drop_eq_getElem_cons hlt]
            rfl⟩
          have HSr : Aside0 (SizesAt wr gs o) := ⟨HS.out.later HB.out⟩
          obtain ⟨kb0, kb1⟩ := keyRes_bd l[i].f1.data.toList
          try cases e
          go_wp2_with (first | (go_at_call 50; refine (key_call2 l[i].f1 gs o _ (HSr.out.later (b_alloc wr _))).mono ?_; rintro e W1 ⟨rfl, hb1⟩; have q := (hb1.block _ (blk_lt (blk_new wr (.cells #[.int .u64 l[i].f0, .string l[i].f1, .string l[i].f2, .string l[i].f3, .string l[i].f4] 91)))).trans (blk_new wr _); have q0 : W1.cell? ⟨wr.heap.size, 0, none⟩ = some (.int .u64 l[i].f0) := (blk_cell q 0).trans rfl; have q2 : W1.cell? ⟨wr.heap.size, 2, none⟩ = some (.string l[i].f2) := (blk_cell q 2).trans rfl; have q3 : W1.cell? ⟨wr.heap.size, 3, none⟩ = some (.string l[i].f3) := (blk_cell q 3).trans rfl; have q4 : W1.cell? ⟨wr.heap.size, 4, none⟩ = some (.string l[i].f4) := (blk_cell q 4).trans rfl; have HB1 := Aside0.mk hb1; clear hb1 q) | fail)
          all_goals have hbw : Below w.heap.size w W1 := (HB.out.alloc HB.out.size _).trans (HB1.out.mono (by simp; have := HB.out.size; omega))
          all_goals clear c0 c1 c2 c3 c4 q0 q2 q3 q4
          all_goals try (
            go_ret
            refine ⟨?_, ?_⟩
            · rw [H1.out, HD.out]
              have hno : epOk l[i] = false := by
                clear hbw
                try simp only [bne_iff_ne, ne_eq, bne_eq_false_iff_eq] at *
                rw [Bool.eq_false_iff, ne_eq, epOk_iff]
                omega
              rw [hno]
              rfl
            · exact hbw)
          all_goals
            have hyes : epOk l[i] = true := by
              clear hbw
              try simp only [bne_iff_ne, ne_eq, bne_eq_false_iff_eq] at *
              rw [epOk_iff]
              omega
            go_roundg (l.length - i)
            case rel => exact ⟨i + 1, ⟨by go_num⟩, ⟨by omega, by omega⟩, ⟨by rw [HD.out, hyes]; rfl⟩, ⟨by repeat (first | exact hbw | apply below_dn)⟩⟩
            case measure => have := HQ.out; omega
        · obtain rfl : i = l.length := by omega
          go_wp2_with fail
          go_ret
          refine ⟨?_, HB.out⟩
          rw [H1.out, HF.out, List.drop_length]
          rfl
    | true =>
      have hne : ((l.length : Int) != 2) = false := by simpa [wantE] using hlen
      have hl2 : l.length = 2 := by simp [wantE] at hlen; omega
      have HL2 := Aside0.mk hl2
      have g0 : 0 < l.length := by omega
      have g1 : 1 < l.length := by omega
      have gi1 : (1 : Int) < (l.length : Int) := by omega
      clear hl2
      obtain ⟨ad, e0, a0, a1, a2, a3, a4⟩ := at_T91 HR.out 0 (by omega) (by omega)
      obtain ⟨ad2, e2, b0, b1, b2, b3, b4⟩ := at_T91 HR.out 1 (by omega) (by omega)
      obtain rfl : ad = ad2 := Option.some.inj (e0.symm.trans e2)
      have h0x : rd_T91 l 0 = l[0]'g0 := by
        unfold rd_T91
        rw [List.getD_eq_getElem?_getD, List.getElem?_eq_getElem (by exact g0)]
        rfl
      have h1x : rd_T91 l 1 = l[1]'g1 := by
        unfold rd_T91
        rw [List.getD_eq_getElem?_getD, List.getElem?_eq_getElem (by exact g1)]
        rfl
      rw [h0x] at a0
      rw [h1x] at b0
      have ea : ad.add (Int.toNat 0 * 5) = ad := by simp [Addr.add]
      rw [ea] at a0
      replace b0 : w.cell? ⟨ad.block, ad.off + 5, none⟩ = some (.int .u64 (l[1]'g1).f0) := b0
      clear ea
      have mv : ∀ {a : Addr} {u : Value}, w.cell? a = some u → (w.alloc (.cells #[v0, v1, v2, v3, v4, v5, v6, v7, v8, v9, v10, v11, .slice A l.length c, v13, .bool true, v15, v16, v17, v18, v19, v20, v21, v22, v23, v24, v25, v26] 36)).cell? a = some u := fun h => ((b_alloc w _).cell (World.block_lt_of_cell? w _ h)).trans h
      replace a0 := mv a0
      replace b0 := mv b0
      clear mv a1 a2 a3 a4 b1 b2 b3 b4 h0x h1x e2
      have hrs : rises l = decide (l[0].f0 < l[1].f0) := by
        match l, HL2.out with
        | [a, b], _ => rfl
      cases e0
      by_cases hr : l[1].f0 ≤ l[0].f0
      · have hr' : decide (l[1].f0 ≤ l[0].f0) = true := decide_eq_true hr
        have H1 : Aside0 (epochsB true l = false) := ⟨by simp [epochsB, hrs]; omega⟩
        clear hlen hr hrs
        go_enter Tryz.func27, Tryz.ntmps27
        go_wp2_with fail
        go_quiet (fail)
        go_wp2_with fail
        go_ret
        exact ⟨by rw [H1.out]; rfl, by repeat (first | exact HZ.out | apply below_dn)⟩
      · have hr' : decide (l[1].f0 ≤ l[0].f0) = false := decide_eq_false hr
        have H1 : Aside0 (epochsB true l = l.all epOk) := ⟨by
          have : rises l = true := by rw [hrs]; exact decide_eq_true (by omega)
          simp [epochsB, hlen, this]⟩
        clear hlen hr hrs
        go_enter Tryz.func27, Tryz.ntmps27
        go_wp2_with fail
        go_quiet (fail)
        go_wp2_with fail
        clear a0 b0
        go_loopg [36] (l.length + 1) (fun kq v36 wr => ∃ i : Nat, Aside0 (v36 = .int .i64 (i : Int)) ∧ Aside0 (i ≤ l.length ∧ kq + i = l.length + 1) ∧ Aside0 (l.all epOk = (l.drop i).all epOk) ∧ Aside0 (Below w.heap.size w wr))
        case atStart => exact ⟨0, ⟨rfl⟩, ⟨by omega⟩, ⟨rfl⟩, ⟨by repeat (first | exact HZ.out | apply below_dn)⟩⟩
        case round =>
          obtain ⟨i, H36, HI, HF, HB⟩ := hrel
          obtain rfl := H36.out
          obtain ⟨hi, hk⟩ := HI.out
          have HQ := Aside0.mk hk
          clear hk
          by_cases hlt : i < l.length
          · obtain ⟨ad, e, c0, c1, c2, c3, c4⟩ := at_T91 HR.out (i : Int) (by omega) (by omega)
            have hx : rd_T91 l (i : Int) = l[i] := by
              unfold rd_T91
              rw [Int.toNat_natCast, List.getD_eq_getElem?_getD, List.getElem?_eq_getElem hlt]
              rfl
            rw [hx] at c0 c1 c2 c3 c4
            rw [Int.toNat_natCast] at c0 c1 c2 c3 c4
            have mv : ∀ {a : Addr} {u : Value}, w.cell? a = some u → wr.cell? a = some u := fun h => (HB.out.cell (World.block_lt_of_cell? w _ h)).trans h
            replace c0 := mv c0
            replace c1 := mv c1
            replace c2 := mv c2
            replace c3 := mv c3
            replace c4 := mv c4
            clear mv hx
            have HD : Aside0 (l.all epOk = (epOk l[i] && (l.drop (i + 1)).all epOk)) := ⟨by
              rw [HF.out, List.drop_eq_getElem_cons hlt]
              rfl⟩
            have HSr : Aside0 (SizesAt wr gs o) := ⟨HS.out.later HB.out⟩
            obtain ⟨kb0, kb1⟩ := keyRes_bd l[i].f1.data.toList
            try cases e
            go_wp2_with (first | (go_at_call 50; refine (key_call2 l[i].f1 gs o _ (HSr.out.later (b_alloc wr _))).mono ?_; rintro e W1 ⟨rfl, hb1⟩; have q := (hb1.block _ (blk_lt (blk_new wr (.cells #[.int .u64 l[i].f0, .string l[i].f1, .string l[i].f2, .string l[i].f3, .string l[i].f4] 91)))).trans (blk_new wr _); have q0 : W1.cell? ⟨wr.heap.size, 0, none⟩ = some (.int .u64 l[i].f0) := (blk_cell q 0).trans rfl; have q2 : W1.cell? ⟨wr.heap.size, 2, none⟩ = some (.string l[i].f2) := (blk_cell q 2).trans rfl; have q3 : W1.cell? ⟨wr.heap.size, 3, none⟩ = some (.string l[i].f3) := (blk_cell q 3).trans rfl; have q4 : W1.cell? ⟨wr.heap.size, 4, none⟩ = some (.string l[i].f4) := (blk_cell q 4).trans rfl; have HB1 := Aside0.mk hb1; clear hb1 q) | fail)
            all_goals have hbw : Below w.heap.size w W1 := (HB.out.alloc HB.out.size _).trans (HB1.out.mono (by simp; have := HB.out.size; omega))
            all_goals clear c0 c1 c2 c3 c4 q0 q2 q3 q4
            all_goals try (
              go_ret
              refine ⟨?_, ?_⟩
              · rw [H1.out, HD.out]
                have hno : epOk l[i] = false := by
                  clear hbw
                  try simp only [bne_iff_ne, ne_eq, bne_eq_false_iff_eq] at *
                  rw [Bool.eq_false_iff, ne_eq, epOk_iff]
                  omega
                rw [hno]
                rfl
              · exact hbw)
            all_goals
              have hyes : epOk l[i] = true := by
                clear hbw
                try simp only [bne_iff_ne, ne_eq, bne_eq_false_iff_eq] at *
                rw [epOk_iff]
                omega
              go_roundg (l.length - i)
              case rel => exact ⟨i + 1, ⟨by go_num⟩, ⟨by omega, by omega⟩, ⟨by rw [HD.out, hyes]; rfl⟩, ⟨by repeat (first | exact hbw | apply below_dn)⟩⟩
              case measure => have := HQ.out; omega
          · obtain rfl : i = l.length := by omega
            go_wp2_with fail
            go_ret
            refine ⟨?_, HB.out⟩
            rw [H1.out, HF.out, List.drop_length]
            rfl
  · have HL := Aside0.mk hlen
    cases on with
    | false =>
      have hne : ((l.length : Int) != 1) = true := by simpa [wantE] using hlen
      clear hlen
      go_enter Tryz.func27, Tryz.ntmps27
      go_wp2_with fail
      go_quiet (fail)
      go_wp2_with fail
      go_ret
      exact ⟨by simp [epochsB, HL.out], by repeat (first | exact HZ.out | apply below_dn)⟩
    | true =>
      have hne : ((l.length : Int) != 2) = true := by simpa [wantE] using hlen
      clear hlen
      go_enter Tryz.func27, Tryz.ntmps27
      go_wp2_with fail
      go_quiet (fail)
      go_wp2_with fail
      go_ret
      exact ⟨by simp [epochsB, HL.out], by repeat (first | exact HZ.out | apply below_dn)⟩
end Go.Proofs.YtpmbfibjldnaiaaGreatDoor.epa
