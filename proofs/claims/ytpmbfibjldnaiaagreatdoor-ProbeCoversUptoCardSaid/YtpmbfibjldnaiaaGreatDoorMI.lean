/- Is there a keyslot of a number? Tokens that may be. (Written by gtok.py.) (Merged by merge.py.) -/
import Derived.Test.YtpmbfibjldnaiaaGreatDoorMH
import Derived.Test.YtpmbfibjldnaiaaGreatDoorMD
import Derived.Test.YtpmbfibjldnaiaaGreatDoorShelf
/-! ## TokA -/
namespace Go.Proofs.YtpmbfibjldnaiaaGreatDoor.toka
open Go Go.RowKit Go.Proofs.YtpmbfibjldnaiaaGreatDoor.shapea Go.Proofs.YtpmbfibjldnaiaaGreatDoor.risea Go.Proofs.YtpmbfibjldnaiaaGreatDoor.slotsa Go.Proofs.YtpmbfibjldnaiaaGreatDoor.rota Go.Proofs.YtpmbfibjldnaiaaGreatDoor.rula Go.Proofs.YtpmbfibjldnaiaaGreatDoor.PProbeSpots Go.Proofs.YtpmbfibjldnaiaaGreatDoorW.PrintWords
set_option linter.unusedVariables false
set_option linter.unusedSimpArgs false
set_option maxHeartbeats 1000000 in
set_option maxRecDepth 100000 in
theorem isNo_call (x : S53) (n : Int) (bn : Nat) (w : World) (hn : w.cell? ⟨bn, 0, none⟩ = some (.int .i64 n)) (hlt : bn < w.heap.size) :
    Calls Tryz.prog 58 #[.agg #[.int .i64 x.f0, .int .i64 x.f1, .int .i64 x.f2, .int .i64 x.f3, .string x.f4, .string x.f5, .int .i64 x.f6, .int .i64 x.f7.f0, .int .i64 x.f7.f1], .pointer (some ⟨bn, 0, none⟩)] w fun e w' => e = .returned (.bool (x.f0 == n)) ∧ Below w.heap.size w w' := by
  have hm2 : (w.alloc (.cells #[.int .i64 x.f0, .int .i64 x.f1, .int .i64 x.f2, .int .i64 x.f3, .string x.f4, .string x.f5, .int .i64 x.f6, .int .i64 x.f7.f0, .int .i64 x.f7.f1] 53)).cell? ⟨bn, 0, none⟩ = some (.int .i64 n) := ((b_alloc w _).cell (p := ⟨bn, 0, none⟩) hlt).trans hn
  go_enter Tryz.func58, Tryz.ntmps58
  go_wp2_with fail
  go_ret
  exact ⟨rfl, b_alloc w _⟩
/-- Where the number lies. -/
def findN (n : Int) : List S53 → Nat → Int
  | [], _ => -1
  | x :: t, i => if x.f0 = n then (i : Int) else findN n t (i + 1)
theorem findN_any (n : Int) : ∀ (l : List S53) (i : Nat), decide (0 ≤ findN n l i) = l.any (fun x => x.f0 == n)
  | [], i => rfl
  | x :: t, i => by
    unfold findN
    by_cases h : x.f0 = n
    · rw [if_pos h]
      simp [h]
    · rw [if_neg h, findN_any n t (i + 1)]
      simp [h]
set_option maxHeartbeats 2000000 in
set_option maxRecDepth 100000 in
theorem indexN_call (A : Option Addr) (c : Nat) (l : List S53) (n : Int) (bn : Nat) (w : World) (hR : Kd.C k53 w A l.length l) (hl : l.length ≤ 4611686018427387904) (hn : w.cell? ⟨bn, 0, none⟩ = some (.int .i64 n)) (hlt : bn < w.heap.size) :
    Calls Tryz.prog 93 #[.slice A l.length c, .func (.func 58) #[] #[.pointer (some ⟨bn, 0, none⟩)]] w fun e w' => e = .returned (.int .i64 (findN n l 0)) ∧ Below w.heap.size w w' := by
  have HR := Aside0.mk hR
  have HN := Aside0.mk hn
  clear hR hn
  go_enter Tryz.func93, Tryz.ntmps93
  go_wp2_with fail
  go_loopg [8] (l.length + 1) (fun kq v8 wr => ∃ i : Nat, Aside0 (v8 = .int .i64 (i : Int)) ∧ Aside0 (i ≤ l.length ∧ kq + i = l.length + 1) ∧ Aside0 (findN n l 0 = findN n (l.drop i) i) ∧ Aside0 (Below w.heap.size w wr))
  case atStart => exact ⟨0, ⟨rfl⟩, ⟨by omega⟩, ⟨rfl⟩, ⟨Below.refl _ _⟩⟩
  case round =>
    obtain ⟨i, H8, HI, HF, HB⟩ := hrel
    obtain rfl := H8.out
    obtain ⟨hi, hk⟩ := HI.out
    have HQ := Aside0.mk hk
    clear hk
    by_cases hlt : i < l.length
    · obtain ⟨ad, e, c0, c1, c2, c3, c4, c5, c6, c7, c8⟩ := at_T53 HR.out (i : Int) (by omega) (by omega)
      have hx : rd_T53 l (i : Int) = l[i] := by
        unfold rd_T53
        rw [Int.toNat_natCast, List.getD_eq_getElem?_getD, List.getElem?_eq_getElem hlt]
        rfl
      rw [hx] at c0 c1 c2 c3 c4 c5 c6 c7 c8
      rw [Int.toNat_natCast] at c0 c1 c2 c3 c4 c5 c6 c7 c8
      have mv : ∀ {a : Addr} {u : Value}, w.cell? a = some u → wr.cell? a = some u := fun h => (HB.out.cell (World.block_lt_of_cell? w _ h)).trans h
      replace c0 := mv c0
      replace c1 := mv c1
      replace c2 := mv c2
      replace c3 := mv c3
      replace c4 := mv c4
      replace c5 := mv c5
      replace c6 := mv c6
      replace c7 := mv c7
      replace c8 := mv c8
      have HNR := Aside0.mk (mv HN.out)
      clear mv hx
      have HD : Aside0 (findN n l 0 = if l[i].f0 = n then (i : Int) else findN n (l.drop (i + 1)) (i + 1)) := ⟨by
        rw [HF.out, List.drop_eq_getElem_cons hlt]
        rfl⟩
      cases e
      go_wp2_with (first | (go_at_call 58; refine (isNo_call l[i] n bn _ HNR.out (World.block_lt_of_cell? _ _ HNR.out)).mono ?_; rintro e W1 ⟨rfl, hb1⟩) | fail)
      all_goals have hbw : Below w.heap.size w W1 := HB.out.trans (hb1.mono HB.out.size)
      · have h0 : l[i].f0 = n := by simpa using (by assumption : (l[i].f0 == n) = true)
        go_ret
        exact ⟨by rw [HD.out, if_pos h0]; rfl, hbw⟩
      · have h0 : ¬ l[i].f0 = n := by simpa using (by assumption : (l[i].f0 == n) = false)
        go_roundg (l.length - i)
        case rel => exact ⟨i + 1, ⟨by go_num⟩, ⟨by omega, by omega⟩, ⟨by rw [HD.out, if_neg h0]⟩, ⟨hbw⟩⟩
        case measure => have := HQ.out; omega
    · obtain rfl : i = l.length := by omega
      go_wp2_with fail
      go_ret
      refine ⟨?_, HB.out⟩
      rw [HF.out, List.drop_length]
      rfl
def hasNo (l : List S53) (n : Int) : Bool := l.any (fun x => x.f0 == n)
set_option maxHeartbeats 1000000 in
set_option maxRecDepth 100000 in
theorem hasNo_call (A : Option Addr) (c : Nat) (l : List S53) (n : Int) (bn : Nat) (w : World) (hR : Kd.C k53 w A l.length l) (hl : l.length ≤ 4611686018427387904) (hn : w.cell? ⟨bn, 0, none⟩ = some (.int .i64 n)) (hlt : bn < w.heap.size) :
    Calls Tryz.prog 57 #[.slice A l.length c, .func (.func 58) #[] #[.pointer (some ⟨bn, 0, none⟩)]] w fun e w' => e = .returned (.bool (hasNo l n)) ∧ Below w.heap.size w w' := by
  have hi := indexN_call A c l n bn w hR hl hn hlt
  have he := findN_any n l 0
  have HI := Aside0.mk hi
  have HE := Aside0.mk he
  clear hi he
  go_enter Tryz.func57, Tryz.ntmps57
  go_wp2_with (first | (go_at_call 93; refine HI.out.mono ?_; rintro e W1 ⟨rfl, hb1⟩) | fail)
  go_ret
  exact ⟨ret_bool HE.out, hb1⟩
end Go.Proofs.YtpmbfibjldnaiaaGreatDoor.toka
/-! ## TokB -/
namespace Go.Proofs.YtpmbfibjldnaiaaGreatDoor.tokb
open Go Go.RowKit Go.Proofs.YtpmbfibjldnaiaaGreatDoor.shapea Go.Proofs.YtpmbfibjldnaiaaGreatDoor.risea Go.Proofs.YtpmbfibjldnaiaaGreatDoor.riseb Go.Proofs.YtpmbfibjldnaiaaGreatDoor.slotsa Go.Proofs.YtpmbfibjldnaiaaGreatDoor.rota Go.Proofs.YtpmbfibjldnaiaaGreatDoor.rula Go.Proofs.YtpmbfibjldnaiaaGreatDoor.toka Go.Proofs.YtpmbfibjldnaiaaGreatDoor.PProbeSpots Go.Proofs.YtpmbfibjldnaiaaGreatDoorW.PrintWords
set_option linter.unusedVariables false
set_option linter.unusedSimpArgs false
/-- utf8's two tables. -/
def U8At (W : World) : Prop := Lib.Utf8Tabs 2 3 W
theorem U8At.later {W W' : World} (h : U8At W) (hb : Below W.heap.size W W') : U8At W' :=
  ⟨fun c hc => (hb.cell (World.block_lt_of_cell? W _ (h.1 c hc))).trans (h.1 c hc), fun i hi => ⟨(hb.cell (World.block_lt_of_cell? W _ (h.2 i hi).1)).trans (h.2 i hi).1, (hb.cell (World.block_lt_of_cell? W _ (h.2 i hi).2)).trans (h.2 i hi).2⟩⟩
theorem valid_call (s : ByteArray) (w : World) (hs : s.size ≤ 9223372036854775807) (hT : U8At w) : Calls Tryz.prog 90 #[.string s] w fun e w' => e = .returned (.bool (Lib.validD s.data.toList)) ∧ Below w.heap.size w w' := Tryz.utf8_ValidString s w hs hT
def tokMay (t : S98) : Bool := inB t.f0 0 31 && inB (t.f1.size : Int) 1 64 && decide ((t.f3.size : Int) ≤ 4096) && Lib.validD t.f1.data.toList && Lib.validD t.f3.data.toList && riseB 31 (-1) t.f2
set_option maxHeartbeats 4000000 in
set_option maxRecDepth 100000 in
theorem tokenMay_call (t : S98) (A2 : Option Addr) (c2 : Nat) (w : World) (hR : Kd.C (Kd.int .i64) w A2 t.f2.length t.f2) (hl : t.f2.length ≤ 4611686018427387904) (hT : U8At w) :
    Calls Tryz.prog 56 #[.agg #[.int .i64 t.f0, .string t.f1, .slice A2 t.f2.length c2, .string t.f3]] w (RuleEnd w (tokMay t)) := by
  have hz : Below w.heap.size w (w.alloc (.cells #[.int .i64 t.f0, .string t.f1, .slice A2 t.f2.length c2, .string t.f3] 98)) := b_alloc w _
  have hnt := blk_new w (.cells #[.int .i64 t.f0, .string t.f1, .slice A2 t.f2.length c2, .string t.f3] 98)
  have hRC := fun W (hb : Below w.heap.size w W) => riseInts_call A2 c2 t.f2 31 W (Kd.C_below hR hb) hl
  have HRC := Aside0.mk hRC
  have HT := Aside0.mk hT
  have HZ := Aside0.mk hz
  have HNT := Aside0.mk hnt
  clear hR hT hz hRC hnt
  by_cases hs : inB t.f0 0 31 = true ∧ inB (t.f1.size : Int) 1 64 = true ∧ (t.f3.size : Int) ≤ 4096
  · obtain ⟨s1, s2, s3⟩ := hs
    have z1 : t.f1.size ≤ 64 := by
      unfold inB at s2
      simp at s2
      omega
    have z3 : t.f3.size ≤ 4096 := by omega
    have HS : Aside0 (tokMay t = (Lib.validD t.f1.data.toList && Lib.validD t.f3.data.toList && riseB 31 (-1) t.f2)) := ⟨by
      unfold tokMay
      rw [s1, s2, decide_eq_true s3]
      simp [Bool.and_assoc]⟩
    have hs3 : decide (4096 < (t.f3.size : Int)) = false := decide_eq_false (by omega)
    have HV1 := Aside0.mk (fun W (hb : Below w.heap.size w W) => valid_call t.f1 W (by omega) (HT.out.later hb))
    have HV3 := Aside0.mk (fun W (hb : Below w.heap.size w W) => valid_call t.f3 W (by omega) (HT.out.later hb))
    generalize Lib.validD t.f1.data.toList = b1 at *
    generalize Lib.validD t.f3.data.toList = b3 at *
    clear s3
    go_enter Tryz.func56, Tryz.ntmps56
    go_wp2_with (first | (go_at_call 25; refine (within_call _ _ _ _).mono ?_; rintro e w' ⟨rfl, m, rfl⟩) | fail)
    refine (HV1.out _ (by repeat (first | exact HZ.out | apply below_dn))).mono ?_
    rintro e W1 ⟨rfl, hb1⟩
    have q := (hb1.block _ (by simp)).trans HNT.out
    have q2 : W1.cell? ⟨w.heap.size, 2, none⟩ = some (.slice A2 t.f2.length c2) := (blk_cell q 2).trans rfl
    have q3 : W1.cell? ⟨w.heap.size, 3, none⟩ = some (.string t.f3) := (blk_cell q 3).trans rfl
    have HB1 := Aside0.mk (rula.below_step (by repeat (first | exact HZ.out | apply below_dn)) hb1)
    have HQ := Aside0.mk q
    clear hb1 q
    cases b1 with
    | false =>
      go_wp2_with fail
      go_ret
      exact ⟨by rw [HS.out]; rfl, by repeat (first | exact HB1.out | apply below_dn)⟩
    | true =>
      go_wp2_with fail
      refine (HV3.out _ (by repeat (first | exact HB1.out | apply below_dn))).mono ?_
      rintro e W2 ⟨rfl, hb2⟩
      have q' := (hb2.block _ (blk_lt HQ.out)).trans HQ.out
      have p2 : W2.cell? ⟨w.heap.size, 2, none⟩ = some (.slice A2 t.f2.length c2) := (blk_cell q' 2).trans rfl
      have HB2 := Aside0.mk (rula.below_step HB1.out hb2)
      clear hb2 q'
      cases b3 with
      | false =>
        go_wp2_with fail
        go_ret
        exact ⟨by rw [HS.out]; rfl, by repeat (first | exact HB2.out | apply below_dn)⟩
      | true =>
        go_wp2_with (first | (go_at_call 91; refine (HRC.out _ HB2.out).mono ?_; rintro e W3 ⟨rfl, hb3⟩) | fail)
        go_ret
        exact ⟨by rw [HS.out]; rfl, rula.below_step HB2.out hb3⟩
  · have HS : Aside0 (tokMay t = false) := ⟨by
      unfold tokMay
      by_cases s1 : inB t.f0 0 31 = true
      · by_cases s2 : inB (t.f1.size : Int) 1 64 = true
        · rw [decide_eq_false (fun h => hs ⟨s1, s2, h⟩)]
          simp
        · simp only [Bool.not_eq_true] at s2
          rw [s2]
          simp
      · simp only [Bool.not_eq_true] at s1
        rw [s1]
        simp⟩
    have HNO := Aside0.mk hs
    clear hs
    go_enter Tryz.func56, Tryz.ntmps56
    go_wp2_with (first | (go_at_call 25; refine (within_call _ _ _ _).mono ?_; rintro e w' ⟨rfl, m, rfl⟩) | fail)
    all_goals try (
      go_ret
      exact ⟨by rw [HS.out]; rfl, by repeat (first | exact HZ.out | apply below_dn)⟩)
    all_goals (exfalso; exact HNO.out ⟨by assumption, by assumption, by omega⟩)
/-- A token that may be, of keyslots that are there. -/
def tokOk (l : List S53) (t : S98) : Bool := tokMay t && t.f2.all (hasNo l)
def tokensB (l : List S53) (tl : List S98) : Bool := decide ((tl.length : Int) ≤ 32) && riseB 31 (-1) (tl.map (·.f0)) && tl.all (tokOk l)
theorem all_step {α : Type} (f : α → Bool) (l : List α) (i : Nat) (h : i < l.length) : (l.drop i).all f = (f l[i] && (l.drop (i + 1)).all f) := by
  rw [List.drop_eq_getElem_cons h]; rfl
set_option maxHeartbeats 8000000 in
set_option maxRecDepth 100000 in
theorem tokens_call (v0 v1 v2 v3 v4 v5 v6 v7 v8 v9 v10 v12 v13 v14 v15 v16 v17 v18 v19 v20 v21 v22 v23 v24 v25 : Value) (A T : Option Addr) (c cT : Nat) (l : List S53) (tl : List S98) (w : World) (hR : Kd.C k53 w A l.length l) (hl : l.length ≤ 1000000) (hTk : Kd.C k98 w T tl.length tl) (htl : tl.length ≤ 4611686018427387904) (hin : ∀ t ∈ tl, t.f2.length ≤ 4611686018427387904) (hU8 : U8At w) :
    Calls Tryz.prog 33 #[.agg #[v0, v1, v2, v3, v4, v5, v6, v7, v8, v9, v10, .slice A l.length c, v12, v13, v14, v15, v16, v17, v18, v19, v20, v21, v22, v23, v24, v25, .slice T tl.length cT]] w (RuleEnd w (tokensB l tl)) := by
  have hmf : ∀ (fn : Fn) (first cap : Array Value) (w : World), (Instr.makeFunc fn first cap).run Tryz.prog w = .ok (.func fn first cap) w := fun _ _ _ _ => rfl
  have hz : Below w.heap.size w (w.alloc (.cells #[v0, v1, v2, v3, v4, v5, v6, v7, v8, v9, v10, .slice A l.length c, v12, v13, v14, v15, v16, v17, v18, v19, v20, v21, v22, v23, v24, v25, .slice T tl.length cT] 36)) := b_alloc w _
  have HNM := Aside0.mk (blk_new w (.cells #[v0, v1, v2, v3, v4, v5, v6, v7, v8, v9, v10, .slice A l.length c, v12, v13, v14, v15, v16, v17, v18, v19, v20, v21, v22, v23, v24, v25, .slice T tl.length cT] 36))
  have hRC := fun W (hb : Below w.heap.size w W) => riseToks_call T cT tl 31 W (Kd.C_below hTk hb) htl
  have HRC := Aside0.mk hRC
  have HR := Aside0.mk hR
  have HTK := Aside0.mk hTk
  have HIN := Aside0.mk hin
  have HU8 := Aside0.mk hU8
  have HZ := Aside0.mk hz
  clear hRC hR hTk hin hU8 hz
  by_cases h32 : (tl.length : Int) ≤ 32
  · have h32' : decide (32 < (tl.length : Int)) = false := decide_eq_false (by omega)
    cases hri : riseB 31 (-1) (tl.map (·.f0)) with
    | false =>
      have HRI := Aside0.mk (fun W hb => hri ▸ HRC.out W hb)
      have HNO : Aside0 (tokensB l tl = false) := ⟨by simp [tokensB, hri]⟩
      clear hri h32 HRC
      go_enter Tryz.func33, Tryz.ntmps33
      go_wp2_with (first | (go_at_call 54; refine (HRI.out _ HZ.out).mono ?_; rintro e W1 ⟨rfl, hb1⟩) | fail)
      go_ret
      exact ⟨by rw [HNO.out]; rfl, rula.below_step HZ.out hb1⟩
    | true =>
      have HRI := Aside0.mk (fun W hb => hri ▸ HRC.out W hb)
      have HYE : Aside0 (tokensB l tl = tl.all (tokOk l)) := ⟨by simp [tokensB, hri, h32]⟩
      clear hri h32 HRC
      go_enter Tryz.func33, Tryz.ntmps33
      go_wp2_with fail
      refine (HRI.out _ HZ.out).mono ?_
      rintro e W1 ⟨rfl, hb1⟩
      have qm := (hb1.block _ (blk_lt HNM.out)).trans HNM.out
      have m26 : W1.cell? ⟨w.heap.size, 26, none⟩ = some (.slice T tl.length cT) := (blk_cell qm 26).trans rfl
      have HW1 : Aside0 (Below (w.heap.size + 1) (w.alloc (.cells #[v0, v1, v2, v3, v4, v5, v6, v7, v8, v9, v10, .slice A l.length c, v12, v13, v14, v15, v16, v17, v18, v19, v20, v21, v22, v23, v24, v25, .slice T tl.length cT] 36)) W1) := ⟨hb1.mono (by simp)⟩
      clear hb1 qm
      go_wp2_with fail
      go_loopg [20] (tl.length + 1) (fun kq s20 wr => ∃ i : Nat, Aside0 (s20 = .int .i64 (i : Int)) ∧ Aside0 (i ≤ tl.length ∧ kq + i = tl.length + 1) ∧ Aside0 (tl.all (tokOk l) = (tl.drop i).all (tokOk l)) ∧ Aside0 (Below (w.heap.size + 1) (w.alloc (.cells #[v0, v1, v2, v3, v4, v5, v6, v7, v8, v9, v10, .slice A l.length c, v12, v13, v14, v15, v16, v17, v18, v19, v20, v21, v22, v23, v24, v25, .slice T tl.length cT] 36)) wr))
      case atStart => exact ⟨0, ⟨rfl⟩, ⟨by omega⟩, ⟨rfl⟩, HW1⟩
      case round =>
        obtain ⟨i, H20, HI, HF, HB⟩ := hrel
        obtain rfl := H20.out
        obtain ⟨hi, hk⟩ := HI.out
        have HQ := Aside0.mk hk
        clear hk
        have hbs : w.heap.size + 1 ≤ wr.heap.size := by have := HB.out.size; simp at this; omega
        have HBW : Aside0 (Below w.heap.size w wr) := ⟨HZ.out.trans (HB.out.mono (Nat.le_succ _))⟩
        by_cases hlt : i < tl.length
        · obtain ⟨ad, A2, c2, e, c0, c1, c2', c3, g1, g2⟩ := at_T98 HTK.out (i : Int) (by omega) (by omega)
          have hx : rd_T98 tl (i : Int) = tl[i] := by
            unfold rd_T98
            rw [Int.toNat_natCast, List.getD_eq_getElem?_getD, List.getElem?_eq_getElem hlt]
            rfl
          rw [hx] at c0 c1 c2' c3 g1 g2
          rw [Int.toNat_natCast] at c0 c1 c2' c3
          have mv : ∀ {a : Addr} {u : Value}, w.cell? a = some u → wr.cell? a = some u := fun h => (HBW.out.cell (World.block_lt_of_cell? w _ h)).trans h
          replace c0 := mv c0
          replace c1 := mv c1
          replace c2' := mv c2'
          replace c3 := mv c3
          have HD : Aside0 (tokensB l tl = (tokOk l tl[i] && (tl.drop (i + 1)).all (tokOk l))) := ⟨by rw [HYE.out, HF.out, all_step (tokOk l) tl i hlt]⟩
          have hfl := HIN.out tl[i] (List.getElem_mem hlt)
          obtain ⟨t, ht⟩ : ∃ t, tl[i] = t := ⟨_, rfl⟩
          rw [ht] at c0 c1 c2' c3 g1 g2 HD hfl
          have HG2 := Aside0.mk g2
          have HTM := Aside0.mk (fun W (hb : Below w.heap.size w W) => tokenMay_call t A2 c2 W (Kd.C_below g2 hb) hfl (HU8.out.later hb))
          clear mv hx g1 g2 ht
          cases e
          go_wp2_with fail
          refine (HTM.out _ (HBW.out.alloc HBW.out.size _)).mono ?_
          rintro e W2 ⟨rfl, hb2⟩
          have qt := (hb2.block _ (by simp)).trans (blk_new wr (.cells #[.int .i64 t.f0, .string t.f1, .slice A2 t.f2.length c2, .string t.f3] 98))
          have t2 : W2.cell? ⟨wr.heap.size, 2, none⟩ = some (.slice A2 t.f2.length c2) := (blk_cell qt 2).trans rfl
          have HB2 : Aside0 (Below (w.heap.size + 1) (w.alloc (.cells #[v0, v1, v2, v3, v4, v5, v6, v7, v8, v9, v10, .slice A l.length c, v12, v13, v14, v15, v16, v17, v18, v19, v20, v21, v22, v23, v24, v25, .slice (some ad) tl.length cT] 36)) W2) := ⟨(HB.out.alloc hbs _).trans (hb2.mono (by simp; omega))⟩
          clear hb2 qt
          cases htm : tokMay t with
          | false =>
            have HNO : Aside0 (tokensB l tl = false) := ⟨by rw [HD.out]; simp [tokOk, htm]⟩
            go_wp2_with fail
            go_ret
            exact ⟨by rw [HNO.out]; rfl, HZ.out.trans (HB2.out.mono (Nat.le_succ _))⟩
          | true =>
            have HTO : Aside0 (tokOk l t = t.f2.all (hasNo l)) := ⟨by simp [tokOk, htm]⟩
            go_wp2_with fail
            obtain ⟨wo, rfl⟩ : ∃ wo : World, wo = wr := ⟨_, rfl⟩
            go_loopg [30] (t.f2.length + 1) (fun kq s30 wr => ∃ j : Nat, Aside0 (s30 = .int .i64 (j : Int)) ∧ Aside0 (j ≤ t.f2.length ∧ kq + j = t.f2.length + 1) ∧ Aside0 (t.f2.all (hasNo l) = (t.f2.drop j).all (hasNo l)) ∧ Aside0 (Below (w.heap.size + 1) (w.alloc (.cells #[v0, v1, v2, v3, v4, v5, v6, v7, v8, v9, v10, .slice A l.length c, v12, v13, v14, v15, v16, v17, v18, v19, v20, v21, v22, v23, v24, v25, .slice (some ad) tl.length cT] 36)) wr))
            case atStart => exact ⟨0, ⟨rfl⟩, ⟨by omega⟩, ⟨rfl⟩, HB2⟩
            case round =>
              obtain ⟨j, H30, HJ, HFJ, HB3⟩ := hrel
              obtain rfl := H30.out
              obtain ⟨hj, hkj⟩ := HJ.out
              have HQJ := Aside0.mk hkj
              clear hkj
              have hbs3 : w.heap.size + 1 ≤ wr.heap.size := by have := HB3.out.size; simp at this; omega
              have HBW3 : Aside0 (Below w.heap.size w wr) := ⟨HZ.out.trans (HB3.out.mono (Nat.le_succ _))⟩
              by_cases hjl : j < t.f2.length
              · obtain ⟨hn, hmx, hat⟩ := Kd.reads_of_C (d := (0 : Int)) HG2.out
                obtain ⟨ae, e, hcc⟩ := hat (by omega)
                have d0 : wr.cell? (ae.add j) = some (.int .i64 t.f2[j]) := by
                  have := hcc j hjl
                  rw [List.getD_eq_getElem?_getD, List.getElem?_eq_getElem hjl] at this
                  exact (HBW3.out.cell (World.block_lt_of_cell? w _ this)).trans this
                have m11 : wr.cell? ⟨w.heap.size, 11, none⟩ = some (.slice A l.length c) := (blk_cell ((HB3.out.block _ (Nat.lt_succ_self _)).trans HNM.out) 11).trans rfl
                have hlw : w.heap.size < wr.heap.size := by omega
                have HDJ : Aside0 (t.f2.all (hasNo l) = (hasNo l t.f2[j] && (t.f2.drop (j + 1)).all (hasNo l))) := ⟨by rw [HFJ.out, all_step (hasNo l) t.f2 j hjl]⟩
                clear hcc hat hn hmx
                cases e
                go_wp2_with fail
                refine (hasNo_call A c l t.f2[j] wr.heap.size _ (Kd.C_below HR.out (HBW3.out.alloc HBW3.out.size _)) (by omega) ((blk_cell (blk_new wr (.cells #[.int .i64 t.f2[j]] 3)) 0).trans rfl) (by simp)).mono ?_
                rintro e W3 ⟨rfl, hb3⟩
                have HB4 : Aside0 (Below (w.heap.size + 1) (w.alloc (.cells #[v0, v1, v2, v3, v4, v5, v6, v7, v8, v9, v10, .slice A l.length c, v12, v13, v14, v15, v16, v17, v18, v19, v20, v21, v22, v23, v24, v25, .slice (some ad) tl.length cT] 36)) W3) := ⟨(HB3.out.alloc hbs3 _).trans (hb3.mono (by simp; omega))⟩
                clear hb3
                cases hno : hasNo l t.f2[j] with
                | false =>
                  have HNO : Aside0 (tokensB l tl = false) := ⟨by rw [HD.out, HTO.out, HDJ.out, hno]; simp⟩
                  clear hno
                  go_wp2_with fail
                  go_ret
                  exact ⟨by rw [HNO.out]; rfl, HZ.out.trans (HB4.out.mono (Nat.le_succ _))⟩
                | true =>
                  have HYJ : Aside0 (t.f2.all (hasNo l) = (t.f2.drop (j + 1)).all (hasNo l)) := ⟨by rw [HDJ.out, hno]; rfl⟩
                  clear hno
                  go_wp2_with fail
                  go_roundg (t.f2.length - j)
                  case rel => exact ⟨j + 1, ⟨by go_num⟩, ⟨by omega, by omega⟩, HYJ, HB4⟩
                  case measure => have := HQJ.out; omega
              · obtain rfl : j = t.f2.length := by omega
                have HYT : Aside0 (tokOk l t = true) := ⟨by rw [HTO.out, HFJ.out, List.drop_length]; rfl⟩
                have HDT : Aside0 (tl.all (tokOk l) = (tl.drop (i + 1)).all (tokOk l)) := ⟨by rw [← HYE.out, HD.out, HYT.out]; rfl⟩
                go_wp2_with fail
                go_roundg (tl.length - i)
                case rel => exact ⟨i + 1, ⟨by go_num⟩, ⟨by omega, by omega⟩, HDT, HB3⟩
                case measure => have := HQ.out; omega
        · obtain rfl : i = tl.length := by omega
          go_wp2_with fail
          go_ret
          refine ⟨?_, HBW.out⟩
          rw [HYE.out, HF.out, List.drop_length]
          rfl
  · have h32' : decide (32 < (tl.length : Int)) = true := decide_eq_true (by omega)
    have HNO : Aside0 (tokensB l tl = false) := ⟨by unfold tokensB; rw [decide_eq_false h32]; rfl⟩
    clear h32 HRC
    go_enter Tryz.func33, Tryz.ntmps33
    go_wp2_with fail
    go_ret
    exact ⟨by rw [HNO.out]; rfl, HZ.out⟩
end Go.Proofs.YtpmbfibjldnaiaaGreatDoor.tokb
