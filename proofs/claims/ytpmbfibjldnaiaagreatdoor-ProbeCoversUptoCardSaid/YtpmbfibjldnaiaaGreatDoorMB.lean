/- The shape of a device: its sectors of data. The sizes of areas. Numbers that rise: of keyslots. What lies on a device goes through it without a gap: plain words, no program in sight. (Merged by merge.py.) -/
import Derived.Test.YtpmbfibjldnaiaaGreatDoorMA
import Derived.Laws.Entries
/-! ## ShapeA -/
namespace Go.Proofs.YtpmbfibjldnaiaaGreatDoor.shapea
open Go Go.RowKit Go.Proofs.YtpmbfibjldnaiaaGreatDoor.PProbeSpots Go.Proofs.YtpmbfibjldnaiaaGreatDoorW.PrintWords
set_option linter.unusedVariables false
set_option linter.unusedSimpArgs false
/-- The units lie in their block. -/
structure UnitsAt (W : World) : Prop where
  at_ : ∀ i (n : Int), [(512 : Int), 1024, 2048, 4096][i]? = some n → W.cell? ⟨0, i, none⟩ = some (.int .i64 n)
  lt : 0 < W.heap.size
theorem UnitsAt.later {W W' : World} (h : UnitsAt W) (hb : Below W.heap.size W W') : UnitsAt W' :=
  ⟨fun i n hn => (hb.cell (p := ⟨0, i, none⟩) h.lt).trans (h.at_ i n hn), Nat.lt_of_lt_of_le h.lt hb.size⟩
theorem UnitsAt.drewN {W : World} (h : UnitsAt W) (n : Nat) : UnitsAt (W.drewN n) := ⟨h.at_, h.lt⟩
def isUnit (v : Int) : Bool := v == 512 || v == 1024 || v == 2048 || v == 4096
theorem index_step (v : Int) (k : Nat) (i : Nat) (n : Int) (h : [(512 : Int), 1024, 2048, 4096][i]? = some n) : slices_Index_int_int.l0 (k + 1) [512, 1024, 2048, 4096] v 4 (i : Int) = if v = n then some (i : Int) else slices_Index_int_int.l0 k [512, 1024, 2048, 4096] v 4 ((i + 1 : Nat) : Int) := by
  have hi : i < 4 := (List.getElem?_eq_some_iff.1 h).1
  simp only [slices_Index_int_int.l0]
  have hr : rd [(512 : Int), 1024, 2048, 4096] (i : Int) = n := by
    unfold rd
    rw [Int.toNat_natCast, List.getD_eq_getElem?_getD, h]
    rfl
  have hw : wrap64 ((i : Int) + 1) = ((i + 1 : Nat) : Int) := by rw [IntWalk.wrap64_in _ (by omega)]; push_cast; rfl
  rw [if_pos (by omega), if_pos (by omega), if_pos (by show (i : Int) < 4; omega), hr, hw]
theorem index_end (v : Int) (k : Nat) : slices_Index_int_int.l0 (k + 1) [512, 1024, 2048, 4096] v 4 ((4 : Nat) : Int) = some (-1) := by
  simp only [slices_Index_int_int.l0]
  rw [if_neg (by decide)]
theorem contains_f (v : Int) : slices_Contains_int_int.f 8 [512, 1024, 2048, 4096] v = some (isUnit v) := by
  have e : slices_Index_int_int.f 8 [512, 1024, 2048, 4096] v = if v = 512 then some 0 else if v = 1024 then some 1 else if v = 2048 then some 2 else if v = 4096 then some 3 else some (-1) := by
    show slices_Index_int_int.l0 8 [512, 1024, 2048, 4096] v 4 ((0 : Nat) : Int) = _
    rw [index_step v 7 0 512 rfl, index_step v 6 1 1024 rfl, index_step v 5 2 2048 rfl, index_step v 4 3 4096 rfl, index_end v 3]
    rfl
  unfold slices_Contains_int_int.f
  rw [e]
  unfold isUnit
  by_cases h1 : v = 512
  · subst h1; rfl
  · by_cases h2 : v = 1024
    · subst h2; rfl
    · by_cases h3 : v = 2048
      · subst h3; rfl
      · by_cases h4 : v = 4096
        · subst h4; rfl
        · rw [if_neg h1, if_neg h2, if_neg h3, if_neg h4]
          simp [h1, h2, h3, h4]
theorem UnitsAt.reads {W : World} (h : UnitsAt W) : Kd.C (Kd.int .i64) W (some ⟨0, 0, none⟩) 4 [512, 1024, 2048, 4096] :=
  Kd.C_of_reads (d := (0 : Int)) ⟨rfl, by omega, fun _ => ⟨⟨0, 0, none⟩, rfl, fun j hj => by
    have hl : j < [(512 : Int), 1024, 2048, 4096].length := hj
    have := h.at_ j _ (List.getElem?_eq_getElem hl)
    have e : ((⟨0, 0, none⟩ : Addr).add j) = ⟨0, j, none⟩ := by first | (simp [Addr.add]; done) | (simp [Addr.add]; intro h0; omega)
    rw [e, this, List.getD_eq_getElem?_getD, List.getElem?_eq_getElem hl]
    rfl⟩⟩
theorem contains_call (v : Int) (W : World) (h : UnitsAt W) : Calls Tryz.prog 46 #[.slice (some ⟨0, 0, none⟩) 4 4, .int .i64 v] W fun e w' => e = .returned (.bool (isUnit v)) ∧ ∃ m, w' = W.drewN m :=
  (slices_Contains_int_int.calls 8 (some ⟨0, 0, none⟩) 4 [512, 1024, 2048, 4096] v _ W h.reads (by decide) (contains_f v)).mono fun e w' ⟨h1, h2⟩ => ⟨h1, h2.out⟩
/-- A power of two. -/
def powB (n : Int) : Bool := if n > 0 then (Go.bits .and .i64 n (wrap64 (n - 1))) == 0 else false
theorem power_call (n : Int) (W : World) : Calls Tryz.prog 47 #[.int .i64 n] W fun e w' => e = .returned (.bool (powB n)) ∧ ∃ m, w' = W.drewN m :=
  (ledger_power.calls n (powB n) W (by unfold ledger_power.f powB; split <;> rfl)).mono fun e w' ⟨h1, h2⟩ => ⟨h1, h2.out⟩
theorem isUnit_bd {u : Int} (h : isUnit u = true) : 512 ≤ u ∧ u ≤ 4096 := by
  unfold isUnit at h
  simp only [Bool.or_eq_true, beq_iff_eq] at h
  omega
theorem b_alloc (w : World) (o : Obj) : Below w.heap.size w (w.alloc o) := (Below.refl _ w).alloc (Nat.le_refl _) o
theorem below_dn {B : Nat} {w W : World} (h : Below B w W) (m : Nat) : Below B w (W.drewN m) := ⟨h.os, h.tape, h.output, h.size, h.block⟩
/-- A shape that may be: its sectors of data; none: it may not be. -/
def secs (u c h k : Int) : Option Int :=
  if isUnit u = true ∧ powB h = true ∧ 16384 ≤ h ∧ h ≤ 4194304 then
    (if 4096 ≤ k ∧ k ≤ 134217728 ∧ k % 4096 = 0 ∧ c ≤ 4294967296 then
      (if c ≤ (2 * h + k) / u then none else some (c - (2 * h + k) / u)) else none) else none
def secsRes (u c h k : Int) : Int × Int := match secs u c h k with
  | none => (0, 90)
  | some n => (n, 0)
theorem secs_bad {u c h k : Int} (h1 : isUnit u = true) (h2 : powB h = true) (a1 : 16384 ≤ h) (a2 : h ≤ 4194304) (hb : ¬ (4096 ≤ k ∧ k ≤ 134217728 ∧ k % 4096 = 0 ∧ c ≤ 4294967296)) : secsRes u c h k = (0, 90) := by
  unfold secsRes secs
  rw [if_pos ⟨h1, h2, a1, a2⟩, if_neg hb]
theorem secs_less {u c h k : Int} (h1 : isUnit u = true) (h2 : powB h = true) (a1 : 16384 ≤ h) (a2 : h ≤ 4194304) (b1 : 4096 ≤ k) (b2 : k ≤ 134217728) (b3 : k % 4096 = 0) (b4 : c ≤ 4294967296) (hl : c ≤ (2 * h + k) / u) : secsRes u c h k = (0, 90) := by
  unfold secsRes secs
  rw [if_pos ⟨h1, h2, a1, a2⟩, if_pos ⟨b1, b2, b3, b4⟩, if_pos hl]
theorem secs_good {u c h k : Int} (h1 : isUnit u = true) (h2 : powB h = true) (a1 : 16384 ≤ h) (a2 : h ≤ 4194304) (b1 : 4096 ≤ k) (b2 : k ≤ 134217728) (b3 : k % 4096 = 0) (b4 : c ≤ 4294967296) (hc0 : 0 ≤ c) (hl : ¬ c ≤ (2 * h + k) / u) : secsRes u c h k = (c - (2 * h + k) / u, 0) := by
  unfold secsRes secs
  rw [if_pos ⟨h1, h2, a1, a2⟩, if_pos ⟨b1, b2, b3, b4⟩, if_neg hl]
theorem secs_wrap {u c h k : Int} (u1 : 512 ≤ u) (a1 : 16384 ≤ h) (b1 : 4096 ≤ k) (b4 : c ≤ 4294967296) (hc0 : 0 ≤ c) (hl : ¬ c ≤ (2 * h + k) / u) (hz : 0 ≤ 2 * h + k) : IntKind.u64.wrap (c - (2 * h + k) / u) = c - (2 * h + k) / u := by
  have hq : 0 ≤ (2 * h + k) / u := Int.ediv_nonneg hz (by omega)
  rw [IntKind.wrap_u64]
  omega
theorem tuple_eq {a b : Int} (h : a = b) : Ending.returned (.tuple #[.int .u64 a, .int .i64 0]) = .returned (.tuple #[.int .u64 b, .int .i64 0]) := by rw [h]
set_option maxHeartbeats 2000000 in
set_option maxRecDepth 100000 in
theorem sectors_call (u c h k : Int) (hc0 : 0 ≤ c) (w : World) (hU : UnitsAt w) : Calls Tryz.prog 23 #[.agg #[.int .i64 u, .int .u64 c, .int .i64 h, .int .i64 k]] w fun e w' => e = .returned (.tuple #[.int .u64 (secsRes u c h k).1, .int .i64 (secsRes u c h k).2]) ∧ Below w.heap.size w w' := by
  have hU1 := hU.later ((Below.refl _ w).alloc (Nat.le_refl _) (.cells #[.int .i64 u, .int .u64 c, .int .i64 h, .int .i64 k] 24))
  have HU := Aside0.mk hU1
  clear hU hU1
  by_cases h1 : isUnit u = true
  · by_cases h2 : powB h = true
    · have u1 : 512 ≤ u ∧ u ≤ 4096 := isUnit_bd h1
      by_cases a1 : h < 16384
      · have a1' : decide (h < 16384) = true := decide_eq_true a1
        have hr : secsRes u c h k = (0, 90) := by unfold secsRes secs; rw [if_neg (fun x => by omega)]
        rw [hr]
        clear hr
        go_enter Tryz.func23, Tryz.ntmps23
        go_wp2_with fail
        go_quiet ((first | (go_at_call 46; exact Calls.quiet_of (contains_call u _ (UnitsAt.drewN HU.out _))) | (go_at_call 47; exact Calls.quiet_of (power_call h _))))
        go_wp2_with fail
        go_ret2
        exact ⟨rfl, below_dn (b_alloc w _) _⟩
      · have a1' : decide (h < 16384) = false := decide_eq_false a1
        by_cases a2 : 4194304 < h
        · have a2' : decide (4194304 < h) = true := decide_eq_true a2
          have hr : secsRes u c h k = (0, 90) := by unfold secsRes secs; rw [if_neg (fun x => by omega)]
          rw [hr]
          clear hr
          go_enter Tryz.func23, Tryz.ntmps23
          go_wp2_with fail
          go_quiet ((first | (go_at_call 46; exact Calls.quiet_of (contains_call u _ (UnitsAt.drewN HU.out _))) | (go_at_call 47; exact Calls.quiet_of (power_call h _))))
          go_wp2_with fail
          go_ret2
          exact ⟨rfl, below_dn (b_alloc w _) _⟩
        · have a2' : decide (4194304 < h) = false := decide_eq_false a2
          go_enter Tryz.func23, Tryz.ntmps23
          go_wp2_with fail
          go_quiet ((first | (go_at_call 46; exact Calls.quiet_of (contains_call u _ (UnitsAt.drewN HU.out _))) | (go_at_call 47; exact Calls.quiet_of (power_call h _))))
          go_wp2_with fail
          all_goals
            go_ret2
            first
              | exact ⟨by rw [secs_bad h1 h2 (by omega) (by omega) (by omega)]; rfl, below_dn (b_alloc w _) _⟩
              | exact ⟨by rw [secs_less h1 h2 (by omega) (by omega) (by omega) (by omega) (by omega) (by omega) (by omega)]; rfl, below_dn (b_alloc w _) _⟩
              | exact ⟨by rw [secs_good h1 h2 (by omega) (by omega) (by omega) (by omega) (by omega) (by omega) hc0 (by omega)]; exact tuple_eq (secs_wrap (by omega) (by omega) (by omega) (by omega) hc0 (by omega) (by omega)), below_dn (b_alloc w _) _⟩
    · have h2' : powB h = false := by simpa using h2
      have hr : secsRes u c h k = (0, 90) := by unfold secsRes secs; rw [if_neg (fun x => h2 x.2.1)]
      rw [hr]
      clear h2 hr
      go_enter Tryz.func23, Tryz.ntmps23
      go_wp2_with fail
      go_quiet ((first | (go_at_call 46; exact Calls.quiet_of (contains_call u _ (UnitsAt.drewN HU.out _))) | (go_at_call 47; exact Calls.quiet_of (power_call h _))))
      go_wp2_with fail
      go_ret2
      exact ⟨rfl, below_dn (b_alloc w _) _⟩
  · have h1' : isUnit u = false := by simpa using h1
    have hr : secsRes u c h k = (0, 90) := by unfold secsRes secs; rw [if_neg (fun x => h1 x.1)]
    rw [hr]
    clear h1 hr
    go_enter Tryz.func23, Tryz.ntmps23
    go_wp2_with fail
    go_quiet ((first | (go_at_call 46; exact Calls.quiet_of (contains_call u _ (UnitsAt.drewN HU.out _))) | (go_at_call 47; exact Calls.quiet_of (power_call h _))))
    go_wp2_with fail
    go_ret2
    exact ⟨rfl, below_dn (b_alloc w _) _⟩
end Go.Proofs.YtpmbfibjldnaiaaGreatDoor.shapea
/-! ## ShapeB -/
namespace Go.Proofs.YtpmbfibjldnaiaaGreatDoor.shapeb
open Go Go.RowKit Go.Proofs.YtpmbfibjldnaiaaGreatDoor.shapea Go.Proofs.YtpmbfibjldnaiaaGreatDoor.PProbeSpots Go.Proofs.YtpmbfibjldnaiaaGreatDoorW.PrintWords
set_option linter.unusedVariables false
set_option linter.unusedSimpArgs false
/-- Rounded up to whole steps. -/
def upv (n : Int) : Int := (n + 4095) / 4096 * 4096
theorem up_f (n : Int) (h0 : 0 ≤ n) (h1 : n ≤ 1099511627776) : ledger_up.f n = some (upv n) := by
  unfold ledger_up.f upv
  rw [IntWalk.wrap64_in (n + 4096) (by omega), IntWalk.wrap64_in (n + 4096 - 1) (by omega)]
  have e1 : n + 4096 - 1 = n + 4095 := by omega
  rw [e1, Int.tdiv_eq_ediv_of_nonneg (by omega), IntWalk.wrap64_in ((n + 4095) / 4096) (by omega), IntWalk.wrap64_in _ (by omega)]
theorem up_call (n : Int) (h0 : 0 ≤ n) (h1 : n ≤ 1099511627776) (W : World) : Calls Tryz.prog 89 #[.int .i64 n] W fun e w' => e = .returned (.int .i64 (upv n)) ∧ ∃ m, w' = W.drewN m :=
  (ledger_up.calls n _ W (up_f n h0 h1)).mono fun e w' ⟨h1, h2⟩ => ⟨h1, h2.out⟩
def slotSize (n : Int) : Int := if n < 1 then 0 else if n > 4000 then 0 else upv (32 * n)
theorem slotSize_call (n : Int) (W : World) : Calls Tryz.prog 52 #[.int .i64 n] W fun e w' => e = .returned (.int .i64 (slotSize n)) ∧ ∃ m, w' = W.drewN m := by
  refine (ledger_SlotSize.calls n (slotSize n) W ?_).mono fun e w' ⟨h1, h2⟩ => ⟨h1, h2.out⟩
  unfold ledger_SlotSize.f slotSize
  by_cases a : n < 1
  · rw [if_pos a, if_pos a]
  · rw [if_neg a, if_neg a]
    by_cases b : n > 4000
    · rw [if_pos b, if_pos b]
    · rw [if_neg b, if_neg b, IntWalk.wrap64_in (32 * n) (by omega), up_f _ (by omega) (by omega)]
      rfl
def journalSize (mode hot unit : Int) : Int := if hot < 1 ∨ hot > 4096 ∨ isUnit unit = false then 0 else if mode = 1 then upv (hot * unit) else if mode = 2 then upv (hot * 32) else 0
set_option maxHeartbeats 2000000 in
set_option maxRecDepth 100000 in
theorem journalSize_call (mode hot unit : Int) (hh : 0 ≤ hot) (w : World) (hU : UnitsAt w) : Calls Tryz.prog 53 #[.int .i64 mode, .int .u64 hot, .int .i64 unit] w fun e w' => e = .returned (.int .i64 (journalSize mode hot unit)) ∧ ∃ m, w' = w.drewN m := by
  have HU := Aside0.mk hU
  clear hU
  by_cases h1 : hot < 1
  · have hr : journalSize mode hot unit = 0 := by unfold journalSize; rw [if_pos (.inl h1)]
    rw [hr]
    clear hr
    go_enter Tryz.func53, Tryz.ntmps53
    go_wp2_with fail
    go_ret
    exact ⟨rfl, 0, rfl⟩
  · by_cases h2 : 4096 < hot
    · have hr : journalSize mode hot unit = 0 := by unfold journalSize; rw [if_pos (.inr (.inl h2))]
      rw [hr]
      clear hr
      go_enter Tryz.func53, Tryz.ntmps53
      go_wp2_with fail
      go_ret
      exact ⟨rfl, 0, rfl⟩
    · by_cases h3 : isUnit unit = true
      · have u1 := isUnit_bd h3
        have hr : journalSize mode hot unit = if mode = 1 then upv (hot * unit) else if mode = 2 then upv (hot * 32) else 0 := by unfold journalSize; rw [if_neg (by simp [h3]; omega)]
        rw [hr]
        clear hr
        have hm1 : 0 ≤ hot * unit := Int.mul_nonneg hh (by omega)
        have hm2 : hot * unit ≤ 16777216 := Int.le_trans (Int.mul_le_mul (by omega : hot ≤ 4096) u1.2 (by omega) (by omega)) (by omega)
        by_cases m1 : mode = 1
        · subst m1
          go_enter Tryz.func53, Tryz.ntmps53
          go_wp2_with (first | (go_at_call 46; refine (contains_call unit _ HU.out).mono ?_; rintro e w' ⟨rfl, m, rfl⟩) | (go_at_call 89; refine (up_call _ hm1 (by omega) _).mono ?_; rintro e w' ⟨rfl, m2, rfl⟩) | fail)
          go_ret
          exact ⟨rfl, _, rfl⟩
        · rw [if_neg m1]
          have hm3 : 0 ≤ hot * 32 := by omega
          by_cases m2 : mode = 2
          · subst m2
            rw [if_pos rfl]
            clear m1
            go_enter Tryz.func53, Tryz.ntmps53
            go_wp2_with (first | (go_at_call 46; refine (contains_call unit _ HU.out).mono ?_; rintro e w' ⟨rfl, m, rfl⟩) | (go_at_call 89; refine (up_call _ hm3 (by omega) _).mono ?_; rintro e w' ⟨rfl, m2, rfl⟩) | fail)
            go_ret
            exact ⟨rfl, _, rfl⟩
          · rw [if_neg m2]
            have n1 : (mode == 1) = false := beq_eq_false_iff_ne.mpr m1
            have n2 : (mode == 2) = false := beq_eq_false_iff_ne.mpr m2
            clear m1 m2
            go_enter Tryz.func53, Tryz.ntmps53
            go_wp2_with (first | (go_at_call 46; refine (contains_call unit _ HU.out).mono ?_; rintro e w' ⟨rfl, m, rfl⟩) | (go_at_call 89; refine (up_call _ hm3 (by omega) _).mono ?_; rintro e w' ⟨rfl, m2, rfl⟩) | fail)
            go_ret
            exact ⟨rfl, _, rfl⟩
      · have h3' : isUnit unit = false := by simpa using h3
        have hr : journalSize mode hot unit = 0 := by unfold journalSize; rw [if_pos (.inr (.inr h3'))]
        rw [hr]
        clear hr h3
        go_enter Tryz.func53, Tryz.ntmps53
        go_wp2_with (first | (go_at_call 46; refine (contains_call unit _ HU.out).mono ?_; rintro e w' ⟨rfl, m, rfl⟩) | (go_at_call 89; refine (up_call _ (by omega) (by omega) _).mono ?_; rintro e w' ⟨rfl, m2, rfl⟩) | fail)
        go_ret
        exact ⟨rfl, _, rfl⟩
end Go.Proofs.YtpmbfibjldnaiaaGreatDoor.shapeb
/-! ## RiseA -/
namespace Go.Proofs.YtpmbfibjldnaiaaGreatDoor.risea
open Go Go.RowKit Go.Proofs.YtpmbfibjldnaiaaGreatDoor.shapea Go.Proofs.YtpmbfibjldnaiaaGreatDoor.PProbeSpots Go.Proofs.YtpmbfibjldnaiaaGreatDoorW.PrintWords
set_option linter.unusedVariables false
set_option linter.unusedSimpArgs false
def riseB (most : Int) : Int → List Int → Bool
  | _, [] => true
  | last, n :: t => if n ≤ last ∨ n > most then false else riseB most n t
set_option maxHeartbeats 1000000 in
set_option maxRecDepth 100000 in
theorem slotNo_call (x : S53) (w : World) : Calls Tryz.prog 49 #[.agg #[.int .i64 x.f0, .int .i64 x.f1, .int .i64 x.f2, .int .i64 x.f3, .string x.f4, .string x.f5, .int .i64 x.f6, .int .i64 x.f7.f0, .int .i64 x.f7.f1]] w fun e w' => e = .returned (.int .i64 x.f0) ∧ Below w.heap.size w w' := by
  go_enter Tryz.func49, Tryz.ntmps49
  go_wp2_with fail
  go_ret
  exact ⟨rfl, (Below.refl _ _).alloc (Nat.le_refl _) _⟩
set_option maxHeartbeats 2000000 in
set_option maxRecDepth 100000 in
theorem riseSlots_call (A : Option Addr) (c : Nat) (l : List S53) (most : Int) (w : World) (hR : Kd.C k53 w A l.length l) (hl : l.length ≤ 4611686018427387904) :
    Calls Tryz.prog 48 #[.slice A l.length c, .int .i64 most, .func (.func 49) #[] #[]] w fun e w' => e = .returned (.bool (riseB most (-1) (l.map (·.f0)))) ∧ Below w.heap.size w w' := by
  have HR := Aside0.mk hR
  clear hR
  go_enter Tryz.func48, Tryz.ntmps48
  go_wp2_with fail
  go_loopg [7, 13] (l.length + 1) (fun kq v7 v13 wr => ∃ (i : Nat) (last : Int), Aside0 (v13 = .int .i64 (i : Int)) ∧ Aside0 (v7 = .int .i64 last) ∧ Aside0 (i ≤ l.length ∧ kq + i = l.length + 1) ∧ Aside0 (riseB most (-1) (l.map (·.f0)) = riseB most last ((l.drop i).map (·.f0))) ∧ Aside0 (Below w.heap.size w wr))
  case atStart => exact ⟨0, -1, ⟨rfl⟩, ⟨rfl⟩, ⟨by omega⟩, ⟨rfl⟩, ⟨Below.refl _ _⟩⟩
  case round =>
    obtain ⟨i, last, H13, H7, HI, HF, HB⟩ := hrel
    obtain rfl := H13.out
    obtain rfl := H7.out
    obtain ⟨hi, hk⟩ := HI.out
    have HQ := Aside0.mk hk
    clear hk
    by_cases hlt : i < l.length
    · obtain ⟨ad, e, c0, c1, c2, c3, c4, c5, c6, c7, c8⟩ := at_T53 HR.out (i : Int) (by omega) (by omega)
      have hx : rd_T53 l (i : Int) = l[i] := by
        unfold rd_T53
        rw [Int.toNat_natCast, List.getD_eq_getElem?_getD, List.getElem?_eq_getElem hlt]
        rfl
      rw [hx] at c0 c1 c2 c3 c4 c5 c6 c7 c8
      rw [Int.toNat_natCast] at c0 c1 c2 c3 c4 c5 c6 c7 c8
      have mv : ∀ {a : Addr} {u : Value}, w.cell? a = some u → wr.cell? a = some u := fun h => (HB.out.cell (World.block_lt_of_cell? w _ h)).trans h
      replace c0 := mv c0
      replace c1 := mv c1
      replace c2 := mv c2
      replace c3 := mv c3
      replace c4 := mv c4
      replace c5 := mv c5
      replace c6 := mv c6
      replace c7 := mv c7
      replace c8 := mv c8
      clear mv hx
      have HD : Aside0 (riseB most (-1) (l.map (·.f0)) = if l[i].f0 ≤ last ∨ l[i].f0 > most then false else riseB most l[i].f0 ((l.drop (i + 1)).map (·.f0))) := ⟨by
        rw [HF.out, List.drop_eq_getElem_cons hlt]
        rfl⟩
      cases e
      go_wp2_with (first | (go_at_call 49; refine (slotNo_call l[i] _).mono ?_; rintro e W1 ⟨rfl, hb1⟩) | fail)
      all_goals have hbw : Below w.heap.size w W1 := (HB.out.alloc HB.out.size _).trans (hb1.mono (by simp; have := HB.out.size; omega))
      all_goals first
        | (go_ret; exact ⟨by rw [HD.out, if_pos (by omega)]; rfl, hbw⟩)
        | (go_roundg (l.length - i)
           case rel => exact ⟨i + 1, l[i].f0, ⟨by go_num⟩, ⟨rfl⟩, ⟨by omega, by omega⟩, ⟨by rw [HD.out, if_neg (by omega)]⟩, ⟨hbw⟩⟩
           case measure => have := HQ.out; omega)
    · obtain rfl : i = l.length := by omega
      go_wp2_with fail
      go_ret
      refine ⟨?_, HB.out⟩
      rw [HF.out, List.drop_length]
      rfl
end Go.Proofs.YtpmbfibjldnaiaaGreatDoor.risea
/-! ## CovP -/
namespace Go.Proofs.YtpmbfibjldnaiaaGreatDoor.covp
open Go
set_option linter.unusedVariables false
/-- What lies somewhere: its kind, a number, where it begins, how much it is. -/
structure Sp where
  k : Int
  n : Int
  s : Int
  c : Int
instance : Inhabited Sp := ⟨⟨0, 0, 0, 0⟩⟩
/-- One behind the other from a to b. -/
def Chain : List Sp → Int → Int → Prop
  | [], a, b => a = b
  | p :: t, a, b => p.s = a ∧ 1 ≤ p.c ∧ 1 ≤ p.k ∧ p.k ≤ 6 ∧ Chain t (a + p.c) b
theorem chain_append : ∀ {l m : List Sp} {a b c : Int}, Chain l a b → Chain m b c → Chain (l ++ m) a c
  | [], m, a, b, c, h, g => by
    have : a = b := h
    subst this
    exact g
  | p :: t, m, a, b, c, h, g => ⟨h.1, h.2.1, h.2.2.1, h.2.2.2.1, chain_append h.2.2.2.2 g⟩
theorem chain_one {p : Sp} {a : Int} (hs : p.s = a) (hc : 1 ≤ p.c) (h1 : 1 ≤ p.k) (h6 : p.k ≤ 6) : Chain [p] a (a + p.c) := ⟨hs, hc, h1, h6, rfl⟩
/-- A piece more: what is free ahead of it, and itself. -/
def stepS (st : List Sp × Int) (p : Sp) : List Sp × Int :=
  if p.k = 0 then ((if p.s > st.2 then st.1 ++ [⟨5, 0, st.2, p.s - st.2⟩] else st.1), st.2)
  else ((if p.s > st.2 then st.1 ++ [⟨5, 0, st.2, p.s - st.2⟩] else st.1) ++ [p], p.s + p.c)
/-- In order, apart, within [a, E]. -/
def InOrder (E : Int) : List Sp → Int → Prop
  | [], a => a ≤ E
  | p :: t, a => a ≤ p.s ∧ 1 ≤ p.c ∧ (p.k = 3 ∨ p.k = 4) ∧ InOrder E t (p.s + p.c)
theorem inOrder_le {E : Int} : ∀ {l : List Sp} {a : Int}, InOrder E l a → a ≤ E
  | [], a, h => h
  | p :: t, a, h => by
    have := inOrder_le h.2.2.2
    have := h.1
    have := h.2.1
    omega
theorem free_chain {l : List Sp} {a s : Int} (h : Chain l 0 a) (hs : a ≤ s) : Chain (if s > a then l ++ [⟨5, 0, a, s - a⟩] else l) 0 s := by
  by_cases g : s > a
  · rw [if_pos g]
    refine chain_append h ?_
    have := chain_one (p := ⟨5, 0, a, s - a⟩) (a := a) rfl (by show 1 ≤ s - a; omega) (by show (1 : Int) ≤ 5; omega) (by show (5 : Int) ≤ 6; omega)
    have e : a + (s - a) = s := by omega
    rw [e] at this
    exact this
  · rw [if_neg g]
    have : a = s := by omega
    subst this
    exact h
theorem free_len (l : List Sp) (a s : Int) : l.length ≤ (if s > a then l ++ [⟨5, 0, a, s - a⟩] else l).length := by
  split
  · simp
  · exact Nat.le_refl _
theorem step_area {st : List Sp × Int} {p : Sp} (hk : p.k = 3 ∨ p.k = 4) : stepS st p = ((if p.s > st.2 then st.1 ++ [⟨5, 0, st.2, p.s - st.2⟩] else st.1) ++ [p], p.s + p.c) := by
  unfold stepS
  rw [if_neg (by omega)]
theorem fold_chain {E : Int} : ∀ (d : List Sp) (st : List Sp × Int), Chain st.1 0 st.2 → InOrder E d st.2 → Chain (d.foldl stepS st).1 0 (d.foldl stepS st).2 ∧ (d.foldl stepS st).2 ≤ E ∧ st.1.length + d.length ≤ (d.foldl stepS st).1.length
  | [], st, h, o => ⟨h, o, Nat.le_refl _⟩
  | p :: t, st, h, o => by
    obtain ⟨o1, o2, o3, o4⟩ := o
    have hc : Chain (stepS st p).1 0 (stepS st p).2 := by
      rw [step_area o3]
      exact chain_append (free_chain h o1) (chain_one rfl o2 (by omega) (by omega))
    have hb : (stepS st p).2 = p.s + p.c := by rw [step_area o3]
    have hn : st.1.length + 1 ≤ (stepS st p).1.length := by
      rw [step_area o3]
      have := free_len st.1 st.2 p.s
      simp only [List.length_append, List.length_cons, List.length_nil]
      omega
    obtain ⟨r1, r2, r3⟩ := fold_chain t (stepS st p) hc (by rw [hb]; exact o4)
    refine ⟨r1, r2, ?_⟩
    simp only [List.length_cons, List.foldl_cons]
    omega
/-- All up to E, by pieces in order. -/
def laidS (hd a E : Int) (d : List Sp) : List Sp := ((d ++ [(⟨0, 0, E, 0⟩ : Sp)]).foldl stepS ([⟨1, 0, 0, hd⟩, ⟨2, 0, hd, hd⟩], a)).1
theorem laid_chain {hd a E : Int} {d : List Sp} (h1 : 1 ≤ hd) (ha : a = 2 * hd) (o : InOrder E d a) : Chain (laidS hd a E d) 0 E ∧ 2 + d.length ≤ (laidS hd a E d).length := by
  have h0 : Chain [⟨1, 0, 0, hd⟩, ⟨2, 0, hd, hd⟩] 0 a := ⟨rfl, h1, by show (1 : Int) ≤ 1; omega, by show (1 : Int) ≤ 6; omega, by show hd = 0 + hd; omega, h1, by show (1 : Int) ≤ 2; omega, by show (2 : Int) ≤ 6; omega, by show 0 + hd + hd = a; omega⟩
  obtain ⟨r1, r2, r3⟩ := fold_chain d ([⟨1, 0, 0, hd⟩, ⟨2, 0, hd, hd⟩], a) h0 o
  unfold laidS
  rw [List.foldl_append, List.foldl_cons, List.foldl_nil]
  have e : stepS (List.foldl stepS ([⟨1, 0, 0, hd⟩, ⟨2, 0, hd, hd⟩], a) d) ⟨0, 0, E, 0⟩ = ((if E > (List.foldl stepS ([⟨1, 0, 0, hd⟩, ⟨2, 0, hd, hd⟩], a) d).2 then (List.foldl stepS ([⟨1, 0, 0, hd⟩, ⟨2, 0, hd, hd⟩], a) d).1 ++ [⟨5, 0, (List.foldl stepS ([⟨1, 0, 0, hd⟩, ⟨2, 0, hd, hd⟩], a) d).2, E - (List.foldl stepS ([⟨1, 0, 0, hd⟩, ⟨2, 0, hd, hd⟩], a) d).2⟩] else (List.foldl stepS ([⟨1, 0, 0, hd⟩, ⟨2, 0, hd, hd⟩], a) d).1), (List.foldl stepS ([⟨1, 0, 0, hd⟩, ⟨2, 0, hd, hd⟩], a) d).2) := by
    unfold stepS
    rw [if_pos rfl]
  rw [e]
  refine ⟨free_chain r1 r2, ?_⟩
  have := free_len (List.foldl stepS ([⟨1, 0, 0, hd⟩, ⟨2, 0, hd, hd⟩], a) d).1 (List.foldl stepS ([⟨1, 0, 0, hd⟩, ⟨2, 0, hd, hd⟩], a) d).2 E
  simp only [List.length_cons, List.length_nil] at r3
  exact Nat.le_trans (by omega) this
/-- Apart: one ends where the other begins, or ahead of it. -/
def Apart (p q : Sp) : Prop := p.s + p.c ≤ q.s ∨ q.s + q.c ≤ p.s
/-- Sorted by where they begin, apart, within [a, E]: in order. -/
theorem inOrder_of {E : Int} : ∀ (d : List Sp) (a : Int), (∀ p ∈ d, a ≤ p.s ∧ 1 ≤ p.c ∧ (p.k = 3 ∨ p.k = 4) ∧ p.s + p.c ≤ E) → a ≤ E → d.Pairwise (fun p q => p.s ≤ q.s) → d.Pairwise Apart → InOrder E d a
  | [], a, _, h, _, _ => h
  | p :: t, a, hp, h, hs, hd => by
    obtain ⟨s1, s2⟩ := List.pairwise_cons.1 hs
    obtain ⟨d1, d2⟩ := List.pairwise_cons.1 hd
    obtain ⟨b1, b2, b3, b4⟩ := hp p (List.mem_cons_self ..)
    refine ⟨b1, b2, b3, inOrder_of t (p.s + p.c) (fun q hq => ?_) b4 s2 d2⟩
    obtain ⟨c1, c2, c3, c4⟩ := hp q (List.mem_cons_of_mem _ hq)
    refine ⟨?_, c2, c3, c4⟩
    have := s1 q hq
    rcases d1 q hq with g | g
    · exact g
    · omega
/-- Areas of a device: where one begins, its bytes: may it lie between from and end? -/
def okArea (from_ end_ : Int) (a : Int × Int) : Prop := a.1 % 4096 = 0 ∧ a.2 % 4096 = 0 ∧ from_ ≤ a.1 ∧ a.1 ≤ end_ ∧ a.2 ≤ end_ - a.1
def Meets (a b : Int × Int) : Prop := a.1 < b.1 + b.2 ∧ b.1 < a.1 + a.2
/-- In sectors of u bytes. -/
def inU (u : Int) (k n : Int) (a : Int × Int) : Sp := ⟨k, n, a.1 / u, a.2 / u⟩
theorem inU_ok {u h k : Int} (hu : u = 512 ∨ u = 1024 ∨ u = 2048 ∨ u = 4096) (hh : h % 4096 = 0) (hk : k % 4096 = 0) {x y : Int} {a : Int × Int} (ok : okArea (2 * h) (2 * h + k) a) (h1 : 1 ≤ a.2) :
    2 * h / u ≤ (inU u x y a).s ∧ 1 ≤ (inU u x y a).c ∧ (inU u x y a).s + (inU u x y a).c ≤ (2 * h + k) / u := by
  obtain ⟨o1, o2, o3, o4, o5⟩ := ok
  unfold inU
  dsimp only
  rcases hu with rfl | rfl | rfl | rfl
  all_goals exact ⟨by omega, by omega, by omega⟩
theorem inU_apart {u : Int} (hu : u = 512 ∨ u = 1024 ∨ u = 2048 ∨ u = 4096) {x y x' y' : Int} {a b : Int × Int} (a1 : a.1 % 4096 = 0) (a2 : a.2 % 4096 = 0) (b1 : b.1 % 4096 = 0) (b2 : b.2 % 4096 = 0) (hm : ¬ Meets a b) : Apart (inU u x y a) (inU u x' y' b) := by
  unfold Meets at hm
  unfold Apart inU
  dsimp only
  rcases hu with rfl | rfl | rfl | rfl
  all_goals omega
/-- Areas, the ones behind each that it must not meet. -/
theorem areas_apart {u : Int} (hu : u = 512 ∨ u = 1024 ∨ u = 2048 ∨ u = 4096) (l : List ((Int × Int) × (Int × Int))) (hd : l.Pairwise (fun p q => ¬ Meets q.2 p.2)) (ha : ∀ p ∈ l, p.2.1 % 4096 = 0 ∧ p.2.2 % 4096 = 0) : (l.map fun p => inU u p.1.1 p.1.2 p.2).Pairwise Apart := by
  rw [List.pairwise_map]
  refine List.Pairwise.imp_of_mem ?_ hd
  intro p q hp hq h
  obtain ⟨p1, p2⟩ := ha p hp
  obtain ⟨q1, q2⟩ := ha q hq
  rcases inU_apart (x := q.1.1) (y := q.1.2) (x' := p.1.1) (y' := p.1.2) hu q1 q2 p1 p2 h with g | g
  · exact .inr g
  · exact .inl g
/-- A power of two from 4096 on is a multiple of 4096. -/
theorem pow_mul {n : Nat} (h0 : 4096 ≤ n) (hp : n &&& (n - 1) = 0) : n % 4096 = 0 := by
  rcases Nat.eq_zero_or_pos (n % 4096) with h | h
  · exact h
  · exfalso
    have e1 : n >>> 12 = n / 4096 := by rw [Nat.shiftRight_eq_div_pow]
    have e2 : (n - 1) >>> 12 = n / 4096 := by rw [Nat.shiftRight_eq_div_pow]; omega
    have e3 : (n &&& (n - 1)) >>> 12 = n / 4096 := by rw [Nat.shiftRight_and_distrib, e1, e2, Nat.and_self]
    rw [hp] at e3
    simp at e3
    omega
/-- Data, in segments from a to b. -/
def SegChain : List (Int × Int × Int) → Int → Int → Prop
  | [], a, b => a = b
  | g :: t, a, b => g.1 = a ∧ 1 ≤ g.2.1 ∧ SegChain t (a + g.2.1) b
def dataS (E : Int) (l : List (Int × Int × Int)) : List Sp := l.map fun g => ⟨6, g.2.2, E + g.1, g.2.1⟩
theorem data_chain {E : Int} : ∀ (l : List (Int × Int × Int)) (a b : Int), SegChain l a b → Chain (dataS E l) (E + a) (E + b)
  | [], a, b, h => by
    have : a = b := h
    subst this
    exact rfl
  | g :: t, a, b, h => by
    obtain ⟨h1, h2, h3⟩ := h
    refine ⟨by show E + g.1 = _; rw [h1], h2, by show (1 : Int) ≤ 6; omega, by show (6 : Int) ≤ 6; omega, ?_⟩
    have := data_chain (E := E) t _ b h3
    have e : E + a + g.2.1 = E + (a + g.2.1) := by omega
    show Chain (dataS E t) (E + a + g.2.1) _
    rw [e]
    exact this
theorem seg_some {l : List (Int × Int × Int)} {n : Int} (h : SegChain l 0 n) (h1 : 1 ≤ n) : 1 ≤ l.length := by
  cases l with
  | nil => exact absurd (show (0 : Int) = n from h) (by omega)
  | cons g t => simp
/-- All that lies on a device. -/
theorem all_chain {hd a E n : Int} {d : List Sp} {l : List (Int × Int × Int)} (h1 : 1 ≤ hd) (ha : a = 2 * hd) (o : InOrder E d a) (hn : 1 ≤ n) (hs : SegChain l 0 n) : Chain (laidS hd a E d ++ dataS E l) 0 (E + n) ∧ 3 + d.length ≤ (laidS hd a E d ++ dataS E l).length := by
  obtain ⟨r1, r2⟩ := laid_chain h1 ha o
  have h2 := data_chain (E := E) l 0 n hs
  have e : E + 0 = E := by omega
  rw [e] at h2
  refine ⟨chain_append r1 h2, ?_⟩
  have := seg_some hs hn
  have : (dataS E l).length = l.length := by simp [dataS]
  rw [List.length_append]
  omega
theorem chain_drop : ∀ (l : List Sp) (i : Nat) (a b : Int), Chain l a b → (h : i < l.length) → ∃ a', Chain (l.drop i) a' b ∧ l[i].s = a' ∧ Chain (l.drop (i + 1)) (a' + l[i].c) b ∧ 1 ≤ l[i].c ∧ 1 ≤ l[i].k ∧ l[i].k ≤ 6
  | p :: t, 0, a, b, h, _ => ⟨a, h, h.1, h.2.2.2.2, h.2.1, h.2.2.1, h.2.2.2.1⟩
  | p :: t, i + 1, a, b, h, hi => by
    obtain ⟨a', r⟩ := chain_drop t i _ b h.2.2.2.2 (by simpa using hi)
    exact ⟨a', by simpa using r⟩
end Go.Proofs.YtpmbfibjldnaiaaGreatDoor.covp
