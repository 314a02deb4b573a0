/- cofferlaw15.turned in plain words. -/
import Derived.Test.YtkpgklkplmljdaaDoorTurned
namespace Go.Proofs.YtkpgklkplmljdaaDoor.turnedPlain
open Go Go.RowKit Go.Proofs.YtkpgklkplmljdaaDoor.PProbeCompares Go.Proofs.YtkpgklkplmljdaaDoorW.PrintWords
set_option linter.unusedVariables false
theorem w64 (n : Int) (h : -9223372036854775808 ≤ n ∧ n ≤ 9223372036854775807) : wrap64 n = n := by unfold wrap64; omega
abbrev kinds : List ByteArray := [⟨#[32, 115, 108, 111, 116, 32]⟩, ⟨#[32, 101, 112, 111, 99, 104, 32]⟩, ⟨#[32, 116, 111, 107, 101, 110, 32]⟩]
def plainQ (s : ByteArray) : Bool := decide (bt s 0 ≠ 45) && decide (bt s 0 ≠ 43)
/-- Is a line of kind j and sign z ('+', '-')? -/
def sel (j z : Nat) (s : ByteArray) : Bool := decide (7 ≤ s.size) && (decide ((s.extract 1 6).toList = ((rdOf ByteArray.empty kinds (j : Int)).extract 0 5).toList) && decide (bt s 0 = bt (⟨#[43, 45]⟩ : ByteArray) (z : Int)))
def new (z : Nat) (s : ByteArray) : ByteArray := ((⟨#[45, 43]⟩ : ByteArray).extract z (z + 1)) ++ s.extract 1 s.size
def group (j z : Nat) (l : List ByteArray) : List ByteArray := (l.filter (sel j z)).map (new z)
def turnedL (l : List ByteArray) : List ByteArray := l.filter plainQ ++ group 0 0 l ++ group 0 1 l ++ group 1 0 l ++ group 1 1 l ++ group 2 0 l ++ group 2 1 l
theorem rd_nat (l : List ByteArray) (i : Nat) (h : i < l.length) : rdOf ByteArray.empty l (i : Int) = l[i] := by simp [rdOf, h]
theorem kinds_size (j : Nat) (h : j < 3) : 5 ≤ (rdOf ByteArray.empty kinds (j : Int)).size := by
  obtain rfl | rfl | rfl : j = 0 ∨ j = 1 ∨ j = 2 := by omega
  all_goals decide
theorem group_cons (j z : Nat) (s : ByteArray) (l : List ByteArray) : group j z (s :: l) = (if sel j z s = true then [new z s] else []) ++ group j z l := by
  unfold group
  cases h : sel j z s <;> simp [h]
theorem group_le (j z : Nat) (l : List ByteArray) : (group j z l).length ≤ l.length := by
  unfold group; rw [List.length_map]; exact List.length_filter_le _ _
theorem new_size (z : Nat) (s : ByteArray) : (new z s).size ≤ s.size + 2 := by
  unfold new
  rw [ByteArray.size_append, ByteArray.size_extract, ByteArray.size_extract]
  have : (⟨#[45, 43]⟩ : ByteArray).size = 2 := rfl
  omega
theorem wz (z : Nat) (hz : z < 2) : wrap64 ((z : Int) + 1) = (z : Int) + 1 := w64 _ (by omega)
theorem zle (z : Nat) : (z : Int) ≤ (z : Int) + 1 := by omega
theorem z2 (z : Nat) (hz : z < 2) : (z : Int) + 1 ≤ 2 := by omega
theorem ez (z : Nat) : ((z : Int)).toNat = z := by omega
theorem ez1 (z : Nat) : ((z : Int) + 1).toNat = z + 1 := by omega
set_option maxHeartbeats 1000000 in
theorem l3_run (x0 : List ByteArray) (hx : x0.length < 1099511627776) (hs : ∀ s ∈ x0, s.size < 1099511627776) (j z : Nat) (hj : j < 3) (hz : z < 2) (K : Nat) (r : List ByteArray) : ∀ (n i : Nat) (acc : List ByteArray), x0.length - i = n → acc.length + n < 8796093022208 →
    cofferlaw15_turned.l2 K x0 (acc ++ group j z (x0.drop i)) kinds (j : Int) ((z + 1 : Nat) : Int) = some r → cofferlaw15_turned.l3 (n + (K + 1)) x0 acc kinds (j : Int) (z : Int) (i : Int) = some r
  | 0, i, acc, hi, ha, h => by
    rw [List.drop_of_length_le (by omega)] at h
    rw [Nat.zero_add, cofferlaw15_turned.l3, if_neg (by omega), w64 _ (by omega), show ((z : Int) + 1) = ((z + 1 : Nat) : Int) by omega]
    simpa [group] using h
  | n + 1, i, acc, hi, ha, h => by
    have h1 : i < x0.length := by omega
    have hsz := hs _ (List.getElem_mem h1)
    rw [List.drop_eq_getElem_cons h1, group_cons] at h
    rw [show n + 1 + (K + 1) = (n + (K + 1)) + 1 by omega, cofferlaw15_turned.l3, if_pos (by omega), if_pos (by omega), rd_nat x0 i h1, w64 ((i : Int) + 1) (by omega), show ((i : Int) + 1) = ((i + 1 : Nat) : Int) by omega]
    have hk := kinds_size j hj
    generalize x0[i] = s at *
    have step : ∀ acc', acc'.length ≤ acc.length + 1 → cofferlaw15_turned.l2 K x0 (acc' ++ group j z (x0.drop (i + 1))) kinds (j : Int) ((z + 1 : Nat) : Int) = some r → cofferlaw15_turned.l3 (n + (K + 1)) x0 acc' kinds (j : Int) (z : Int) ((i + 1 : Nat) : Int) = some r :=
      fun acc' ha' h' => l3_run x0 hx hs j z hj hz K r n (i + 1) acc' (by omega) (by omega) h'
    by_cases c1 : s.size < 7
    · have hf : sel j z s = false := by unfold sel; rw [show decide (7 ≤ s.size) = false by simpa using c1]; rfl
      rw [hf, if_neg (by decide), List.nil_append] at h
      rw [if_pos (by omega)]
      exact step acc (by omega) h
    · have d1 : decide (7 ≤ s.size) = true := by simpa using c1
      rw [if_neg (by omega), if_pos (by decide), if_pos (by omega), if_pos (by omega), if_pos (show (j : Int) < (kinds.length : Int) from by show (j : Int) < 3; omega), if_pos (by decide), if_pos (by omega)]
      by_cases c2 : (s.extract 1 6).toList = ((rdOf ByteArray.empty kinds (j : Int)).extract 0 5).toList
      · rw [if_pos c2, if_pos (by omega), if_pos (by omega), if_pos (by omega)]
        by_cases c3 : bt s 0 = bt (⟨#[43, 45]⟩ : ByteArray) (z : Int)
        · have hf : sel j z s = true := by unfold sel; rw [d1, decide_eq_true c2, decide_eq_true c3]; rfl
          rw [hf, if_pos rfl] at h
          have hn := new_size z s
          have f3 : (1 : Int) ≤ (s.size : Int) := by omega
          have f0 : wrap64 ((z : Int) + 1) = (z : Int) + 1 := wz z hz
          rw [if_pos c3, f0, if_pos (zle z), if_pos (z2 z hz), if_pos f3, ez z, ez1 z]
          clear f0
          have hn' : ((⟨#[45, 43]⟩ : ByteArray).extract z (z + 1)).size + (s.extract 1 s.size).size ≤ 9223372036854775807 := by
            unfold new at hn
            rw [ByteArray.size_append] at hn
            omega
          rw [if_pos hn', if_pos (by omega)]
          exact step _ (by simp) (by simpa [new] using h)
        · have hf : sel j z s = false := by unfold sel; rw [d1, decide_eq_true c2, decide_eq_false c3]; rfl
          rw [hf, if_neg (by decide), List.nil_append] at h
          rw [if_neg c3]
          exact step acc (by omega) h
      · have hf : sel j z s = false := by unfold sel; rw [d1, decide_eq_false c2]; rfl
        rw [hf, if_neg (by decide), List.nil_append] at h
        rw [if_neg c2]
        exact step acc (by omega) h
theorem l0_run (x0 : List ByteArray) (hx : x0.length < 1099511627776) (hs : ∀ s ∈ x0, 0 < s.size) (K : Nat) (r : List ByteArray) : ∀ (n i : Nat) (acc : List ByteArray), x0.length - i = n → acc.length + n < 8796093022208 →
    cofferlaw15_turned.l1 K x0 (acc ++ (x0.drop i).filter plainQ) kinds 0 = some r → cofferlaw15_turned.l0 (n + (K + 1)) x0 acc (i : Int) = some r
  | 0, i, acc, hi, ha, h => by
    rw [List.drop_of_length_le (by omega)] at h
    rw [Nat.zero_add, cofferlaw15_turned.l0, if_neg (by omega)]
    simpa using h
  | n + 1, i, acc, hi, ha, h => by
    have h1 : i < x0.length := by omega
    have hsz := hs _ (List.getElem_mem h1)
    rw [List.drop_eq_getElem_cons h1, List.filter_cons] at h
    rw [show n + 1 + (K + 1) = (n + (K + 1)) + 1 by omega, cofferlaw15_turned.l0, if_pos (by omega), if_pos (by omega), rd_nat x0 i h1, w64 ((i : Int) + 1) (by omega), show ((i : Int) + 1) = ((i + 1 : Nat) : Int) by omega]
    generalize x0[i] = s at *
    have step : ∀ acc', acc'.length ≤ acc.length + 1 → cofferlaw15_turned.l1 K x0 (acc' ++ (x0.drop (i + 1)).filter plainQ) kinds 0 = some r → cofferlaw15_turned.l0 (n + (K + 1)) x0 acc' ((i + 1 : Nat) : Int) = some r :=
      fun acc' ha' h' => l0_run x0 hx hs K r n (i + 1) acc' (by omega) (by omega) h'
    rw [if_pos (by omega)]
    by_cases c1 : bt s 0 = 45
    · have hf : plainQ s = false := by simp [plainQ, c1]
      rw [hf, if_neg (by decide)] at h
      rw [if_pos c1]
      exact step acc (by omega) h
    · by_cases c2 : bt s 0 = 43
      · have hf : plainQ s = false := by simp [plainQ, c2]
        rw [hf, if_neg (by decide)] at h
        rw [if_neg c1, if_pos c2]
        exact step acc (by omega) h
      · have hf : plainQ s = true := by simp [plainQ, c1, c2]
        rw [hf, if_pos rfl] at h
        rw [if_neg c1, if_neg c2, if_pos (by omega)]
        exact step _ (by simp) (by simpa using h)
theorem l2_run (x0 : List ByteArray) (hx : x0.length < 1099511627776) (hs : ∀ s ∈ x0, s.size < 1099511627776) (j : Nat) (hj : j < 3) (K : Nat) (r : List ByteArray) (acc : List ByteArray) (ha : acc.length + 2 * x0.length < 8796093022208)
    (h : cofferlaw15_turned.l1 K x0 (acc ++ group j 0 x0 ++ group j 1 x0) kinds ((j + 1 : Nat) : Int) = some r) : cofferlaw15_turned.l2 ((x0.length + ((x0.length + (K + 1 + 1) + 1) + 1)) + 1) x0 acc kinds (j : Int) 0 = some r := by
  have g0 := group_le j 0 x0
  have g1 := group_le j 1 x0
  rw [cofferlaw15_turned.l2, if_pos (by decide)]
  refine l3_run x0 hx hs j 0 hj (by omega) (x0.length + (K + 1 + 1) + 1) r x0.length 0 acc (by omega) (by omega) ?_
  rw [cofferlaw15_turned.l2, if_pos (by decide)]
  refine l3_run x0 hx hs j 1 hj (by omega) (K + 1) r x0.length 0 _ (by omega) (by simp only [List.drop_zero, List.length_append]; omega) ?_
  rw [cofferlaw15_turned.l2, if_neg (by decide), w64 _ (by omega), show ((j : Int) + 1) = ((j + 1 : Nat) : Int) by omega]
  simpa using h
theorem turned_ok (x0 : List ByteArray) (hx : x0.length < 1000000000) (h0 : ∀ s ∈ x0, 0 < s.size) (hs : ∀ s ∈ x0, s.size < 1099511627776) : ∃ K, cofferlaw15_turned.f K x0 = some (turnedL x0) := by
  have g0 := group_le 0 0 x0
  have g1 := group_le 0 1 x0
  have g2 := group_le 1 0 x0
  have g3 := group_le 1 1 x0
  have gp : (x0.filter plainQ).length ≤ x0.length := List.length_filter_le _ _
  let F : Nat → Nat := fun K => (x0.length + ((x0.length + (K + 1 + 1) + 1) + 1)) + 1
  refine ⟨x0.length + ((F (F (F 1 + 1) + 1) + 1) + 1), ?_⟩
  unfold cofferlaw15_turned.f
  refine l0_run x0 (by omega) h0 _ _ x0.length 0 [] (by omega) (by simp; omega) ?_
  rw [List.nil_append, List.drop_zero, cofferlaw15_turned.l1, if_pos (by decide)]
  refine l2_run x0 (by omega) hs 0 (by omega) (F (F 1 + 1) + 1) _ _ (by omega) ?_
  rw [cofferlaw15_turned.l1, if_pos (by decide)]
  refine l2_run x0 (by omega) hs 1 (by omega) (F 1 + 1) _ _ (by simp only [List.length_append]; omega) ?_
  rw [cofferlaw15_turned.l1, if_pos (by decide)]
  refine l2_run x0 (by omega) hs 2 (by omega) 1 _ _ (by simp only [List.length_append]; omega) ?_
  rw [cofferlaw15_turned.l1, if_neg (by decide)]
  rfl
end Go.Proofs.YtkpgklkplmljdaaDoor.turnedPlain
