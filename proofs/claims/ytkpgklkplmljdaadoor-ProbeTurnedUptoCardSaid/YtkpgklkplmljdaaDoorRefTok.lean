/- The reference's list of tokens, in plain words. (Written by gen2k.py.) -/
import Derived.Test.YtkpgklkplmljdaaDoorRefLists
import Derived.Test.YtkpgklkplmljdaaDoorTok
import Derived.Test.YtkpgklkplmljdaaDoorCmpToken
namespace Go.Proofs.YtkpgklkplmljdaaDoor.refPlain
open Go Go.RowKit Go.Proofs.YtkpgklkplmljdaaDoor.PProbeCompares Go.Proofs.YtkpgklkplmljdaaDoorW.PrintWords
theorem ints_loop (a b : List Int) (hab : a.length = b.length) (h : a.length < 1099511627776) : ∀ (n i : Nat), a.length - i = n → cofferref15_sameInts.l0 (n + 1) a b (i : Int) = some (a.drop i == b.drop i)
  | 0, i, hi => by
    rw [cofferref15_sameInts.l0, if_neg (by omega), List.drop_of_length_le (by omega), List.drop_of_length_le (by omega)]
    rfl
  | n + 1, i, hi => by
    have h1 : i < a.length := by omega
    have h2 : i < b.length := by omega
    rw [cofferref15_sameInts.l0, if_pos (by omega), if_pos (by omega), if_pos (by omega), cmpToken.rd_nat a i h1, cmpToken.rd_nat b i h2, w64 _ (by omega), List.drop_eq_getElem_cons h1, List.drop_eq_getElem_cons h2]
    by_cases e : a[i] = b[i]
    · have ih := ints_loop a b hab h n (i + 1) (by omega)
      rw [if_pos e]
      rw [show ((i : Int) + 1) = ((i + 1 : Nat) : Int) by omega, ih, e]
      exact congrArg some (cmpToken.cons_beq _ _ _).symm
    · rw [if_neg e]
      exact congrArg some (cmpToken.cons_bne e).symm
theorem ints_ok (a b : List Int) (h : a.length < 1099511627776) : cofferref15_sameInts.f (a.length + 1) a b = some (a == b) := by
  unfold cofferref15_sameInts.f
  by_cases hab : a.length = b.length
  · rw [if_pos (by omega)]
    exact ints_loop a b hab h a.length 0 (by omega)
  · rw [if_neg (by omega)]
    have : a ≠ b := fun e => hab (by rw [e])
    simp [this]
theorem ints_add (a b : List Int) (h : a.length < 1099511627776) : ∀ m, cofferref15_sameInts.f (a.length + 1 + m) a b = some (a == b)
  | 0 => ints_ok a b h
  | m + 1 => cofferref15_sameInts.mono _ _ _ _ (ints_add a b h m)
theorem ints_more (a b : List Int) {K : Nat} (hK : a.length + 1 ≤ K) (h : a.length < 1099511627776) : cofferref15_sameInts.f K a b = some (a == b) := by
  obtain ⟨m, rfl⟩ : ∃ m, K = a.length + 1 + m := ⟨K - (a.length + 1), by omega⟩
  exact ints_add a b h m

namespace Token
open Go.Proofs.YtkpgklkplmljdaaDoor.cmpToken
set_option maxHeartbeats 1000000 in
theorem l1_step (sign : ByteArray) (a b : List S63) (acc : List ByteArray) (i : Nat) (hi : i < a.length) (M : Nat) (hM : ∀ x ∈ a, x.f2.length ≤ M) (hM2 : M < 1099511627776) (K : Nat) (hK : 20 + M ≤ K) (r : List ByteArray) (j : Nat) (hj2 : j < b.length) (hw : wrap64 ((j : Int) + 1) = ((j + 1 : Nat) : Int))
    (hgo : cofferref15_tokens.l1 K sign a b acc (i : Int) (same a[i] b[j]) ((j + 1 : Nat) : Int) = some r) : cofferref15_tokens.l1 (K + 1) sign a b acc (i : Int) false (j : Int) = some r := by
  have e : rd_T63 a (i : Int) = a[i] := getD_nat a i hi _
  have e2 : rd_T63 b (j : Int) = b[j] := getD_nat b j hj2 _
  have hm := hM a[i] (List.getElem_mem hi)
  rw [cofferref15_tokens.l1, if_pos (by omega), if_pos (by omega), if_pos (by omega), if_pos (by omega), hw, if_neg (by decide), e, e2]
  generalize a[i] = x at *
  generalize b[j] = y at *
  unfold same at hgo
  by_cases e0 : x.f0 = y.f0
  · rw [if_pos e0]
    by_cases e1 : x.f1.toList = y.f1.toList
    · rw [if_pos e1]
      by_cases e3 : x.f3.toList = y.f3.toList
      · rw [if_pos e3, ints_more _ _ (by omega) (by omega), Option.bind_some]
        rw [beq_iff_eq.2 e0, beq_iff_eq.2 e1, beq_iff_eq.2 e3] at hgo
        exact hgo
      · rw [if_neg e3]
        rw [beq_iff_eq.2 e0, beq_iff_eq.2 e1, beq_eq_false_iff_ne.2 e3] at hgo
        exact hgo
    · rw [if_neg e1]
      rw [beq_iff_eq.2 e0, beq_eq_false_iff_ne.2 e1] at hgo
      exact hgo
  · rw [if_neg e0]
    rw [beq_eq_false_iff_ne.2 e0] at hgo
    exact hgo
end Token

namespace Token
open Go.Proofs.YtkpgklkplmljdaaDoor.cmpToken
def line (sign : ByteArray) (x : S63) : ByteArray := (sign ++ (⟨#[32, 116, 111, 107, 101, 110, 32]⟩ : ByteArray)) ++ itoaB x.f0
set_option maxHeartbeats 1000000 in
theorem l1_run (sign : ByteArray) (hs : sign.size ≤ 8) (a b : List S63) (acc : List ByteArray) (i : Nat) (hi : i < a.length) (ha : a.length < 1099511627776) (hb : b.length < 1099511627776) (hacc : acc.length < 8796093022208) (hx : ∀ x ∈ a, -9223372036854775808 ≤ x.f0 ∧ x.f0 ≤ 9223372036854775807)
    (M : Nat) (hM : ∀ x ∈ a, x.f2.length ≤ M) (hM2 : M < 1099511627776) (K : Nat) (hK : 20 + M ≤ K) (r : List ByteArray) : ∀ (n j : Nat) (found : Bool), b.length - j = n →
    (if (found || (b.drop j).any (same a[i])) = true then cofferref15_tokens.l0 K sign a b acc ((i + 1 : Nat) : Int) else cofferref15_tokens.l0 K sign a b (acc ++ [line sign a[i]]) ((i + 1 : Nat) : Int)) = some r →
    cofferref15_tokens.l1 (K + n + 1) sign a b acc (i : Int) found (j : Int) = some r := by
  intro n
  induction n with
  | zero =>
    intro j found hj h
    have hd : b.drop j = [] := List.drop_of_length_le (by omega)
    rw [hd] at h
    simp only [List.any_nil, Bool.or_false] at h
    have hw : wrap64 ((i : Int) + 1) = ((i + 1 : Nat) : Int) := by rw [w64 _ (by omega)]; omega
    have hr := hx a[i] (List.getElem_mem hi)
    have e : rd_T63 a (i : Int) = a[i] := getD_nat a i hi _
    unfold line at h
    rw [cofferref15_tokens.l1, if_neg (by omega), hw]
    cases found
    · rw [if_neg (by decide)] at h
      rw [if_neg (by decide), if_pos (by omega), if_pos (by omega), if_pos (by omega), e, num_more _ hr K (by omega)]
      simp only [Option.bind_some]
      rw [if_pos (by have := itoa_size _ hr; simp only [ByteArray.size_append]; have e9 : (⟨#[32, 116, 111, 107, 101, 110, 32]⟩ : ByteArray).size = 7 := rfl; omega), if_pos hacc]
      exact h
    · rw [if_pos rfl] at h
      rw [if_pos rfl]
      exact h
  | succ n ih =>
    intro j found hj h
    have hj2 : j < b.length := by omega
    have q0 : b.length - (j + 1) = n := by omega
    have q1 : (j : Int) < (b.length : Int) := by omega
    have q2 : (0 : Int) ≤ (i : Int) := by omega
    have q3 : (i : Int) < (a.length : Int) := by omega
    have q4 : (0 : Int) ≤ (j : Int) := by omega
    have q5 : K + (n + 1) + 1 = (K + n + 1) + 1 := by omega
    have q6 : 20 + M ≤ K + n + 1 := by omega
    have hw : wrap64 ((j : Int) + 1) = ((j + 1 : Nat) : Int) := by rw [w64 _ (by omega)]; omega
    have hd : b.drop j = b[j] :: b.drop (j + 1) := List.drop_eq_getElem_cons hj2
    rw [hd, List.any_cons] at h
    rw [q5]
    cases found
    · rw [Bool.false_or] at h
      have hgo := ih (j + 1) (same a[i] b[j]) q0 h
      exact l1_step sign a b acc i hi M hM hM2 (K + n + 1) q6 r j hj2 hw hgo
    · rw [cofferref15_tokens.l1, if_pos q1, if_pos q2, if_pos q3, if_pos q4, hw, if_pos (show true = true from rfl)]
      exact ih (j + 1) true q0 (by rw [Bool.true_or]; rw [Bool.true_or] at h; exact h)
end Token

namespace Token
open Go.Proofs.YtkpgklkplmljdaaDoor.cmpToken
theorem l0_run (sign : ByteArray) (hs : sign.size ≤ 8) (a b : List S63) (ha : a.length < 1099511627776) (hb : b.length < 1099511627776) (hx : ∀ x ∈ a, -9223372036854775808 ≤ x.f0 ∧ x.f0 ≤ 9223372036854775807) (M : Nat) (hM : ∀ x ∈ a, x.f2.length ≤ M) (hM2 : M < 1099511627776) : ∀ (n i : Nat) (acc : List ByteArray), a.length - i = n → acc.length ≤ i →
    cofferref15_tokens.l0 (n * (b.length + 2) + 21 + M) sign a b acc (i : Int) = some (acc ++ lines (a.drop i) b (line sign))
  | 0, i, acc, hi, hacc => by
    have hd : a.drop i = [] := List.drop_of_length_le (by omega)
    rw [show 0 * (b.length + 2) + 21 + M = (20 + M) + 1 by omega, cofferref15_tokens.l0, if_neg (by omega), hd]
    simp [lines]
  | n + 1, i, acc, hi, hacc => by
    have hi2 : i < a.length := by omega
    have hd : a.drop i = a[i] :: a.drop (i + 1) := List.drop_eq_getElem_cons hi2
    have hf : (n + 1) * (b.length + 2) + 21 + M = ((n * (b.length + 2) + 21 + M) + b.length + 1) + 1 := by rw [Nat.add_mul]; omega
    rw [hf, cofferref15_tokens.l0, if_pos (by omega)]
    refine l1_run sign hs a b acc i hi2 ha hb (by omega) hx M hM hM2 _ (by omega) _ b.length 0 false (by omega) ?_
    rw [List.drop_zero, Bool.false_or]
    have hl : lines (a.drop i) b (line sign) = (if b.any (same a[i]) = true then [] else [line sign a[i]]) ++ lines (a.drop (i + 1)) b (line sign) := by
      rw [hd]
      unfold lines
      rw [List.filter_cons]
      cases b.any (same a[i])
      · simp
      · simp
    rw [hl]
    cases h : b.any (same a[i])
    · rw [if_neg (by decide), if_neg (by decide), l0_run sign hs a b ha hb hx M hM hM2 n (i + 1) _ (by omega) (by simp; omega), List.append_assoc]
    · rw [if_pos rfl, if_pos rfl, l0_run sign hs a b ha hb hx M hM hM2 n (i + 1) _ (by omega) (by omega), List.nil_append]
theorem f_ok (sign : ByteArray) (hs : sign.size ≤ 8) (a b : List S63) (ha : a.length < 1099511627776) (hb : b.length < 1099511627776) (hx : ∀ x ∈ a, -9223372036854775808 ≤ x.f0 ∧ x.f0 ≤ 9223372036854775807) (M : Nat) (hM : ∀ x ∈ a, x.f2.length ≤ M) (hM2 : M < 1099511627776) :
    cofferref15_tokens.f (a.length * (b.length + 2) + 21 + M) sign a b = some (lines a b (line sign)) := by
  unfold cofferref15_tokens.f
  rw [show (0 : Int) = ((0 : Nat) : Int) from rfl, l0_run sign hs a b ha hb hx M hM hM2 a.length 0 [] (by omega) (by simp)]
  simp
theorem f_more (sign : ByteArray) (hs : sign.size ≤ 8) (a b : List S63) (ha : a.length < 1099511627776) (hb : b.length < 1099511627776) (hx : ∀ x ∈ a, -9223372036854775808 ≤ x.f0 ∧ x.f0 ≤ 9223372036854775807) (M : Nat) (hM : ∀ x ∈ a, x.f2.length ≤ M) (hM2 : M < 1099511627776) :
    ∀ m, cofferref15_tokens.f (a.length * (b.length + 2) + 21 + M + m) sign a b = some (lines a b (line sign))
  | 0 => f_ok sign hs a b ha hb hx M hM hM2
  | m + 1 => cofferref15_tokens.mono _ _ _ _ _ (f_more sign hs a b ha hb hx M hM hM2 m)
end Token
end Go.Proofs.YtkpgklkplmljdaaDoor.refPlain
