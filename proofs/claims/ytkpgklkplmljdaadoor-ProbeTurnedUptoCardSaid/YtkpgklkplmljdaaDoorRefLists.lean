/- The reference's lists of what is missing, in plain words. (Written by gen2.py.) -/
import Derived.Test.YtkpgklkplmljdaaDoorRefPlain
namespace Go.Proofs.YtkpgklkplmljdaaDoor.refPlain
open Go Go.RowKit Go.Proofs.YtkpgklkplmljdaaDoor.PProbeCompares Go.Proofs.YtkpgklkplmljdaaDoorW.PrintWords
theorem num_add (n : Int) (h : -9223372036854775808 ≤ n ∧ n ≤ 9223372036854775807) : ∀ m, cofferref15_num.f (20 + m) n = some (itoaB n)
  | 0 => num_ok n h.1 h.2
  | m + 1 => cofferref15_num.mono n (20 + m) _ (num_add n h m)
theorem num_more (n : Int) (h : -9223372036854775808 ≤ n ∧ n ≤ 9223372036854775807) (K : Nat) (hK : 20 ≤ K) : cofferref15_num.f K n = some (itoaB n) := by
  obtain ⟨m, rfl⟩ : ∃ m, K = 20 + m := ⟨K - 20, by omega⟩
  exact num_add n h m
theorem big_add (u : Nat) (h : u < 18446744073709551616) : ∀ m, cofferref15_big.f (20 + m) (u : Int) = some (dec u)
  | 0 => big_ok u h
  | m + 1 => cofferref15_big.mono _ (20 + m) _ (big_add u h m)
theorem bigz_more (n : Int) (h : 0 ≤ n ∧ n < 18446744073709551616) (K : Nat) (hK : 20 ≤ K) : cofferref15_big.f K n = some (dec n.toNat) := by
  obtain ⟨m, rfl⟩ : ∃ m, K = 20 + m := ⟨K - 20, by omega⟩
  obtain ⟨u, rfl⟩ : ∃ u : Nat, n = (u : Int) := ⟨n.toNat, by omega⟩
  rw [Int.toNat_natCast]
  exact big_add u (by omega) m
theorem dec_size (u : Nat) (h : u < 18446744073709551616) : (dec u).size ≤ 20 := by
  show (Lib.decDigits u).toArray.size ≤ 20
  rw [List.size_toArray, Lib.decDigits_length]
  by_cases hu : u < 10
  · rw [Lib.nDigits_small hu]; omega
  · have := Lib.numDigits_eq u (by omega) h; split at this <;> omega
theorem itoa_size (n : Int) (h : -9223372036854775808 ≤ n ∧ n ≤ 9223372036854775807) : (itoaB n).size ≤ 21 := by
  unfold itoaB Lib.itoa
  split
  · have := dec_size n.natAbs (by omega)
    show (45 :: Lib.decDigits n.natAbs).toArray.size ≤ 21
    have e : (dec n.natAbs).size = (Lib.decDigits n.natAbs).length := List.size_toArray
    rw [List.size_toArray, List.length_cons]; omega
  · have := dec_size n.toNat (by omega)
    show (dec n.toNat).size ≤ 21
    omega
theorem getD_nat {α : Type} (l : List α) (i : Nat) (h : i < l.length) (z : α) : l.getD ((i : Nat) : Int).toNat z = l[i] := by simp [h]

namespace Slot
open Go.Proofs.YtkpgklkplmljdaaDoor.cmpSlot
def line (sign : ByteArray) (x : S50) : ByteArray := (sign ++ (⟨#[32, 115, 108, 111, 116, 32]⟩ : ByteArray)) ++ itoaB x.f0
theorem l1_run (sign : ByteArray) (hs : sign.size ≤ 8) (a b : List S50) (acc : List ByteArray) (i : Nat) (hi : i < a.length) (ha : a.length < 1099511627776) (hb : b.length < 1099511627776) (hacc : acc.length < 8796093022208) (hx : ∀ x ∈ a, -9223372036854775808 ≤ x.f0 ∧ x.f0 ≤ 9223372036854775807)
    (K : Nat) (hK : 20 ≤ K) (r : List ByteArray) : ∀ (n j : Nat) (found : Bool), b.length - j = n →
    (if (found || (b.drop j).any (same a[i])) = true then cofferref15_slots.l0 K sign a b acc ((i + 1 : Nat) : Int) else cofferref15_slots.l0 K sign a b (acc ++ [line sign a[i]]) ((i + 1 : Nat) : Int)) = some r →
    cofferref15_slots.l1 (K + n + 1) sign a b acc (i : Int) found (j : Int) = some r
  | 0, j, found, hj, h => by
    have hd : b.drop j = [] := List.drop_of_length_le (by omega)
    rw [hd] at h
    simp only [List.any_nil, Bool.or_false] at h
    have hw : wrap64 ((i : Int) + 1) = ((i + 1 : Nat) : Int) := by rw [w64 _ (by omega)]; omega
    have hr := hx a[i] (List.getElem_mem hi)
    have e : rd_T50 a (i : Int) = a[i] := getD_nat a i hi _
    rw [cofferref15_slots.l1, if_neg (by omega), hw]
    cases found
    · rw [if_neg (by decide)] at h
      rw [if_neg (by decide), if_pos (by omega), if_pos (by omega), if_pos (by omega), e, num_more _ hr K hK]
      simp only [Option.bind_some]
      rw [if_pos (by have := itoa_size _ hr; simp only [ByteArray.size_append]; have e9 : (⟨#[32, 115, 108, 111, 116, 32]⟩ : ByteArray).size = 6 := rfl; omega), if_pos hacc]
      exact h
    · rw [if_pos rfl] at h
      rw [if_pos rfl]
      exact h
  | n + 1, j, found, hj, h => by
    have hj2 : j < b.length := by omega
    have hw : wrap64 ((j : Int) + 1) = ((j + 1 : Nat) : Int) := by rw [w64 _ (by omega)]; omega
    have e : rd_T50 a (i : Int) = a[i] := getD_nat a i hi _
    have e2 : rd_T50 b (j : Int) = b[j] := getD_nat b j hj2 _
    have hd : b.drop j = b[j] :: b.drop (j + 1) := List.drop_eq_getElem_cons hj2
    rw [hd, List.any_cons] at h
    rw [show K + (n + 1) + 1 = (K + n + 1) + 1 by omega, cofferref15_slots.l1, if_pos (by omega), hw]
    cases found
    · rw [if_neg (by decide), if_pos (by omega), if_pos (by omega), if_pos (by omega), e, e2]
      exact l1_run sign hs a b acc i hi ha hb hacc hx K hK r n (j + 1) (same a[i] b[j]) (by omega) (by rw [Bool.false_or] at h; exact h)
    · rw [if_pos rfl]
      exact l1_run sign hs a b acc i hi ha hb hacc hx K hK r n (j + 1) true (by omega) (by simpa using h)
end Slot

namespace Slot
open Go.Proofs.YtkpgklkplmljdaaDoor.cmpSlot
theorem l0_run (sign : ByteArray) (hs : sign.size ≤ 8) (a b : List S50) (ha : a.length < 1099511627776) (hb : b.length < 1099511627776) (hx : ∀ x ∈ a, -9223372036854775808 ≤ x.f0 ∧ x.f0 ≤ 9223372036854775807) : ∀ (n i : Nat) (acc : List ByteArray), a.length - i = n → acc.length ≤ i →
    cofferref15_slots.l0 (n * (b.length + 2) + 21) sign a b acc (i : Int) = some (acc ++ lines (a.drop i) b (line sign))
  | 0, i, acc, hi, hacc => by
    have hd : a.drop i = [] := List.drop_of_length_le (by omega)
    rw [show 0 * (b.length + 2) + 21 = 20 + 1 by omega, cofferref15_slots.l0, if_neg (by omega), hd]
    simp [lines]
  | n + 1, i, acc, hi, hacc => by
    have hi2 : i < a.length := by omega
    have hd : a.drop i = a[i] :: a.drop (i + 1) := List.drop_eq_getElem_cons hi2
    have hf : (n + 1) * (b.length + 2) + 21 = ((n * (b.length + 2) + 21) + b.length + 1) + 1 := by rw [Nat.add_mul]; omega
    rw [hf, cofferref15_slots.l0, if_pos (by omega)]
    refine l1_run sign hs a b acc i hi2 ha hb (by omega) hx _ (by omega) _ b.length 0 false (by omega) ?_
    rw [List.drop_zero, Bool.false_or]
    have hl : lines (a.drop i) b (line sign) = (if b.any (same a[i]) = true then [] else [line sign a[i]]) ++ lines (a.drop (i + 1)) b (line sign) := by
      rw [hd]
      unfold lines
      rw [List.filter_cons]
      cases b.any (same a[i])
      · simp
      · simp
    rw [hl]
    cases h : b.any (same a[i])
    · rw [if_neg (by decide), if_neg (by decide), l0_run sign hs a b ha hb hx n (i + 1) _ (by omega) (by simp; omega), List.append_assoc]
    · rw [if_pos rfl, if_pos rfl, l0_run sign hs a b ha hb hx n (i + 1) _ (by omega) (by omega), List.nil_append]
theorem f_ok (sign : ByteArray) (hs : sign.size ≤ 8) (a b : List S50) (ha : a.length < 1099511627776) (hb : b.length < 1099511627776) (hx : ∀ x ∈ a, -9223372036854775808 ≤ x.f0 ∧ x.f0 ≤ 9223372036854775807) :
    cofferref15_slots.f (a.length * (b.length + 2) + 21) sign a b = some (lines a b (line sign)) := by
  unfold cofferref15_slots.f
  rw [show (0 : Int) = ((0 : Nat) : Int) from rfl, l0_run sign hs a b ha hb hx a.length 0 [] (by omega) (by simp)]
  simp
theorem f_more (sign : ByteArray) (hs : sign.size ≤ 8) (a b : List S50) (ha : a.length < 1099511627776) (hb : b.length < 1099511627776) (hx : ∀ x ∈ a, -9223372036854775808 ≤ x.f0 ∧ x.f0 ≤ 9223372036854775807) :
    ∀ m, cofferref15_slots.f (a.length * (b.length + 2) + 21 + m) sign a b = some (lines a b (line sign))
  | 0 => f_ok sign hs a b ha hb hx
  | m + 1 => cofferref15_slots.mono _ _ _ _ _ (f_more sign hs a b ha hb hx m)
end Slot

namespace Epoch
open Go.Proofs.YtkpgklkplmljdaaDoor.cmpEpoch
def line (sign : ByteArray) (x : S56) : ByteArray := (sign ++ (⟨#[32, 101, 112, 111, 99, 104, 32]⟩ : ByteArray)) ++ dec x.f0.toNat
theorem l1_run (sign : ByteArray) (hs : sign.size ≤ 8) (a b : List S56) (acc : List ByteArray) (i : Nat) (hi : i < a.length) (ha : a.length < 1099511627776) (hb : b.length < 1099511627776) (hacc : acc.length < 8796093022208) (hx : ∀ x ∈ a, 0 ≤ x.f0 ∧ x.f0 < 18446744073709551616)
    (K : Nat) (hK : 20 ≤ K) (r : List ByteArray) : ∀ (n j : Nat) (found : Bool), b.length - j = n →
    (if (found || (b.drop j).any (same a[i])) = true then cofferref15_epochs.l0 K sign a b acc ((i + 1 : Nat) : Int) else cofferref15_epochs.l0 K sign a b (acc ++ [line sign a[i]]) ((i + 1 : Nat) : Int)) = some r →
    cofferref15_epochs.l1 (K + n + 1) sign a b acc (i : Int) found (j : Int) = some r
  | 0, j, found, hj, h => by
    have hd : b.drop j = [] := List.drop_of_length_le (by omega)
    rw [hd] at h
    simp only [List.any_nil, Bool.or_false] at h
    have hw : wrap64 ((i : Int) + 1) = ((i + 1 : Nat) : Int) := by rw [w64 _ (by omega)]; omega
    have hr := hx a[i] (List.getElem_mem hi)
    have e : rd_T56 a (i : Int) = a[i] := getD_nat a i hi _
    rw [cofferref15_epochs.l1, if_neg (by omega), hw]
    cases found
    · rw [if_neg (by decide)] at h
      rw [if_neg (by decide), if_pos (by omega), if_pos (by omega), if_pos (by omega), e, bigz_more _ hr K hK]
      simp only [Option.bind_some]
      rw [if_pos (by have := dec_size _ (by omega : a[i].f0.toNat < 18446744073709551616); simp only [ByteArray.size_append]; have e9 : (⟨#[32, 101, 112, 111, 99, 104, 32]⟩ : ByteArray).size = 7 := rfl; omega), if_pos hacc]
      exact h
    · rw [if_pos rfl] at h
      rw [if_pos rfl]
      exact h
  | n + 1, j, found, hj, h => by
    have hj2 : j < b.length := by omega
    have hw : wrap64 ((j : Int) + 1) = ((j + 1 : Nat) : Int) := by rw [w64 _ (by omega)]; omega
    have e : rd_T56 a (i : Int) = a[i] := getD_nat a i hi _
    have e2 : rd_T56 b (j : Int) = b[j] := getD_nat b j hj2 _
    have hd : b.drop j = b[j] :: b.drop (j + 1) := List.drop_eq_getElem_cons hj2
    rw [hd, List.any_cons] at h
    rw [show K + (n + 1) + 1 = (K + n + 1) + 1 by omega, cofferref15_epochs.l1, if_pos (by omega), hw]
    cases found
    · rw [if_neg (by decide), if_pos (by omega), if_pos (by omega), if_pos (by omega), e, e2]
      exact l1_run sign hs a b acc i hi ha hb hacc hx K hK r n (j + 1) (same a[i] b[j]) (by omega) (by rw [Bool.false_or] at h; exact h)
    · rw [if_pos rfl]
      exact l1_run sign hs a b acc i hi ha hb hacc hx K hK r n (j + 1) true (by omega) (by simpa using h)
end Epoch

namespace Epoch
open Go.Proofs.YtkpgklkplmljdaaDoor.cmpEpoch
theorem l0_run (sign : ByteArray) (hs : sign.size ≤ 8) (a b : List S56) (ha : a.length < 1099511627776) (hb : b.length < 1099511627776) (hx : ∀ x ∈ a, 0 ≤ x.f0 ∧ x.f0 < 18446744073709551616) : ∀ (n i : Nat) (acc : List ByteArray), a.length - i = n → acc.length ≤ i →
    cofferref15_epochs.l0 (n * (b.length + 2) + 21) sign a b acc (i : Int) = some (acc ++ lines (a.drop i) b (line sign))
  | 0, i, acc, hi, hacc => by
    have hd : a.drop i = [] := List.drop_of_length_le (by omega)
    rw [show 0 * (b.length + 2) + 21 = 20 + 1 by omega, cofferref15_epochs.l0, if_neg (by omega), hd]
    simp [lines]
  | n + 1, i, acc, hi, hacc => by
    have hi2 : i < a.length := by omega
    have hd : a.drop i = a[i] :: a.drop (i + 1) := List.drop_eq_getElem_cons hi2
    have hf : (n + 1) * (b.length + 2) + 21 = ((n * (b.length + 2) + 21) + b.length + 1) + 1 := by rw [Nat.add_mul]; omega
    rw [hf, cofferref15_epochs.l0, if_pos (by omega)]
    refine l1_run sign hs a b acc i hi2 ha hb (by omega) hx _ (by omega) _ b.length 0 false (by omega) ?_
    rw [List.drop_zero, Bool.false_or]
    have hl : lines (a.drop i) b (line sign) = (if b.any (same a[i]) = true then [] else [line sign a[i]]) ++ lines (a.drop (i + 1)) b (line sign) := by
      rw [hd]
      unfold lines
      rw [List.filter_cons]
      cases b.any (same a[i])
      · simp
      · simp
    rw [hl]
    cases h : b.any (same a[i])
    · rw [if_neg (by decide), if_neg (by decide), l0_run sign hs a b ha hb hx n (i + 1) _ (by omega) (by simp; omega), List.append_assoc]
    · rw [if_pos rfl, if_pos rfl, l0_run sign hs a b ha hb hx n (i + 1) _ (by omega) (by omega), List.nil_append]
theorem f_ok (sign : ByteArray) (hs : sign.size ≤ 8) (a b : List S56) (ha : a.length < 1099511627776) (hb : b.length < 1099511627776) (hx : ∀ x ∈ a, 0 ≤ x.f0 ∧ x.f0 < 18446744073709551616) :
    cofferref15_epochs.f (a.length * (b.length + 2) + 21) sign a b = some (lines a b (line sign)) := by
  unfold cofferref15_epochs.f
  rw [show (0 : Int) = ((0 : Nat) : Int) from rfl, l0_run sign hs a b ha hb hx a.length 0 [] (by omega) (by simp)]
  simp
theorem f_more (sign : ByteArray) (hs : sign.size ≤ 8) (a b : List S56) (ha : a.length < 1099511627776) (hb : b.length < 1099511627776) (hx : ∀ x ∈ a, 0 ≤ x.f0 ∧ x.f0 < 18446744073709551616) :
    ∀ m, cofferref15_epochs.f (a.length * (b.length + 2) + 21 + m) sign a b = some (lines a b (line sign))
  | 0 => f_ok sign hs a b ha hb hx
  | m + 1 => cofferref15_epochs.mono _ _ _ _ _ (f_more sign hs a b ha hb hx m)
end Epoch
end Go.Proofs.YtkpgklkplmljdaaDoor.refPlain
