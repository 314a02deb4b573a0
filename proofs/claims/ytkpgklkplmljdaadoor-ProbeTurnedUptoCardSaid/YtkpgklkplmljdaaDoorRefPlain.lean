/- What the reference's numbers and lists come to, in plain words. -/
import Derived.Test.YtkpgklkplmljdaaDoorPProbeComparesx8
import Derived.Lib.ItoaNum
import Derived.Test.YtkpgklkplmljdaaDoorCmpSlot
import Derived.Test.YtkpgklkplmljdaaDoorCmpEpoch
namespace Go.Proofs.YtkpgklkplmljdaaDoor.refPlain
open Go Go.RowKit Go.Proofs.YtkpgklkplmljdaaDoor.PProbeCompares Go.Proofs.YtkpgklkplmljdaaDoorW.PrintWords
theorem w64 (n : Int) (h : -9223372036854775808 ≤ n ∧ n ≤ 9223372036854775807) : wrap64 n = n := by unfold wrap64; omega
theorem wu (n : Int) (h : 0 ≤ n ∧ n < 18446744073709551616) : IntKind.u64.wrap n = n := by rw [IntKind.wrap_u64]; omega

/-- A number's text. -/
def dec (u : Nat) : ByteArray := ⟨(Lib.decDigits u).toArray⟩
def itoaB (n : Int) : ByteArray := ⟨(Lib.itoa n).toArray⟩
theorem ba_append (a b : List UInt8) : (⟨a.toArray⟩ : ByteArray) ++ ⟨b.toArray⟩ = ⟨(a ++ b).toArray⟩ := by
  apply ByteArray.ext
  simp [ByteArray.data_append]
theorem dec_small {u : Nat} (h : u < 10) : dec u = strOfNums [((48 + u : Nat) : Int)] := by
  unfold dec
  rw [Lib.decDigits, dif_pos h]
  rfl
theorem dec_big {u : Nat} (h : ¬ u < 10) : dec u = dec (u / 10) ++ strOfNums [((48 + u % 10 : Nat) : Int)] := by
  unfold dec
  rw [show strOfNums [((48 + u % 10 : Nat) : Int)] = (⟨[UInt8.ofNat (48 + u % 10)].toArray⟩ : ByteArray) from rfl, ba_append]
  conv => lhs; rw [Lib.decDigits, dif_neg h]
theorem big_loop : ∀ (m u : Nat) (s : ByteArray), u < 10 ^ (m + 1) → u < 18446744073709551616 → s.size + (m + 1) < 9223372036854775807 → cofferref15_big.l0 (m + 1) (u : Int) s = some (dec u ++ s)
  | m, u, s, h, h64, hs => by
    have e1 : Int.tmod (u : Int) 10 = ((u % 10 : Nat) : Int) := rfl
    have e2 : Int.tdiv (u : Int) 10 = ((u / 10 : Nat) : Int) := rfl
    have e3 : IntKind.u64.wrap (48 + ((u % 10 : Nat) : Int)) % 256 = ((48 + u % 10 : Nat) : Int) := by rw [wu _ (by omega)]; omega
    have e4 : IntKind.u64.wrap ((u / 10 : Nat) : Int) = ((u / 10 : Nat) : Int) := wu _ (by omega)
    rw [cofferref15_big.l0, e1, e2, e3, e4]
    simp only [Option.bind_some]
    rw [if_pos (by rw [strOfNums_size]; simp; omega)]
    by_cases hu : u < 10
    · rw [if_pos (by omega), dec_small hu, show u % 10 = u by omega]
    · rw [if_neg (by omega)]
      match m, h, hs with
      | 0, h, hs => simp at h; omega
      | m + 1, h, hs =>
        rw [big_loop m (u / 10) _ (by rw [Nat.pow_succ] at h; omega) (by omega) (by rw [ByteArray.size_append, strOfNums_size]; simp; omega), dec_big hu, ByteArray.append_assoc]
theorem big_ok (u : Nat) (h : u < 18446744073709551616) : cofferref15_big.f 20 (u : Int) = some (dec u) := by
  unfold cofferref15_big.f
  rw [big_loop 19 u _ (by omega) h (by simp [ByteArray.size])]
  exact congrArg some ((ba_append (Lib.decDigits u) []).trans (by rw [List.append_nil]; rfl))
theorem whole_ok (n : Int) (h0 : -9223372036854775808 ≤ n) (h1 : n ≤ 9223372036854775807) : cofferref15_whole.f 20 n = some (itoaB n) := by
  unfold cofferref15_whole.f
  by_cases hn : n < 0
  · obtain ⟨u, rfl⟩ : ∃ u : Nat, n = -(u : Int) := ⟨n.natAbs, by omega⟩
    have e : IntKind.u64.wrap (IntKind.u64.wrap (wrap64 (-(wrap64 (-(u : Int) + 1)))) + 1) = (u : Int) := by
      rw [w64 (-(u : Int) + 1) (by omega), w64 (-(-(u : Int) + 1)) (by omega), wu (-(-(u : Int) + 1)) (by omega), wu _ (by omega)]; omega
    rw [if_pos hn, e, big_ok u (by omega)]
    simp only [Option.bind_some]
    have hz : (dec u).size ≤ 20 := by
      show (Lib.decDigits u).toArray.size ≤ 20
      rw [List.size_toArray, Lib.decDigits_length]
      have := Lib.numDigits_eq u (by omega) (by omega); split at this <;> omega
    rw [if_pos (by omega)]
    unfold itoaB Lib.itoa dec
    rw [if_pos hn, show (-(u : Int)).natAbs = u by omega]
    exact congrArg some (ba_append [45] _)
  · obtain ⟨u, rfl⟩ : ∃ u : Nat, n = (u : Int) := ⟨n.toNat, by omega⟩
    rw [if_neg hn, wu _ (by omega), big_ok u (by omega)]
    simp only [Option.bind_some]
    unfold itoaB Lib.itoa dec
    rw [if_neg hn, Int.toNat_natCast]
theorem num_ok (n : Int) (h0 : -9223372036854775808 ≤ n) (h1 : n ≤ 9223372036854775807) : cofferref15_num.f 20 n = some (itoaB n) := by
  unfold cofferref15_num.f
  rw [whole_ok n h0 h1]
  rfl
end Go.Proofs.YtkpgklkplmljdaaDoor.refPlain
