/- The Go text of probe.Quote puts a text in quotes as the plain function says. The text has at most 1048576 bytes. -/
import Derived.Test.YtkpgklkplmljdaaShelf
import Derived.Test.YtkpgklkplmljdaaQuotePlain
import Derived.WalkKit
import Derived.BigCall

import Derived.Below
namespace Go.Proofs.Ytkpgklkplmljdaa.quote
open Go.RowKit
set_option maxRecDepth 100000 in
theorem quote_walk (s : ByteArray) (w : World) (hs : s.size ≤ 1048576) :
    Calls Try.prog 6 #[.string s] w fun e w' => e = .returned (.string ⟨(quoted s.data.toList).toArray⟩) ∧ Below w.heap.size w w' := by
  have hfr := Lib.fresh_isBuilder 50 5 w
  go_enter Try.func6, Try.ntmps6
  go_wp2_with fail
  refine (Try.Builder_WriteByte w.heap.size w.heap.size _ 34 _ hfr (by simp) (by simp)).mono ?_
  rintro e W1 ⟨rfl, h1, b1⟩
  go_wp2_with fail
  go_loopw [9] (fun i wr => ∃ k : Nat, k ≤ s.size ∧ i = .int .i64 k ∧ Lib.IsBuilder 50 5 w.heap.size w.heap.size (Lib.byteCells (34 :: (s.data.toList.take k).flatMap qbyte)) wr ∧ Below w.heap.size w wr) (fun i _ => s.size - (intOf i).toNat)
  case atStart => exact ⟨0, Nat.zero_le _, rfl, Or.inr (by simpa [Lib.byteCells] using h1), ((Below.refl _ w).alloc (Nat.le_refl _) _).trans b1⟩
  case round =>
    obtain ⟨k, hk, rfl, hI, hb⟩ := hrel
    have hB : w.heap.size ≤ wr.heap.size := hb.size
    by_cases hlt : k < s.size
    · have hl : ((s.data.toList.take k).flatMap qbyte).length ≤ 4 * k := Nat.le_trans (flat_le _) (Nat.mul_le_mul_left 4 (by simp; omega))
      have hL : (Lib.byteCells (34 :: (s.data.toList.take k).flatMap qbyte)).length ≤ 1 + 4 * k := by rw [Lib.byteCells_length, List.length_cons]; omega
      have hc256 : (s[k].toNat : Int) < 256 := by have := s[k].toNat_lt; omega
      go_wp2_with fail
      all_goals first | (go_at_call 13; refine (Try.Builder_WriteString w.heap.size w.heap.size _ ⟨#[92, 120]⟩ _ hI (by show _ + 2 ≤ _; omega) hB).mono ?_; rintro e W2 ⟨rfl, h2, b2⟩; have hB2 : w.heap.size ≤ W2.heap.size := Nat.le_trans hB b2.size; go_wp2_with fail; refine (Try.Builder_WriteByte w.heap.size w.heap.size _ _ _ (Or.inr h2) (by rw [List.length_append]; show _ + 2 + 1 ≤ _; omega) hB2).mono ?_; rintro e W3 ⟨rfl, h3, b3⟩; have hB3 : w.heap.size ≤ W3.heap.size := Nat.le_trans hB2 b3.size; go_wp2_with fail; refine (Try.Builder_WriteByte w.heap.size w.heap.size _ _ _ (Or.inr h3) (by rw [List.length_append, List.length_append]; show _ + 2 + 1 + 1 ≤ _; omega) hB3).mono ?_; rintro e W4 ⟨rfl, h4, b4⟩; go_wp2_with fail) | (go_at_call 12; refine (Try.Builder_WriteByte w.heap.size w.heap.size _ _ _ hI (by omega) hB).mono ?_; rintro e W2 ⟨rfl, h2, b2⟩; go_wp2_with fail)
      all_goals first
        | (have ho : odd s[k] = true := by (unfold odd; simp only [Bool.or_eq_true, decide_eq_true_eq, beq_iff_eq] at *; omega)
           refine ⟨⟨k + 1, by omega, by go_num, Or.inr ?_, ((hb.trans b2).trans b3).trans b4⟩, by simp [intOf]; omega⟩
           rw [flat_snoc s k hlt]
           refine built_odd h4 ho ?_ ?_
           all_goals first
             | exact dig _ _
             | (rw [show s[k].toNat = 34 by omega]; rfl))
        | (have ho : odd s[k] = false := by (unfold odd; simp only [Bool.or_eq_false_iff, decide_eq_false_iff_not, beq_eq_false_iff_ne, ne_eq] at *; omega)
           refine ⟨⟨k + 1, by omega, by go_num, Or.inr ?_, hb.trans b2⟩, by simp [intOf]; omega⟩
           rw [flat_snoc s k hlt]
           exact built_even h2 ho)
    · obtain rfl : k = s.size := by omega
      have hall : s.data.toList.take s.size = s.data.toList := List.take_of_length_le (by simp)
      rw [hall] at hI
      have hl : (s.data.toList.flatMap qbyte).length ≤ 4 * s.size := Nat.le_trans (flat_le _) (by simp)
      go_wp2_with fail
      refine (Try.Builder_WriteByte w.heap.size w.heap.size _ _ _ hI (by rw [Lib.byteCells_length, List.length_cons]; omega) hB).mono ?_
      rintro e W2 ⟨rfl, h2, b2⟩
      rw [cells_end] at h2
      have hB2 : w.heap.size ≤ W2.heap.size := Nat.le_trans hB b2.size
      go_wp2_with fail
      refine (Try.Builder_String_any w.heap.size w.heap.size (34 :: (s.data.toList.flatMap qbyte ++ [34])) _ (Or.inr h2) hB2).mono ?_
      rintro e W3 ⟨rfl, b3⟩
      go_wp2
      go_ret
      exact ⟨rfl, (hb.trans b2).trans b3⟩
#print axioms quote_walk
end Go.Proofs.Ytkpgklkplmljdaa.quote
