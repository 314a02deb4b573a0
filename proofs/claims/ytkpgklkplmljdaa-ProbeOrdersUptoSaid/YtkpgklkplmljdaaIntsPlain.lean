/- What SameInts and SpoilInts tell of a list and itself. -/
import Derived.Test.YtkpgklkplmljdaaInts
import Derived.Test.YtkpgklkplmljdaaOrderPlain
namespace Go.Proofs.Ytkpgklkplmljdaa.PProbeOrders
open Go Go.RowKit Go.Proofs.YtkpgklkplmljdaaW.PrintWords
theorem w64 (n : Int) (h : -9223372036854775808 ≤ n ∧ n ≤ 9223372036854775807) : wrap64 n = n := by unfold wrap64; omega
theorem same_loop (l : List Int) (h : l.length < 17592186044416) : ∀ (n i : Nat), l.length - i = n → cofferbook_SameInts.l0 (n + 1) l l i = some true
  | 0, i, hi => by
    rw [cofferbook_SameInts.l0, if_neg (by omega)]
  | n + 1, i, hi => by
    rw [cofferbook_SameInts.l0, if_pos (by omega), if_pos (by omega), if_pos (by omega), if_pos rfl, w64 _ (by omega)]
    exact same_loop l h n (i + 1) (by omega)
theorem same_refl (l : List Int) (h : l.length < 17592186044416) : cofferbook_SameInts.f (l.length + 1) l l = some true := by
  unfold cofferbook_SameInts.f
  rw [if_pos rfl]
  exact same_loop l h l.length 0 (by omega)
theorem spoil_more : ∀ (n j : Nat) (l : List Int), j + n = 70 → 0 < l.length → l.length + n < 17592186044416 → cofferbook_SpoilInts.l1 (n + 1) l j = some ()
  | 0, j, l, hj, hl, h => by
    rw [cofferbook_SpoilInts.l1, if_neg (by omega), w64 _ (by omega), if_pos (by omega), if_pos (by omega)]
  | n + 1, j, l, hj, hl, h => by
    rw [cofferbook_SpoilInts.l1, if_pos (by omega), if_pos (by omega), w64 ((j : Int) + 1) (by omega)]
    exact spoil_more n (j + 1) _ (by omega) (by simp) (by simp; omega)
theorem spoil_loop : ∀ (n i : Nat) (l : List Int), l.length - i = n → l.length < 17592186044000 → cofferbook_SpoilInts.l0 (n + 72) l i = some ()
  | 0, i, l, hi, h => by
    rw [show 0 + 72 = 71 + 1 from rfl, cofferbook_SpoilInts.l0, if_neg (by omega), if_pos (by omega)]
    exact spoil_more 70 0 _ (by omega) (by simp) (by simp; omega)
  | n + 1, i, l, hi, h => by
    rw [show n + 1 + 72 = (n + 72) + 1 from by omega, cofferbook_SpoilInts.l0, if_pos (by omega), if_pos (by omega), w64 _ (by omega)]
    exact spoil_loop n (i + 1) _ (by simp; omega) (by simpa using h)
theorem spoil_ok (l : List Int) (h : l.length < 17592186044000) : cofferbook_SpoilInts.f (l.length + 72) l = some () := by
  unfold cofferbook_SpoilInts.f
  exact spoil_loop l.length 0 l (by omega) h
theorem ordered_le (l : List S45) : (ordered l).length ≤ 2 * l.length := by
  have h : ∀ p, (ordSel p l).length ≤ l.length := fun p => by unfold ordSel; rw [List.length_map]; exact List.length_filter_le _ _
  unfold ordered ordSort
  have h1 := h 1; have h2 := h 2
  simp; omega
end Go.Proofs.Ytkpgklkplmljdaa.PProbeOrders
