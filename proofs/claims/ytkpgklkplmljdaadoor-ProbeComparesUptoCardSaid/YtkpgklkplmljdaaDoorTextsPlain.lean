/- What SameTexts and SpoilTexts tell of lists, in plain words. -/
import Derived.Test.YtkpgklkplmljdaaDoorPProbeComparesx7
import Derived.Test.YtkpgklkplmljdaaDoorPProbeComparesx11
namespace Go.Proofs.YtkpgklkplmljdaaDoor.textsPlain
open Go Go.RowKit Go.Proofs.YtkpgklkplmljdaaDoor.PProbeCompares Go.Proofs.YtkpgklkplmljdaaDoorW.PrintWords
theorem w64 (n : Int) (h : -9223372036854775808 ≤ n ∧ n ≤ 9223372036854775807) : wrap64 n = n := by unfold wrap64; omega
theorem same_loop (l : List ByteArray) (h : l.length < 17592186044416) : ∀ (n i : Nat), l.length - i = n → cofferbook_SameTexts.l0 (n + 1) l l i = some true
  | 0, i, hi => by
    rw [cofferbook_SameTexts.l0, if_neg (by omega)]
  | n + 1, i, hi => by
    rw [cofferbook_SameTexts.l0, if_pos (by omega), if_pos (by omega), if_pos (by omega), if_pos rfl, w64 _ (by omega)]
    exact same_loop l h n (i + 1) (by omega)
theorem same_refl (l : List ByteArray) (h : l.length < 17592186044416) : cofferbook_SameTexts.f (l.length + 1) l l = some true := by
  unfold cofferbook_SameTexts.f
  rw [if_pos rfl]
  exact same_loop l h l.length 0 (by omega)
theorem spoil_more : ∀ (n j : Nat) (l : List ByteArray), j + n = 70 → 0 < l.length ∨ 0 < n → l.length + n < 8796093022208 → cofferbook_SpoilTexts.l1 (n + 1) l j = some ()
  | 0, j, l, hj, hl, h => by
    rw [cofferbook_SpoilTexts.l1, if_neg (by omega), w64 _ (by omega), if_pos (by omega), if_pos (by omega)]
  | n + 1, j, l, hj, hl, h => by
    rw [cofferbook_SpoilTexts.l1, if_pos (by omega), if_pos (by omega), w64 ((j : Int) + 1) (by omega)]
    exact spoil_more n (j + 1) _ (by omega) (Or.inl (by simp)) (by simp; omega)
theorem spoil_loop : ∀ (n i : Nat) (l : List ByteArray), l.length - i = n → l.length < 8796093022000 → cofferbook_SpoilTexts.l0 (n + 72) l i = some ()
  | 0, i, l, hi, h => by
    rw [show 0 + 72 = 71 + 1 from rfl, cofferbook_SpoilTexts.l0, if_neg (by omega)]
    exact spoil_more 70 0 _ (by omega) (Or.inr (by omega)) (by omega)
  | n + 1, i, l, hi, h => by
    rw [show n + 1 + 72 = (n + 72) + 1 from by omega, cofferbook_SpoilTexts.l0, if_pos (by omega), if_pos (by omega), w64 _ (by omega)]
    exact spoil_loop n (i + 1) _ (by simp; omega) (by simpa using h)
theorem spoil_ok (l : List ByteArray) (h : l.length < 8796093022000) : cofferbook_SpoilTexts.f (l.length + 72) l = some () := by
  unfold cofferbook_SpoilTexts.f
  exact spoil_loop l.length 0 l (by omega) h
end Go.Proofs.YtkpgklkplmljdaaDoor.textsPlain
