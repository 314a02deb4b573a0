/- A text in quotes, and read again: plain words. -/
import Derived.Test.YtkoldjmhcifpjaaParsePlain
namespace Go.Proofs.Ytkoldjmhcifpjaa.quotep
open Go.Proofs.Ytkoldjmhcifpjaa.parsep
set_option linter.unusedVariables false
set_option linter.unusedSimpArgs false
def hx (n : UInt8) : UInt8 := if n < 10 then 48 + n else 87 + n
def esc (c : UInt8) : Bs := if c = 34 ∨ c = 92 then [92, c] else if isPl c || c == 32 then [c] else [92, 120, hx (c / 16), hx (c % 16)]
def quote (s : Bs) : Bs := 34 :: (s.flatMap esc ++ [34])
theorem hx_hi (c : UInt8) : isHex (hx (c / 16)) = true := all_u8 (p := fun c => isHex (hx (c / 16))) (by decide +kernel) c
theorem hx_lo (c : UInt8) : isHex (hx (c % 16)) = true := all_u8 (p := fun c => isHex (hx (c % 16))) (by decide +kernel) c
theorem hx_back (c : UInt8) : 16 * hexv (hx (c / 16)) + hexv (hx (c % 16)) = c := eq_of_beq (all_u8 (p := fun c => 16 * hexv (hx (c / 16)) + hexv (hx (c % 16)) == c) (by decide +kernel) c)
theorem pl_fine (c : UInt8) (h : (isPl c || c == 32) = true) : fine c = true := by
  have h1 := all_u8 (p := fun c => !(isPl c || c == 32) || fine c) (by decide +kernel) c
  simpa [h] using h1
theorem quoted_quote : ∀ (s r : Bs) (p : Nat), inQuotes (s.flatMap esc ++ 34 :: r) p = .ok (s, r, p + (s.flatMap esc).length + 1)
  | [], r, p => by
    show inQuotes (34 :: r) p = _
    rw [q34]
    rfl
  | c :: s, r, p => by
    have ih := fun p => quoted_quote s r p
    rw [List.flatMap_cons, List.append_assoc]
    by_cases h : c = 34 ∨ c = 92
    · have e : esc c = [92, c] := by simp [esc, h]
      rw [e]
      show inQuotes (92 :: c :: (s.flatMap esc ++ 34 :: r)) p = _
      rw [qe1 c _ p h, ih]
      simp; omega
    · by_cases hp : (isPl c || c == 32) = true
      · have e : esc c = [c] := by unfold esc; rw [if_neg h, if_pos hp]
        rw [e]
        show inQuotes (c :: (s.flatMap esc ++ 34 :: r)) p = _
        rw [qplain c _ p (fun e => h (.inl e)) (pl_fine c hp) (fun e => h (.inr e)), ih]
        simp; omega
      · have e : esc c = [92, 120, hx (c / 16), hx (c % 16)] := by unfold esc; rw [if_neg h, if_neg hp]
        rw [e]
        show inQuotes (92 :: 120 :: hx (c / 16) :: hx (c % 16) :: (s.flatMap esc ++ 34 :: r)) p = _
        rw [qx4 _ _ _ p (hx_hi c) (hx_lo c), ih]
        simp [hx_back]; omega
theorem skip_id (c : UInt8) (t : Bs) (h : isBl c = false) : skip (c :: t) = c :: t := by simp [skip, h]
theorem skip_bl (t : Bs) : skip (32 :: t) = skip t := by simp [skip, show isBl 32 = true by decide]
theorem span1 (c x : UInt8) (t : Bs) (h : isLet c = true) (hx : isLet x = false) : span isLet 16 (c :: x :: t) = ([c], x :: t) := by simp [span, h, hx]
/-- A line that holds a text in quotes says that text. -/
theorem line_quote (s : Bs) (f : Nat) (hf : 3 ≤ f) : prog (f + 1) 0 ⟨[], [], []⟩ ([97, 32, 98, 32, 99, 61] ++ quote s) 0 = .ok ⟨[97], [98], [([99], s)]⟩ := by
  obtain ⟨g, rfl⟩ : ∃ g, f = g + 3 := ⟨f - 3, by omega⟩
  have e0 : [97, 32, 98, 32, 99, 61] ++ quote s = (97 : UInt8) :: 32 :: 98 :: 32 :: 99 :: 61 :: quote s := rfl
  have l1 : ∀ (c : UInt8) (x : UInt8) (t : Bs) (p : Nat), isLet c = true → isLet x = false → letters (c :: x :: t) p = .ok ([c], x :: t, p + 1) := by
    intro c x t p hc hx
    unfold letters
    rw [span1 c x t hc hx]
    simp
  rw [e0]
  rw [prog_step (g + 3) 0 ⟨[], [], []⟩ _ 0 97 _ (skip_id 97 _ (by decide)) (by decide)]
  have b0 : ∀ q, body 0 ⟨[], [], []⟩ (97 :: 32 :: 98 :: 32 :: 99 :: 61 :: quote s) q = .ok (⟨[97], [], []⟩, 32 :: 98 :: 32 :: 99 :: 61 :: quote s, q + 1) := by
    intro q
    unfold body
    rw [if_pos rfl, l1 97 32 _ q (by decide) (by decide)]
  rw [b0]
  dsimp only
  rw [if_pos (show over (32 :: 98 :: 32 :: 99 :: 61 :: quote s) = true from rfl)]
  have s2 : skip (32 :: 98 :: 32 :: 99 :: 61 :: quote s) = 98 :: 32 :: 99 :: 61 :: quote s := by rw [skip_bl, skip_id 98 _ (by decide)]
  rw [prog_step (g + 2) 1 _ _ _ 98 _ s2 (by decide)]
  have b1 : ∀ q, body 1 ⟨[97], [], []⟩ (98 :: 32 :: 99 :: 61 :: quote s) q = .ok (⟨[97], [98], []⟩, 32 :: 99 :: 61 :: quote s, q + 1) := by
    intro q
    unfold body word
    rw [if_neg (by decide), if_pos rfl, l1 98 32 _ q (by decide) (by decide)]
    dsimp only
    rw [if_neg (by simp)]
    have e : span isNam (16 - [(98 : UInt8)].length) (32 :: 99 :: 61 :: quote s) = ([], 32 :: 99 :: 61 :: quote s) := by simp [span, show isNam 32 = false by decide]
    unfold named
    rw [e, if_pos (show over (32 :: 99 :: 61 :: quote s) = true from rfl)]
    dsimp only
    rw [if_pos (show over (32 :: 99 :: 61 :: quote s) = true from rfl)]
    rfl
  rw [b1]
  dsimp only
  rw [if_pos (show over (32 :: 99 :: 61 :: quote s) = true from rfl)]
  have s3 : skip (32 :: 99 :: 61 :: quote s) = 99 :: 61 :: quote s := by rw [skip_bl, skip_id 99 _ (by decide)]
  rw [prog_step (g + 1) 2 _ _ _ 99 _ s3 (by decide)]
  have b2 : ∀ q, body 2 ⟨[97], [98], []⟩ (99 :: 61 :: quote s) q = .ok (⟨[97], [98], [([99], s)]⟩, [], q + 1 + 1 + 1 + (s.flatMap esc).length + 1) := by
    intro q
    unfold body
    rw [if_neg (by decide), if_neg (by decide), l1 99 61 _ q (by decide) (by decide)]
    dsimp only
    unfold opt
    dsimp only
    rw [if_pos rfl]
    have ev : value (quote s) (q + 1 + 1) = .ok (s, [], q + 1 + 1 + 1 + (s.flatMap esc).length + 1) := by
      show inQuotes (s.flatMap esc ++ [34]) (q + 1 + 1 + 1) = _
      exact quoted_quote s [] _
    rw [ev]
    rfl
  rw [b2]
  dsimp only
  rw [if_pos (show over [] = true from rfl)]
  unfold prog
  rfl
end Go.Proofs.Ytkoldjmhcifpjaa.quotep
