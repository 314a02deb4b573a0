/- The plain side of probe's Quote: what one byte, and a whole text, becomes in quotes. Nothing of the program is in it. -/
import Derived.Lib.UnsafeStr
import Derived.Lib.Builder
namespace Go.Proofs.Ytkpgklkplmljdaa.quote
open Go
def hexd (n : Nat) : UInt8 := if n < 10 then UInt8.ofNat (48 + n) else UInt8.ofNat (87 + n)
def odd (c : UInt8) : Bool := decide (c.toNat < 32) || decide (126 < c.toNat) || c.toNat == 34 || c.toNat == 92
def qbyte (c : UInt8) : List UInt8 := if odd c = true then [92, 120, hexd (c.toNat / 16), hexd (c.toNat % 16)] else [c]
def quoted (l : List UInt8) : List UInt8 := 34 :: (l.flatMap qbyte ++ [34])
theorem qbyte_le (c : UInt8) : (qbyte c).length ≤ 4 := by unfold qbyte; split <;> simp
theorem flat_le (l : List UInt8) : (l.flatMap qbyte).length ≤ 4 * l.length := by
  induction l with
  | nil => simp
  | cons x r ih => have := qbyte_le x; simp only [List.flatMap_cons, List.length_append, List.length_cons]; omega
theorem take_snoc (s : ByteArray) (k : Nat) (h : k < s.size) : s.data.toList.take (k + 1) = s.data.toList.take k ++ [s[k]] := by
  rw [List.take_succ_eq_append_getElem (by simpa using h)]; rfl
theorem flat_snoc (s : ByteArray) (k : Nat) (h : k < s.size) : (s.data.toList.take (k + 1)).flatMap qbyte = (s.data.toList.take k).flatMap qbyte ++ qbyte s[k] := by
  rw [take_snoc s k h, List.flatMap_append]; simp
def digits : ByteArray := ⟨#[48, 49, 50, 51, 52, 53, 54, 55, 56, 57, 97, 98, 99, 100, 101, 102]⟩
theorem dig (j : Nat) (h : j < digits.size) : (digits[j]'h).toNat = (hexd j).toNat := by
  have : ∀ j : Fin 16, (digits[j.val]'(by show _ < 16; exact j.isLt)).toNat = (hexd j.val).toNat := by decide
  exact this ⟨j, h⟩
theorem cells_odd (l : List UInt8) (c : UInt8) (X Y : Nat) (ho : odd c = true) (hX : X = (hexd (c.toNat / 16)).toNat) (hY : Y = (hexd (c.toNat % 16)).toNat) :
    Lib.byteCells (34 :: l) ++ Lib.strCells ⟨#[92, 120]⟩ ++ [.int .u8 (X : Int)] ++ [.int .u8 (Y : Int)] = Lib.byteCells (34 :: (l ++ qbyte c)) := by
  subst hX; subst hY
  unfold qbyte
  rw [if_pos ho]
  simp [Lib.byteCells, Lib.strCells]
theorem cells_even (l : List UInt8) (c : UInt8) (ho : odd c = false) : Lib.byteCells (34 :: l) ++ [.int .u8 (c.toNat : Int)] = Lib.byteCells (34 :: (l ++ qbyte c)) := by
  unfold qbyte
  rw [if_neg (by simp [ho])]
  simp [Lib.byteCells]
theorem cells_end (l : List UInt8) : Lib.byteCells (34 :: l) ++ [.int .u8 34] = Lib.byteCells (34 :: (l ++ [34])) := by
  simp [Lib.byteCells]
theorem built_odd {T e : TypeId} {B b : Nat} {p : Value} {W : World} {l : List UInt8} {c : UInt8} {X Y : Nat}
    (h : Lib.BuilderAt T e B b p (Lib.byteCells (34 :: l) ++ Lib.strCells ⟨#[92, 120]⟩ ++ [.int .u8 (X : Int)] ++ [.int .u8 (Y : Int)]) W)
    (ho : odd c = true) (hX : X = (hexd (c.toNat / 16)).toNat) (hY : Y = (hexd (c.toNat % 16)).toNat) : Lib.BuilderAt T e B b p (Lib.byteCells (34 :: (l ++ qbyte c))) W := by
  rw [← cells_odd l c X Y ho hX hY]; exact h
theorem built_even {T e : TypeId} {B b : Nat} {p : Value} {W : World} {l : List UInt8} {c : UInt8}
    (h : Lib.BuilderAt T e B b p (Lib.byteCells (34 :: l) ++ [.int .u8 (c.toNat : Int)]) W) (ho : odd c = false) : Lib.BuilderAt T e B b p (Lib.byteCells (34 :: (l ++ qbyte c))) W := by
  rw [← cells_even l c ho]; exact h
/-- The ways through the four tests, each as a Bool equation. -/
theorem tests (c : UInt8) : (odd c = true ∧ (decide ((c.toNat : Int) < 32) = true ∨ (decide ((c.toNat : Int) < 32) = false ∧ decide (126 < (c.toNat : Int)) = true) ∨
      (decide ((c.toNat : Int) < 32) = false ∧ decide (126 < (c.toNat : Int)) = false ∧ ((c.toNat : Int) == 34) = true) ∨
      (decide ((c.toNat : Int) < 32) = false ∧ decide (126 < (c.toNat : Int)) = false ∧ ((c.toNat : Int) == 34) = false ∧ ((c.toNat : Int) == 92) = true))) ∨
    (odd c = false ∧ decide ((c.toNat : Int) < 32) = false ∧ decide (126 < (c.toNat : Int)) = false ∧ ((c.toNat : Int) == 34) = false ∧ ((c.toNat : Int) == 92) = false) := by
  unfold odd
  simp only [Bool.or_eq_true, Bool.or_eq_false_iff, decide_eq_true_eq, decide_eq_false_iff_not, beq_iff_eq, beq_eq_false_iff_ne, ne_eq]
  omega
theorem cells_odd' (l : List UInt8) (c : UInt8) (X Y : Nat) (ho : odd c = true) (hX : X = (hexd (c.toNat / 16)).toNat) (hY : Y = (hexd (c.toNat % 16)).toNat) :
    Lib.byteCells (34 :: l) ++ [Value.int .u8 92, .int .u8 120, .int .u8 (X : Int), .int .u8 (Y : Int)] = Lib.byteCells (34 :: (l ++ qbyte c)) := by
  subst hX; subst hY
  unfold qbyte
  rw [if_pos ho]
  simp [Lib.byteCells]
theorem qbyte_len_odd (c : UInt8) (ho : odd c = true) : (qbyte c).length = 4 := by unfold qbyte; rw [if_pos ho]; rfl
theorem qbyte_len_even (c : UInt8) (ho : odd c = false) : (qbyte c).length = 1 := by unfold qbyte; rw [if_neg (by simp [ho])]; rfl
theorem digA (c : UInt8) (h : ((c.toNat : Int) / 16).toNat < digits.size) : (digits[((c.toNat : Int) / 16).toNat]'h).toNat = (hexd (c.toNat / 16)).toNat := by
  have e : ((c.toNat : Int) / 16).toNat = c.toNat / 16 := by omega
  simp only [e]; exact dig _ _
theorem digB (c : UInt8) (h : ((c.toNat : Int) % 16).toNat < digits.size) : (digits[((c.toNat : Int) % 16).toNat]'h).toNat = (hexd (c.toNat % 16)).toNat := by
  have e : ((c.toNat : Int) % 16).toNat = c.toNat % 16 := by omega
  simp only [e]; exact dig _ _
theorem dig2 (j : Nat) (h : (j : Int).toNat < digits.size) : (digits[(j : Int).toNat]'h).toNat = (hexd j).toNat := dig j h
end Go.Proofs.Ytkpgklkplmljdaa.quote
