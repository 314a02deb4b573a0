/- Big-endian numbers, texts that end at a zero, in plain words. SHA-256 in plain words, on words of 32 bits; how the model's whole numbers speak of them. math/bits.RotateLeft32 at the turns of SHA-256. (Written by genrot.py.) Words in memory: an array of words, a world that is as it was but for one block. Bytes to be taken; a state's eight words within a block. Eight cells written one behind the other. (Merged by merge.py.) -/
import Derived.Test.YtglcapkmeecknaaDoorPHeaderPacksx0
import Derived.Laws.Bits64b
import Derived.Lib.Bytealg
import Derived.Lib.Bytes
import Derived.Shelf.GgClosure.StringsIndexFunc
import Derived.Lib.DecodeN
import Derived.WalkKit
import Derived.Test.YtglcapkmeecknaaDoorProg
import Derived.Still
/-! ## Tk -/
namespace Go.Proofs.YtglcapkmeecknaaDoor.tk
open Go Go.RowKit Go.Proofs.YtglcapkmeecknaaDoorW.PrintWords
set_option linter.unusedVariables false
abbrev Byt (b : List Int) : Prop := ∀ x ∈ b, 0 ≤ x ∧ x < 256
/-- The number that bytes tell, the first the greatest. -/
def num (l : List Int) : Int := l.foldl (fun a x => a * 256 + x) 0
theorem num_snoc (l : List Int) (x : Int) : num (l ++ [x]) = num l * 256 + x := by simp [num, List.foldl_append]
theorem take_snoc (b : List Int) (i : Nat) (h : i < b.length) : b.take (i + 1) = b.take i ++ [rd b (i : Int)] := by
  rw [List.take_succ_eq_append_getElem h]
  simp [rd, h]
theorem num_take (b : List Int) (i : Nat) (h : i < b.length) : num (b.take (i + 1)) = num (b.take i) * 256 + rd b (i : Int) := by rw [take_snoc b i h, num_snoc]
theorem Byt.take {b : List Int} (h : Byt b) (n : Nat) : Byt (b.take n) := fun x hx => h x (List.mem_of_mem_take hx)
theorem Byt.drop {b : List Int} (h : Byt b) (n : Nat) : Byt (b.drop n) := fun x hx => h x (List.mem_of_mem_drop hx)
theorem rd_nat (b : List Int) (i : Nat) : rd b (i : Int) = b[i]?.getD 0 := by simp [rd]
theorem rd_drop (b : List Int) (a i : Nat) : rd (b.drop a) (i : Int) = rd b ((a + i : Nat) : Int) := by rw [rd_nat, rd_nat, List.getElem?_drop]
theorem rd_mem (b : List Int) (i : Nat) (h : i < b.length) : rd b (i : Int) ∈ b := by
  have : rd b (i : Int) = b[i] := by simp [rd, h]
  rw [this]
  exact List.getElem_mem h
theorem num_lt (b : List Int) (h : Byt b) : ∀ i, i ≤ 8 → i ≤ b.length → 0 ≤ num (b.take i) ∧ num (b.take i) < (256 : Int) ^ i
  | 0, _, _ => by simp [num]
  | i + 1, h8, hi => by
    obtain ⟨h0, h1⟩ := num_lt b h i (by omega) (by omega)
    obtain ⟨r0, r1⟩ := h _ (rd_mem b i (by omega))
    rw [num_take b i (by omega), Int.pow_succ]
    omega
theorem num_lt56 (b : List Int) (h : Byt b) (i : Nat) (h8 : i < 8) (hi : i ≤ b.length) : 0 ≤ num (b.take i) ∧ num (b.take i) < 72057594037927936 := by
  obtain ⟨h0, h1⟩ := num_lt b h i (by omega) hi
  refine ⟨h0, Int.lt_of_lt_of_le h1 ?_⟩
  have hc : i = 0 ∨ i = 1 ∨ i = 2 ∨ i = 3 ∨ i = 4 ∨ i = 5 ∨ i = 6 ∨ i = 7 := by omega
  rcases hc with rfl | rfl | rfl | rfl | rfl | rfl | rfl | rfl <;> decide
theorem num_lt64 (b : List Int) (h : Byt b) (i : Nat) (h8 : i ≤ 8) (hi : i ≤ b.length) : 0 ≤ num (b.take i) ∧ num (b.take i) < 18446744073709551616 := by
  obtain ⟨h0, h1⟩ := num_lt b h i h8 hi
  refine ⟨h0, Int.lt_of_lt_of_le h1 ?_⟩
  have hc : i = 0 ∨ i = 1 ∨ i = 2 ∨ i = 3 ∨ i = 4 ∨ i = 5 ∨ i = 6 ∨ i = 7 ∨ i = 8 := by omega
  rcases hc with rfl | rfl | rfl | rfl | rfl | rfl | rfl | rfl | rfl <;> decide
theorem or_byte (n x : Int) (h0 : 0 ≤ n) (h1 : n < 72057594037927936) (x0 : 0 ≤ x) (x1 : x < 256) : Go.bits .or .u64 (n * 256) x = n * 256 + x := by
  obtain ⟨a, rfl⟩ : ∃ a : Nat, n = a := ⟨n.toNat, by omega⟩
  obtain ⟨b, rfl⟩ : ∃ b : Nat, x = b := ⟨x.toNat, by omega⟩
  have e : (a : Int) * 256 = ((a * 256 : Nat) : Int) := by omega
  rw [e, bits_or_u64_nat (a * 256) b (by omega) (by omega)]
  have h := Nat.shiftLeft_add_eq_or_of_lt (show b < 2 ^ 8 by omega) a
  rw [Nat.shiftLeft_eq] at h
  rw [← h]
  omega
/-- Where the first zero stands, or the length. -/
def fz (b : List Int) : Nat := b.findIdx (· == 0)
theorem fz_le (b : List Int) : fz b ≤ b.length := List.findIdx_le_length
def tkS (b : List Int) : ByteArray := strOfNums (b.take (fz b))
def tkB (b : List Int) : Bool := decide (fz b < b.length) && (b.drop (fz b)).all (· == 0)
theorem fz_cons (x : Int) (l : List Int) : fz (x :: l) = if x = 0 then 0 else fz l + 1 := by
  unfold fz
  rw [List.findIdx_cons]
  by_cases h : x = 0
  · simp [h]
  · have : (x == 0) = false := by simpa using h
    rw [this, if_neg h]
    rfl
theorem fz_at (b : List Int) (i : Nat) (h : i ≤ b.length) (hb : ∀ j, j < i → rd b (j : Int) ≠ 0) (he : i = b.length ∨ rd b (i : Int) = 0) : fz b = i := by
  induction b generalizing i with
  | nil => simp at h; subst h; rfl
  | cons x l ih =>
    rw [fz_cons]
    by_cases hx : x = 0
    · rw [if_pos hx]
      rcases Nat.eq_zero_or_pos i with e | e
      · exact e.symm
      · exact absurd (by simpa [rd] using hx) (hb 0 e)
    · rw [if_neg hx]
      obtain ⟨k, rfl⟩ : ∃ k, i = k + 1 := by
        rcases Nat.eq_zero_or_pos i with e | e
        · subst e
          rcases he with h1 | h1
          · simp at h1
          · exact absurd (by simpa [rd] using h1) hx
        · exact ⟨i - 1, by omega⟩
      have hs : ∀ j : Nat, rd (x :: l) ((j + 1 : Nat) : Int) = rd l (j : Int) := fun j => by simp [rd]
      rw [ih k (by simpa using h) (fun j hj => by rw [← hs]; exact hb (j + 1) (by omega)) (by
        rcases he with h1 | h1
        · exact .inl (by simpa using h1)
        · exact .inr (by rw [← hs]; exact h1))]
theorem fz_ne (b : List Int) (j : Nat) (h : j < fz b) : rd b (j : Int) ≠ 0 := by
  have hl : j < b.length := Nat.lt_of_lt_of_le h (fz_le b)
  have := List.not_of_lt_findIdx h
  have e : rd b (j : Int) = b[j] := by simp [rd, hl]
  rw [e]
  simpa using this
theorem fz_zero (b : List Int) (h : fz b < b.length) : rd b (fz b : Int) = 0 := by
  have := List.findIdx_getElem (w := h)
  have e : rd b (fz b : Int) = b[fz b] := by simp [rd, h]
  rw [e]
  exact eq_of_beq this
theorem ofNat_zero (x : Int) (h0 : 0 ≤ x) (h1 : x < 256) : (UInt8.ofNat x.toNat == 0) = (x == 0) := by
  obtain ⟨n, rfl⟩ : ∃ n : Nat, x = n := ⟨x.toNat, by omega⟩
  rw [Int.toNat_natCast]
  by_cases h : n = 0
  · subst h; rfl
  · have a : ((n : Int) == 0) = false := by simp; omega
    rw [a, beq_eq_false_iff_ne]
    intro e
    have := congrArg UInt8.toNat e
    simp at this
    omega
theorem idx_fz : ∀ (b : List Int), Byt b → Lib.indexByte (Lib.bytesOf b) 0 = if fz b < b.length then (fz b : Int) else -1
  | [], _ => rfl
  | x :: l, h => by
    obtain ⟨x0, x1⟩ := h x List.mem_cons_self
    have ih := idx_fz l (fun y hy => h y (List.mem_cons_of_mem _ hy))
    show Lib.indexByte (UInt8.ofNat x.toNat :: Lib.bytesOf l) 0 = _
    unfold Lib.indexByte
    rw [ofNat_zero x x0 x1, fz_cons, ih]
    by_cases hx : x = 0
    · subst hx; simp
    · have hf : (x == 0) = false := by simpa using hx
      have hlc : (x :: l).length = l.length + 1 := rfl
      rw [hf, if_neg hx, hlc]
      by_cases hl : fz l < l.length
      · rw [if_neg (show ¬ (false = true) by decide), if_pos hl, if_neg (show ¬ (((fz l : Int) == -1) = true) by simp), if_pos (show fz l + 1 < l.length + 1 by omega)]
        omega
      · rw [if_neg (show ¬ (false = true) by decide), if_neg hl, if_neg (show ¬ (fz l + 1 < l.length + 1) by omega)]
        rfl
/-- What the library's ContainsFunc sees of a zero's predicate. -/
def nz (r : Nat) : Bool := decide (r ≠ 0)
theorem dec_zero (n b1 b2 b3 : Nat) : Lib.decodeN n 0 b1 b2 b3 = (0, 1) := by simp [Lib.decodeN]
theorem dec_ne (n b0 b1 b2 b3 : Nat) (h : b0 ≠ 0) : (Lib.decodeN n b0 b1 b2 b3).1 ≠ 0 := by
  unfold Lib.decodeN
  repeat' split
  all_goals first | exact h | (show (_ : Nat) ≠ 0; omega)
theorem str_get (b : List Int) (hb : Byt b) (i : Nat) (h : i < b.length) : (((strOfNums b).get! i).toNat : Int) = rd b (i : Int) := by
  have e : (strOfNums b).get! i = UInt8.ofNat (rd b (i : Int)).toNat := by
    show (strOfNums b).data[i]! = _
    rw [getElem!_pos _ _ (by rw [show (strOfNums b).data.size = b.length from strOfNums_size b]; exact h)]
    simp [strOfNums, rd, h]
  obtain ⟨r0, r1⟩ := hb _ (rd_mem b i h)
  rw [e]
  simp
  omega
theorem func_any (b : List Int) (hb : Byt b) : ∀ (f pos : Nat), b.length ≤ pos + f → decide (0 ≤ Lib.idxFuncFrom nz true (strOfNums b) f pos) = (b.drop pos).any (fun x => !(x == 0))
  | 0, pos, hf => by rw [List.drop_eq_nil_of_le (by omega)]; rfl
  | f + 1, pos, hf => by
    unfold Lib.idxFuncFrom
    rw [strOfNums_size]
    by_cases hp : pos < b.length
    · rw [if_pos hp]
      have hd : b.drop pos = rd b (pos : Int) :: b.drop (pos + 1) := by
        rw [List.drop_eq_getElem_cons hp]
        simp [rd, hp]
      have hg := str_get b hb pos hp
      by_cases hz : rd b (pos : Int) = 0
      · have h0 : ((strOfNums b).get! pos).toNat = 0 := by omega
        rw [Lib.decode_at, h0, dec_zero, if_neg (by decide), func_any b hb f (pos + 1) (by omega), hd, List.any_cons, hz]
        rfl
      · have h0 : ((strOfNums b).get! pos).toNat ≠ 0 := by omega
        rw [Lib.decode_at, if_pos (by simpa [nz] using dec_ne _ _ _ _ _ h0), hd, List.any_cons]
        have : (rd b (pos : Int) == 0) = false := by simpa using hz
        rw [this]
        simp
    · rw [if_neg hp, List.drop_eq_nil_of_le (by omega)]
      rfl
theorem any_all (l : List Int) : (!l.any (fun x => !(x == 0))) = l.all (· == 0) := by
  induction l with
  | nil => rfl
  | cons x l ih => simp [List.any_cons, List.all_cons, ← ih]
theorem tail_all (b : List Int) (h : fz b < b.length) : (b.drop (fz b + 1)).all (· == 0) = (b.drop (fz b)).all (· == 0) := by
  have hd : b.drop (fz b) = rd b (fz b : Int) :: b.drop (fz b + 1) := by
    rw [List.drop_eq_getElem_cons h]
    simp [rd, h]
  rw [hd, fz_zero b h]
  simp
end Go.Proofs.YtglcapkmeecknaaDoor.tk
/-! ## Sha -/
namespace Go.Proofs.YtglcapkmeecknaaDoor.sha
open Go Go.RowKit
set_option linter.unusedVariables false
/-! Words. -/
theorem toNat_lt32 (x : BitVec 32) : (x.toNat : Int) < 4294967296 := by have := x.isLt; omega
theorem ofInt32 (x : BitVec 32) : BitVec.ofInt 32 (x.toNat : Int) = x := by
  apply BitVec.eq_of_toNat_eq
  rw [BitVec.toNat_ofInt]
  have := x.isLt
  omega
theorem wrap32 (n : Int) : IntKind.u32.wrap n = n % 4294967296 := by
  have := IntKind.wrap_u32 n
  simpa using this
theorem wrap_nat (x : BitVec 32) : IntKind.u32.wrap (x.toNat : Int) = (x.toNat : Int) := by
  rw [wrap32]; have := x.isLt; omega
theorem bv_xor (x y : BitVec 32) : bits .xor .u32 (x.toNat : Int) (y.toNat : Int) = ((x ^^^ y).toNat : Int) := by
  show IntKind.u32.wrap ((BitVec.ofInt 32 (x.toNat : Int) ^^^ BitVec.ofInt 32 (y.toNat : Int)).toNat : Int) = _
  rw [ofInt32, ofInt32, wrap_nat]
theorem bv_and (x y : BitVec 32) : bits .and .u32 (x.toNat : Int) (y.toNat : Int) = ((x &&& y).toNat : Int) := by
  show IntKind.u32.wrap ((BitVec.ofInt 32 (x.toNat : Int) &&& BitVec.ofInt 32 (y.toNat : Int)).toNat : Int) = _
  rw [ofInt32, ofInt32, wrap_nat]
theorem bv_or (x y : BitVec 32) : bits .or .u32 (x.toNat : Int) (y.toNat : Int) = ((x ||| y).toNat : Int) := by
  show IntKind.u32.wrap ((BitVec.ofInt 32 (x.toNat : Int) ||| BitVec.ofInt 32 (y.toNat : Int)).toNat : Int) = _
  rw [ofInt32, ofInt32, wrap_nat]
theorem bv_not (x : BitVec 32) : bits .xor .u32 (4294967295 : Int) (x.toNat : Int) = ((~~~x).toNat : Int) := by
  have e : ((4294967295 : Int)) = ((BitVec.allOnes 32).toNat : Int) := by decide
  rw [e, bv_xor, BitVec.allOnes_xor]
theorem bv_add (x y : BitVec 32) : IntKind.u32.wrap ((x.toNat : Int) + (y.toNat : Int)) = ((x + y).toNat : Int) := by
  rw [wrap32, BitVec.toNat_add]; omega
theorem bv_shl (x : BitVec 32) (n : Nat) : IntKind.u32.wrap ((x.toNat : Int) * 2 ^ n) = ((x <<< n).toNat : Int) := by
  rw [wrap32, BitVec.toNat_shiftLeft, Nat.shiftLeft_eq]
  have : ((x.toNat * 2 ^ n % 2 ^ 32 : Nat) : Int) = ((x.toNat : Int) * 2 ^ n) % 4294967296 := by
    rw [Int.natCast_emod, Int.natCast_mul, Int.natCast_pow]
    rfl
  rw [this]
theorem bv_shr (x : BitVec 32) (n : Nat) : ((x.toNat : Int)).fdiv (2 ^ n) = ((x >>> n).toNat : Int) := by
  rw [BitVec.toNat_ushiftRight, Nat.shiftRight_eq_div_pow]
  rw [show ((2 : Int) ^ n) = ((2 ^ n : Nat) : Int) by simp]
  rw [Int.fdiv_eq_ediv_of_nonneg _ (Int.natCast_nonneg _)]
  rfl

/-- A word as the model's whole number; behind a name, so that no walk opens it. -/
def nn (x : BitVec 32) : Int := (x.toNat : Int)
theorem nn_lo (x : BitVec 32) : 0 ≤ nn x := Int.natCast_nonneg _
theorem nn_hi (x : BitVec 32) : nn x < 4294967296 := toNat_lt32 x
theorem nn_inj {x y : BitVec 32} (h : nn x = nn y) : x = y := by
  unfold nn at h
  exact BitVec.eq_of_toNat_eq (by omega)
theorem nn_xor (x y : BitVec 32) : bits .xor .u32 (nn x) (nn y) = nn (x ^^^ y) := bv_xor x y
theorem nn_and (x y : BitVec 32) : bits .and .u32 (nn x) (nn y) = nn (x &&& y) := bv_and x y
theorem nn_or (x y : BitVec 32) : bits .or .u32 (nn x) (nn y) = nn (x ||| y) := bv_or x y
theorem nn_not (x : BitVec 32) : bits .xor .u32 (4294967295 : Int) (nn x) = nn (~~~x) := bv_not x
theorem nn_not' (x : BitVec 32) : bits .xor .u32 (if IntKind.u32.signed = true then -1 else IntKind.u32.max) (nn x) = nn (~~~x) := bv_not x
theorem nn_mod (x : BitVec 32) : nn x % (4294967296 : Int) = nn x := by have := nn_lo x; have := nn_hi x; omega
theorem nn_wrap (x : BitVec 32) : IntKind.u32.wrap (nn x) = nn x := wrap_nat x
theorem nn_wrap64 (x : BitVec 32) : IntKind.u64.wrap (nn x) = nn x := by rw [IntKind.wrap_u64]; have := nn_lo x; have := nn_hi x; omega
theorem nn_mod64 (x : BitVec 32) : nn x % (18446744073709551616 : Int) = nn x := by have := nn_lo x; have := nn_hi x; omega
theorem nn_add (x y : BitVec 32) : IntKind.u32.wrap (nn x + nn y) = nn (x + y) := bv_add x y
theorem nn_add' (x y : BitVec 32) : (nn x + nn y) % (4294967296 : Int) = nn (x + y) := by rw [← nn_add, wrap32]
theorem nn_shl (x : BitVec 32) (n : Nat) : (nn x * (2 : Int) ^ n) % (4294967296 : Int) = nn (x <<< n) := by rw [← wrap32]; exact bv_shl x n
theorem nn_shr (x : BitVec 32) (n : Nat) : nn x / (2 : Int) ^ n = nn (x >>> n) := by
  have h := bv_shr x n
  rw [show ((2 : Int) ^ n) = ((2 ^ n : Nat) : Int) by simp, Int.fdiv_eq_ediv_of_nonneg _ (Int.natCast_nonneg _)] at h
  rw [show ((2 : Int) ^ n) = ((2 ^ n : Nat) : Int) by simp]
  exact h
theorem nn_shl7 (x : BitVec 32) : (nn x * (128 : Int)) % (4294967296 : Int) = nn (x <<< 7) := nn_shl x 7
theorem nn_shl8 (x : BitVec 32) : (nn x * (256 : Int)) % (4294967296 : Int) = nn (x <<< 8) := nn_shl x 8
theorem nn_shl10 (x : BitVec 32) : (nn x * (1024 : Int)) % (4294967296 : Int) = nn (x <<< 10) := nn_shl x 10
theorem nn_shl13 (x : BitVec 32) : (nn x * (8192 : Int)) % (4294967296 : Int) = nn (x <<< 13) := nn_shl x 13
theorem nn_shl14 (x : BitVec 32) : (nn x * (16384 : Int)) % (4294967296 : Int) = nn (x <<< 14) := nn_shl x 14
theorem nn_shl15 (x : BitVec 32) : (nn x * (32768 : Int)) % (4294967296 : Int) = nn (x <<< 15) := nn_shl x 15
theorem nn_shl16 (x : BitVec 32) : (nn x * (65536 : Int)) % (4294967296 : Int) = nn (x <<< 16) := nn_shl x 16
theorem nn_shl19 (x : BitVec 32) : (nn x * (524288 : Int)) % (4294967296 : Int) = nn (x <<< 19) := nn_shl x 19
theorem nn_shl21 (x : BitVec 32) : (nn x * (2097152 : Int)) % (4294967296 : Int) = nn (x <<< 21) := nn_shl x 21
theorem nn_shl24 (x : BitVec 32) : (nn x * (16777216 : Int)) % (4294967296 : Int) = nn (x <<< 24) := nn_shl x 24
theorem nn_shl25 (x : BitVec 32) : (nn x * (33554432 : Int)) % (4294967296 : Int) = nn (x <<< 25) := nn_shl x 25
theorem nn_shl26 (x : BitVec 32) : (nn x * (67108864 : Int)) % (4294967296 : Int) = nn (x <<< 26) := nn_shl x 26
theorem nn_shl30 (x : BitVec 32) : (nn x * (1073741824 : Int)) % (4294967296 : Int) = nn (x <<< 30) := nn_shl x 30
theorem nn_shr2 (x : BitVec 32) : nn x / (4 : Int) = nn (x >>> 2) := nn_shr x 2
theorem nn_shr3 (x : BitVec 32) : nn x / (8 : Int) = nn (x >>> 3) := nn_shr x 3
theorem nn_shr6 (x : BitVec 32) : nn x / (64 : Int) = nn (x >>> 6) := nn_shr x 6
theorem nn_shr7 (x : BitVec 32) : nn x / (128 : Int) = nn (x >>> 7) := nn_shr x 7
theorem nn_shr10 (x : BitVec 32) : nn x / (1024 : Int) = nn (x >>> 10) := nn_shr x 10
theorem nn_shr11 (x : BitVec 32) : nn x / (2048 : Int) = nn (x >>> 11) := nn_shr x 11
theorem nn_shr13 (x : BitVec 32) : nn x / (8192 : Int) = nn (x >>> 13) := nn_shr x 13
theorem nn_shr17 (x : BitVec 32) : nn x / (131072 : Int) = nn (x >>> 17) := nn_shr x 17
theorem nn_shr18 (x : BitVec 32) : nn x / (262144 : Int) = nn (x >>> 18) := nn_shr x 18
theorem nn_shr19 (x : BitVec 32) : nn x / (524288 : Int) = nn (x >>> 19) := nn_shr x 19
theorem nn_shr22 (x : BitVec 32) : nn x / (4194304 : Int) = nn (x >>> 22) := nn_shr x 22
theorem nn_shr25 (x : BitVec 32) : nn x / (33554432 : Int) = nn (x >>> 25) := nn_shr x 25
theorem nn_shlw7 (x : BitVec 32) : IntKind.u32.wrap (nn x * (128 : Int)) = nn (x <<< 7) := by rw [wrap32]; exact nn_shl7 x
theorem nn_shlw8 (x : BitVec 32) : IntKind.u32.wrap (nn x * (256 : Int)) = nn (x <<< 8) := by rw [wrap32]; exact nn_shl8 x
theorem nn_shlw10 (x : BitVec 32) : IntKind.u32.wrap (nn x * (1024 : Int)) = nn (x <<< 10) := by rw [wrap32]; exact nn_shl10 x
theorem nn_shlw13 (x : BitVec 32) : IntKind.u32.wrap (nn x * (8192 : Int)) = nn (x <<< 13) := by rw [wrap32]; exact nn_shl13 x
theorem nn_shlw14 (x : BitVec 32) : IntKind.u32.wrap (nn x * (16384 : Int)) = nn (x <<< 14) := by rw [wrap32]; exact nn_shl14 x
theorem nn_shlw15 (x : BitVec 32) : IntKind.u32.wrap (nn x * (32768 : Int)) = nn (x <<< 15) := by rw [wrap32]; exact nn_shl15 x
theorem nn_shlw16 (x : BitVec 32) : IntKind.u32.wrap (nn x * (65536 : Int)) = nn (x <<< 16) := by rw [wrap32]; exact nn_shl16 x
theorem nn_shlw19 (x : BitVec 32) : IntKind.u32.wrap (nn x * (524288 : Int)) = nn (x <<< 19) := by rw [wrap32]; exact nn_shl19 x
theorem nn_shlw21 (x : BitVec 32) : IntKind.u32.wrap (nn x * (2097152 : Int)) = nn (x <<< 21) := by rw [wrap32]; exact nn_shl21 x
theorem nn_shlw24 (x : BitVec 32) : IntKind.u32.wrap (nn x * (16777216 : Int)) = nn (x <<< 24) := by rw [wrap32]; exact nn_shl24 x
theorem nn_shlw25 (x : BitVec 32) : IntKind.u32.wrap (nn x * (33554432 : Int)) = nn (x <<< 25) := by rw [wrap32]; exact nn_shl25 x
theorem nn_shlw26 (x : BitVec 32) : IntKind.u32.wrap (nn x * (67108864 : Int)) = nn (x <<< 26) := by rw [wrap32]; exact nn_shl26 x
theorem nn_shlw30 (x : BitVec 32) : IntKind.u32.wrap (nn x * (1073741824 : Int)) = nn (x <<< 30) := by rw [wrap32]; exact nn_shl30 x

/-! The digest. -/
def rot (x : BitVec 32) (n : Nat) : BitVec 32 := (x >>> n) ||| (x <<< (32 - n))
def sg0 (x : BitVec 32) : BitVec 32 := rot x 7 ^^^ rot x 18 ^^^ (x >>> 3)
def sg1 (x : BitVec 32) : BitVec 32 := rot x 17 ^^^ rot x 19 ^^^ (x >>> 10)
def bs0 (x : BitVec 32) : BitVec 32 := rot x 2 ^^^ rot x 13 ^^^ rot x 22
def bs1 (x : BitVec 32) : BitVec 32 := rot x 6 ^^^ rot x 11 ^^^ rot x 25
def ch (e f g : BitVec 32) : BitVec 32 := (e &&& f) ^^^ (~~~e &&& g)
def maj (a b c : BitVec 32) : BitVec 32 := (a &&& b) ^^^ (a &&& c) ^^^ (b &&& c)
theorem ch_or (e f g : BitVec 32) : (e &&& f) ||| (~~~e &&& g) = ch e f g := by
  apply BitVec.eq_of_getLsbD_eq
  intro i hi
  simp only [ch, BitVec.getLsbD_or, BitVec.getLsbD_xor, BitVec.getLsbD_and, BitVec.getLsbD_not]
  cases e.getLsbD i <;> cases f.getLsbD i <;> cases g.getLsbD i <;> simp
theorem maj_or (a b c : BitVec 32) : (a &&& b) ||| (a &&& c) ||| (b &&& c) = maj a b c := by
  apply BitVec.eq_of_getLsbD_eq
  intro i hi
  simp only [maj, BitVec.getLsbD_or, BitVec.getLsbD_xor, BitVec.getLsbD_and]
  cases a.getLsbD i <;> cases b.getLsbD i <;> cases c.getLsbD i <;> rfl
theorem rot_or (x : BitVec 32) (n : Nat) : (x <<< (32 - n)) ||| (x >>> n) = rot x n := by
  unfold rot
  exact BitVec.or_comm _ _
/-- A block's word: four bytes, the highest first. -/
def word4 (p q r s : BitVec 32) : BitVec 32 := p <<< 24 ||| q <<< 16 ||| r <<< 8 ||| s
def byteAt (b : List Int) (i : Nat) : BitVec 32 := BitVec.ofInt 32 (b.getD i 0)
def m16 (b : List Int) (t : Nat) : BitVec 32 := word4 (byteAt b (4 * t)) (byteAt b (4 * t + 1)) (byteAt b (4 * t + 2)) (byteAt b (4 * t + 3))
def sched (b : List Int) (t : Nat) : BitVec 32 :=
  if h : t < 16 then m16 b t else sched b (t - 16) + sched b (t - 7) + sg0 (sched b (t - 15)) + sg1 (sched b (t - 2))
termination_by t
structure St where
  a : BitVec 32
  b : BitVec 32
  c : BitVec 32
  d : BitVec 32
  e : BitVec 32
  f : BitVec 32
  g : BitVec 32
  h : BitVec 32
def step (k w : BitVec 32) (s : St) : St :=
  let t1 := s.h + bs1 s.e + ch s.e s.f s.g + k + w
  let t2 := bs0 s.a + maj s.a s.b s.c
  ⟨t1 + t2, s.a, s.b, s.c, s.d + t1, s.e, s.f, s.g⟩
def steps (k w : Nat → BitVec 32) : Nat → St → St
  | 0, s => s
  | n + 1, s => step (k n) (w n) (steps k w n s)
def St.add (x y : St) : St := ⟨x.a + y.a, x.b + y.b, x.c + y.c, x.d + y.d, x.e + y.e, x.f + y.f, x.g + y.g, x.h + y.h⟩
def taken (k : Nat → BitVec 32) (s : St) (b : List Int) : St := s.add (steps k (sched b) 64 s)
/-- The first m blocks of 64 bytes, one behind the other. -/
def upto (k : Nat → BitVec 32) (s : St) (p : List Int) : Nat → St
  | 0 => s
  | m + 1 => taken k (upto k s p m) ((p.take (64 * m + 64)).drop (64 * m))
/-- A state's words by their places. -/
def stf (s : St) : Nat → BitVec 32
  | 0 => s.a
  | 1 => s.b
  | 2 => s.c
  | 3 => s.d
  | 4 => s.e
  | 5 => s.f
  | 6 => s.g
  | _ => s.h
theorem sched_small (b : List Int) {t : Nat} (h : t < 16) : sched b t = m16 b t := by rw [sched, dif_pos h]
theorem sched_big (b : List Int) {t : Nat} (h : 16 ≤ t) : sched b t = sched b (t - 16) + sched b (t - 7) + sg0 (sched b (t - 15)) + sg1 (sched b (t - 2)) := by
  rw [sched, dif_neg (by omega)]
theorem sched_at (b : List Int) (j : Nat) : sched b (j + 16) = sched b j + sched b (j + 9) + sg0 (sched b (j + 1)) + sg1 (sched b (j + 14)) := by
  rw [sched_big b (by omega), show j + 16 - 16 = j by omega, show j + 16 - 7 = j + 9 by omega, show j + 16 - 15 = j + 1 by omega, show j + 16 - 2 = j + 14 by omega]
theorem sched_ref (a b x y : BitVec 32) : sg1 y + b + sg0 x + a = a + b + sg0 x + sg1 y := by ac_rfl
end Go.Proofs.YtglcapkmeecknaaDoor.sha
/-! ## Rot -/
namespace Go.Proofs.YtglcapkmeecknaaDoor.rotl
open Go Go.RowKit Go.Proofs.YtglcapkmeecknaaDoor.sha
theorem ret_int {k : IntKind} {a b : Int} (h : a = b) : Ending.returned (.int k a) = .returned (.int k b) := by rw [h]
theorem call7 (x : BitVec 32) (w : World) : Calls Tryd.prog 81 #[.int .u32 (nn x), .int .i64 (-7)] w fun e w' => e = .returned (.int .u32 (nn (rot x 7))) ∧ w = w' := by
  have hm : bits .and .u64 (IntKind.u64.wrap (-7)) 31 = 25 := by decide
  have h1 := nn_shl25 x
  have h2 := nn_shr7 x
  have h3 := nn_or (x <<< 25) (x >>> 7)
  have h4 : (x <<< 25) ||| (x >>> 7) = rot x 7 := rot_or x 7
  have h5 := nn_lo x
  have h6 := nn_hi x
  rw [h4] at h3
  clear h4
  go_enter Tryd.func81, Tryd.ntmps81
  go_wp2
  go_ret
  exact ⟨rfl, rfl⟩
theorem call18 (x : BitVec 32) (w : World) : Calls Tryd.prog 81 #[.int .u32 (nn x), .int .i64 (-18)] w fun e w' => e = .returned (.int .u32 (nn (rot x 18))) ∧ w = w' := by
  have hm : bits .and .u64 (IntKind.u64.wrap (-18)) 31 = 14 := by decide
  have h1 := nn_shl14 x
  have h2 := nn_shr18 x
  have h3 := nn_or (x <<< 14) (x >>> 18)
  have h4 : (x <<< 14) ||| (x >>> 18) = rot x 18 := rot_or x 18
  have h5 := nn_lo x
  have h6 := nn_hi x
  rw [h4] at h3
  clear h4
  go_enter Tryd.func81, Tryd.ntmps81
  go_wp2
  go_ret
  exact ⟨rfl, rfl⟩
theorem call17 (x : BitVec 32) (w : World) : Calls Tryd.prog 81 #[.int .u32 (nn x), .int .i64 (-17)] w fun e w' => e = .returned (.int .u32 (nn (rot x 17))) ∧ w = w' := by
  have hm : bits .and .u64 (IntKind.u64.wrap (-17)) 31 = 15 := by decide
  have h1 := nn_shl15 x
  have h2 := nn_shr17 x
  have h3 := nn_or (x <<< 15) (x >>> 17)
  have h4 : (x <<< 15) ||| (x >>> 17) = rot x 17 := rot_or x 17
  have h5 := nn_lo x
  have h6 := nn_hi x
  rw [h4] at h3
  clear h4
  go_enter Tryd.func81, Tryd.ntmps81
  go_wp2
  go_ret
  exact ⟨rfl, rfl⟩
theorem call19 (x : BitVec 32) (w : World) : Calls Tryd.prog 81 #[.int .u32 (nn x), .int .i64 (-19)] w fun e w' => e = .returned (.int .u32 (nn (rot x 19))) ∧ w = w' := by
  have hm : bits .and .u64 (IntKind.u64.wrap (-19)) 31 = 13 := by decide
  have h1 := nn_shl13 x
  have h2 := nn_shr19 x
  have h3 := nn_or (x <<< 13) (x >>> 19)
  have h4 : (x <<< 13) ||| (x >>> 19) = rot x 19 := rot_or x 19
  have h5 := nn_lo x
  have h6 := nn_hi x
  rw [h4] at h3
  clear h4
  go_enter Tryd.func81, Tryd.ntmps81
  go_wp2
  go_ret
  exact ⟨rfl, rfl⟩
theorem call6 (x : BitVec 32) (w : World) : Calls Tryd.prog 81 #[.int .u32 (nn x), .int .i64 (-6)] w fun e w' => e = .returned (.int .u32 (nn (rot x 6))) ∧ w = w' := by
  have hm : bits .and .u64 (IntKind.u64.wrap (-6)) 31 = 26 := by decide
  have h1 := nn_shl26 x
  have h2 := nn_shr6 x
  have h3 := nn_or (x <<< 26) (x >>> 6)
  have h4 : (x <<< 26) ||| (x >>> 6) = rot x 6 := rot_or x 6
  have h5 := nn_lo x
  have h6 := nn_hi x
  rw [h4] at h3
  clear h4
  go_enter Tryd.func81, Tryd.ntmps81
  go_wp2
  go_ret
  exact ⟨rfl, rfl⟩
theorem call11 (x : BitVec 32) (w : World) : Calls Tryd.prog 81 #[.int .u32 (nn x), .int .i64 (-11)] w fun e w' => e = .returned (.int .u32 (nn (rot x 11))) ∧ w = w' := by
  have hm : bits .and .u64 (IntKind.u64.wrap (-11)) 31 = 21 := by decide
  have h1 := nn_shl21 x
  have h2 := nn_shr11 x
  have h3 := nn_or (x <<< 21) (x >>> 11)
  have h4 : (x <<< 21) ||| (x >>> 11) = rot x 11 := rot_or x 11
  have h5 := nn_lo x
  have h6 := nn_hi x
  rw [h4] at h3
  clear h4
  go_enter Tryd.func81, Tryd.ntmps81
  go_wp2
  go_ret
  exact ⟨rfl, rfl⟩
theorem call25 (x : BitVec 32) (w : World) : Calls Tryd.prog 81 #[.int .u32 (nn x), .int .i64 (-25)] w fun e w' => e = .returned (.int .u32 (nn (rot x 25))) ∧ w = w' := by
  have hm : bits .and .u64 (IntKind.u64.wrap (-25)) 31 = 7 := by decide
  have h1 := nn_shl7 x
  have h2 := nn_shr25 x
  have h3 := nn_or (x <<< 7) (x >>> 25)
  have h4 : (x <<< 7) ||| (x >>> 25) = rot x 25 := rot_or x 25
  have h5 := nn_lo x
  have h6 := nn_hi x
  rw [h4] at h3
  clear h4
  go_enter Tryd.func81, Tryd.ntmps81
  go_wp2
  go_ret
  exact ⟨rfl, rfl⟩
theorem call2 (x : BitVec 32) (w : World) : Calls Tryd.prog 81 #[.int .u32 (nn x), .int .i64 (-2)] w fun e w' => e = .returned (.int .u32 (nn (rot x 2))) ∧ w = w' := by
  have hm : bits .and .u64 (IntKind.u64.wrap (-2)) 31 = 30 := by decide
  have h1 := nn_shl30 x
  have h2 := nn_shr2 x
  have h3 := nn_or (x <<< 30) (x >>> 2)
  have h4 : (x <<< 30) ||| (x >>> 2) = rot x 2 := rot_or x 2
  have h5 := nn_lo x
  have h6 := nn_hi x
  rw [h4] at h3
  clear h4
  go_enter Tryd.func81, Tryd.ntmps81
  go_wp2
  go_ret
  exact ⟨rfl, rfl⟩
theorem call13 (x : BitVec 32) (w : World) : Calls Tryd.prog 81 #[.int .u32 (nn x), .int .i64 (-13)] w fun e w' => e = .returned (.int .u32 (nn (rot x 13))) ∧ w = w' := by
  have hm : bits .and .u64 (IntKind.u64.wrap (-13)) 31 = 19 := by decide
  have h1 := nn_shl19 x
  have h2 := nn_shr13 x
  have h3 := nn_or (x <<< 19) (x >>> 13)
  have h4 : (x <<< 19) ||| (x >>> 13) = rot x 13 := rot_or x 13
  have h5 := nn_lo x
  have h6 := nn_hi x
  rw [h4] at h3
  clear h4
  go_enter Tryd.func81, Tryd.ntmps81
  go_wp2
  go_ret
  exact ⟨rfl, rfl⟩
theorem call22 (x : BitVec 32) (w : World) : Calls Tryd.prog 81 #[.int .u32 (nn x), .int .i64 (-22)] w fun e w' => e = .returned (.int .u32 (nn (rot x 22))) ∧ w = w' := by
  have hm : bits .and .u64 (IntKind.u64.wrap (-22)) 31 = 10 := by decide
  have h1 := nn_shl10 x
  have h2 := nn_shr22 x
  have h3 := nn_or (x <<< 10) (x >>> 22)
  have h4 : (x <<< 10) ||| (x >>> 22) = rot x 22 := rot_or x 22
  have h5 := nn_lo x
  have h6 := nn_hi x
  rw [h4] at h3
  clear h4
  go_enter Tryd.func81, Tryd.ntmps81
  go_wp2
  go_ret
  exact ⟨rfl, rfl⟩
end Go.Proofs.YtglcapkmeecknaaDoor.rotl
/-! ## Mem -/
namespace Go.Proofs.YtglcapkmeecknaaDoor.mem
open Go Go.RowKit Go.Proofs.YtglcapkmeecknaaDoor.sha Go.Proofs.YtglcapkmeecknaaDoorW.PrintWords
set_option linter.unusedVariables false
/-- World w1 is w but for block g and what is new. -/
structure Turn (g : Nat) (w w1 : World) : Prop where
  os : w1.os = w.os
  tape : w1.tape = w.tape
  output : w1.output = w.output
  size : w.heap.size ≤ w1.heap.size
  block : ∀ k, k < w.heap.size → k ≠ g → w1.heap[k]? = w.heap[k]?
theorem Turn.refl (g : Nat) (w : World) : Turn g w w := ⟨rfl, rfl, rfl, Nat.le_refl _, fun _ _ _ => rfl⟩
theorem Turn.drew {g : Nat} {w w1 : World} (h : Turn g w w1) : Turn g w w1.drew := ⟨h.os, h.tape, h.output, h.size, h.block⟩
theorem Turn.setCell {g : Nat} {w w1 : World} (h : Turn g w w1) (i : Nat) (v : Value) : Turn g w (w1.setCell ⟨g, i, none⟩ v) :=
  ⟨h.os, h.tape, h.output, by rw [World.size_setCell]; exact h.size, fun k hk hne => (Below.heap_setCell w1 ⟨g, i, none⟩ v k hne).trans (h.block k hk hne)⟩
theorem Turn.cell {g : Nat} {w w1 : World} (h : Turn g w w1) {p : Addr} (hp : p.block < w.heap.size) (hne : p.block ≠ g) : w1.cell? p = w.cell? p := World.cell?_of_block (h.block _ hp hne)
theorem Turn.blk {g : Nat} {w w1 : World} (h : Turn g w w1) {k : Nat} {o : Obj} (hb : w.heap[k]? = some o) (hne : k ≠ g) : w1.heap[k]? = some o := (h.block k (blk_lt hb) hne).trans hb
theorem Turn.of_below {g : Nat} {w w1 w2 : World} (h : Turn g w w1) (hb : Below w1.heap.size w1 w2) : Turn g w w2 :=
  ⟨hb.os.trans h.os, hb.tape.trans h.tape, hb.output.trans h.output, Nat.le_trans h.size hb.size, fun k hk hne => (hb.block k (Nat.lt_of_lt_of_le hk h.size)).trans (h.block k hk hne)⟩
theorem Turn.below {g B : Nat} {w w1 w2 : World} (hb : Below B w w1) (h : Turn g w1 w2) (hg : B ≤ g) (hB : B ≤ w1.heap.size) : Below B w w2 :=
  ⟨h.os.trans hb.os, h.tape.trans hb.tape, h.output.trans hb.output, Nat.le_trans hb.size h.size, fun k hk => (h.block k (by omega) (by omega)).trans (hb.block k hk)⟩
theorem add_some (a : Addr) (i : Nat) (h : i ≠ 0) : a.add i = ⟨a.block, a.off + i, none⟩ := by unfold Addr.add; rw [if_neg h]
theorem byte_nn {b : List Int} (hrng : ∀ x ∈ b, 0 ≤ x ∧ x < 256) (i : Nat) : rd b (i : Int) = nn (byteAt b i) := by
  have h : 0 ≤ b.getD i 0 ∧ b.getD i 0 < 256 := by
    rcases Nat.lt_or_ge i b.length with hi | hi
    · have : b.getD i 0 = b[i] := by simp [hi]
      rw [this]; exact hrng _ (List.getElem_mem hi)
    · have : b.getD i 0 = 0 := by simp [hi]
      omega
  show b.getD ((i : Int).toNat) 0 = _
  rw [Int.toNat_natCast]
  unfold nn byteAt
  rw [BitVec.toNat_ofInt]
  omega
/-- The first m cells are the words that f tells. -/
def isWord (L : Array Value) (m : Nat) (f : Nat → BitVec 32) : Prop := ∀ t, t < m → L[t]? = some (.int .u32 (nn (f t)))
theorem isWord_set {L : Array Value} {k : Nat} {f : Nat → BitVec 32} {x : BitVec 32} (h : isWord L k f) (hk : k < L.size) (hx : x = f k) : isWord (L.setIfInBounds k (.int .u32 (nn x))) (k + 1) f := by
  intro t ht
  rw [Array.getElem?_setIfInBounds]
  by_cases e : k = t
  · subst e; rw [if_pos rfl, if_pos hk, hx]
  · rw [if_neg e]; exact h t (by omega)
def stCells (s : St) : Array Value := #[.int .u32 (nn s.a), .int .u32 (nn s.b), .int .u32 (nn s.c), .int .u32 (nn s.d), .int .u32 (nn s.e), .int .u32 (nn s.f), .int .u32 (nn s.g), .int .u32 (nn s.h)]
theorem below_drewN_ {B : Nat} {w w1 : World} (h : Below B w w1) (i : Nat) : Below B w (w1.drewN i) := ⟨h.os, h.tape, h.output, h.size, h.block⟩
/-- What the reference's round lays down. -/
theorem round_a (k w : BitVec 32) (s : St) : Value.int .u32 (nn (s.h + ((s.e >>> 6 ||| s.e <<< 26) ^^^ (s.e >>> 11 ||| s.e <<< 21) ^^^ (s.e >>> 25 ||| s.e <<< 7)) + (s.e &&& s.f ||| ~~~s.e &&& s.g) + k + w + (((s.a >>> 2 ||| s.a <<< 30) ^^^ (s.a >>> 13 ||| s.a <<< 19) ^^^ (s.a >>> 22 ||| s.a <<< 10)) + (s.a &&& s.b ||| s.a &&& s.c ||| s.b &&& s.c)))) = .int .u32 (nn (sha.step k w s).a) := by
  rw [ch_or, maj_or]; rfl
theorem round_e (k w : BitVec 32) (s : St) : Value.int .u32 (nn (s.d + (s.h + ((s.e >>> 6 ||| s.e <<< 26) ^^^ (s.e >>> 11 ||| s.e <<< 21) ^^^ (s.e >>> 25 ||| s.e <<< 7)) + (s.e &&& s.f ||| ~~~s.e &&& s.g) + k + w))) = .int .u32 (nn (sha.step k w s).e) := by
  rw [ch_or]; rfl
theorem still_row_step {P : Program} {ops : Array Oper} {rest : List Oper} {o : Oper} {a : Act} {w : World} {Q : Act → Prop} (hgd : o.guard = none) (ty : TypeId) (x : Operand) (ho : o.op = .load ty x)
    (g : Nat) (hx : a.eval x = .pointer (some ⟨g, 0, none⟩)) (t : TypeId) (cs : Array Value) (fr : Nat × Nat) (d : TypeDesc) (hg : w.heap[g]? = some (.cells cs t fr))
    (hu : P.underlying ty = some d) (hd : (match d with | .struct _ | .array _ _ => true | _ => false) = true) (hi : (P.info? ty).map (·.size) = some cs.size)
    (h : wpStill P ops w Q rest (a.put o.dst (.agg cs))) : wpStill P ops w Q (o :: rest) a := by
  refine wpStill_step (fun K hK => ?_)
  have hw : Region.wanted o (yielded ops a.tmps) = true := by simp [Region.wanted, hgd]
  rw [if_pos hw]
  unfold Oper.still execOp
  simp only [ho, hx, Instr.loadAt, Instr.sureAddr, Sem.run_bind, Sem.run_pure, Result.andThen_ok, run_loadVar_row w g t ty cs fr d hg hu hd hi]
  exact ⟨rfl, hK _ h⟩
/-- The same, of words of 64 bits. -/
def isWord64 (L : Array Value) (m : Nat) (f : Nat → BitVec 32) : Prop := ∀ t, t < m → L[t]? = some (.int .u64 (nn (f t)))
theorem isWord64_set {L : Array Value} {k : Nat} {f : Nat → BitVec 32} {x : BitVec 32} (h : isWord64 L k f) (hk : k < L.size) (hx : x = f k) : isWord64 (L.setIfInBounds k (.int .u64 (nn x))) (k + 1) f := by
  intro t ht
  rw [Array.getElem?_setIfInBounds]
  by_cases e : k = t
  · subst e; rw [if_pos rfl, if_pos hk, hx]
  · rw [if_neg e]; exact h t (by omega)
def stCells64 (s : St) : Array Value := #[.int .u64 (nn s.a), .int .u64 (nn s.b), .int .u64 (nn s.c), .int .u64 (nn s.d), .int .u64 (nn s.e), .int .u64 (nn s.f), .int .u64 (nn s.g), .int .u64 (nn s.h)]
theorem eight {t : Nat} (h : t < 8) : t = 0 ∨ t = 1 ∨ t = 2 ∨ t = 3 ∨ t = 4 ∨ t = 5 ∨ t = 6 ∨ t = 7 := by omega
theorem stCells_word (s : St) : isWord (stCells s) 8 (stf s) := by
  intro t ht
  obtain rfl | rfl | rfl | rfl | rfl | rfl | rfl | rfl := eight ht
  all_goals rfl
theorem stCells64_word (s : St) : isWord64 (stCells64 s) 8 (stf s) := by
  intro t ht
  obtain rfl | rfl | rfl | rfl | rfl | rfl | rfl | rfl := eight ht
  all_goals rfl
theorem of_word {L : Array Value} {s : St} (h : isWord L 8 (stf s)) (hL : L.size = 8) : L = stCells s := by
  apply Array.ext (by rw [hL]; rfl)
  intro i h1 h2
  have e1 := h i (by omega)
  have e2 := stCells_word s i (by omega)
  rw [Array.getElem?_eq_getElem h1] at e1
  rw [Array.getElem?_eq_getElem h2] at e2
  exact Option.some.inj (e1.trans e2.symm)
theorem of_word64 {L : Array Value} {s : St} (h : isWord64 L 8 (stf s)) (hL : L.size = 8) : L = stCells64 s := by
  apply Array.ext (by rw [hL]; rfl)
  intro i h1 h2
  have e1 := h i (by omega)
  have e2 := stCells64_word s i (by omega)
  rw [Array.getElem?_eq_getElem h1] at e1
  rw [Array.getElem?_eq_getElem h2] at e2
  exact Option.some.inj (e1.trans e2.symm)
theorem Turn.then_ {g : Nat} {w w1 w2 : World} (h : Turn g w w1) (k : Turn g w1 w2) : Turn g w w2 :=
  ⟨k.os.trans h.os, k.tape.trans h.tape, k.output.trans h.output, Nat.le_trans h.size k.size, fun j hj hne => (k.block j (Nat.lt_of_lt_of_le hj h.size) hne).trans (h.block j hj hne)⟩
end Go.Proofs.YtglcapkmeecknaaDoor.mem
/-! ## Mem3 -/
namespace Go.Proofs.YtglcapkmeecknaaDoor.mem
open Go Go.RowKit Go.Proofs.YtglcapkmeecknaaDoor.sha Go.Proofs.YtglcapkmeecknaaDoorW.PrintWords
set_option linter.unusedVariables false
theorem add_block (a : Addr) (i : Nat) : (a.add i).block = a.block := by unfold Addr.add; split <;> rfl
/-- A slice of bytes that does not lie in block g. -/
structure Src (g : Nat) (w : World) (A : Option Addr) (c : Nat) (b : List Int) : Prop where
  le : b.length ≤ c
  c : Kd.C (Kd.int .u8) w A b.length b
  ne : ∀ ad, A = some ad → ad.block ≠ g
  rng : ∀ x ∈ b, 0 ≤ x ∧ x < 256
theorem Src.cell {g : Nat} {w : World} {A : Option Addr} {c : Nat} {b : List Int} (h : Src g w A c b) {i : Nat} (hi : i < b.length) :
    ∃ ad, A = some ad ∧ (ad.add i).block < w.heap.size ∧ (ad.add i).block ≠ g ∧ w.cell? (ad.add i) = some (.int .u8 (nn (byteAt b i))) := by
  obtain ⟨ad, e, hc⟩ := Kd.at_int h.c (i : Int) (by omega) (by omega)
  rw [Int.toNat_natCast, byte_nn h.rng] at hc
  have hl := World.block_lt_of_cell? w _ hc
  exact ⟨ad, e, hl, by rw [add_block]; exact h.ne ad e, hc⟩
theorem cut_ne {g : Nat} {A : Option Addr} (h : ∀ ad, A = some ad → ad.block ≠ g) (c m z : Nat) : ∀ ad, (if c = m then A else A.map (·.add z)) = some ad → ad.block ≠ g := by
  intro ad e
  split at e
  · exact h ad e
  · cases A with
    | none => cases e
    | some a => cases e; rw [add_block]; exact h a rfl
theorem Src.mid {g : Nat} {w : World} {A : Option Addr} {c : Nat} {b : List Int} (h : Src g w A c b) {lo hi : Nat} (h1 : lo ≤ hi) (h2 : hi ≤ b.length) :
    Src g w (if c = lo then A else A.map (·.add (lo * 1))) (c - lo) ((b.take hi).drop lo) :=
  ⟨by rw [List.length_drop, List.length_take]; have := h.le; omega, Kd.C_mid (k := Kd.int .u8) h.c h1 h2 h.le, cut_ne h.ne _ _ _, fun x hx => h.rng x (List.mem_of_mem_take (List.mem_of_mem_drop hx))⟩
theorem Src.drop {g : Nat} {w : World} {A : Option Addr} {c : Nat} {b : List Int} (h : Src g w A c b) {m : Nat} (hm : m ≤ b.length) :
    Src g w (if c = m then A else A.map (·.add (m * 1))) (c - m) (b.drop m) :=
  ⟨by rw [List.length_drop]; have := h.le; omega, Kd.C_drop (k := Kd.int .u8) h.c hm h.le, cut_ne h.ne _ _ _, fun x hx => h.rng x (List.mem_of_mem_drop hx)⟩
theorem byteAt_mid (l : List Int) (k i : Nat) (hk : k < 16) (hi : i < 4) : byteAt ((l.take (4 * k + 4)).drop (4 * k)) i = byteAt (l.take 64) (4 * k + i) := by
  unfold byteAt
  rw [List.getD_eq_getElem?_getD, List.getD_eq_getElem?_getD, List.getElem?_drop, List.getElem?_take, List.getElem?_take, if_pos (by omega), if_pos (by omega)]
/-- The first k words of eight at cells 6 .. are s's; all else is as in cs0. -/
structure Wds (cs0 : Array Value) (k : Nat) (s : St) (cs : Array Value) : Prop where
  size : cs.size = cs0.size
  word : ∀ i, i < k → cs[6 + i]? = some (.int .u64 (nn (stf s i)))
  out : ∀ q, (q < 6 ∨ 14 ≤ q) → cs[q]? = cs0[q]?
theorem Wds.set {cs0 cs : Array Value} {k : Nat} {s : St} (h : Wds cs0 k s cs) (hk : k < 8) (h14 : 14 ≤ cs0.size) {x : BitVec 32} (hx : x = stf s k) : Wds cs0 (k + 1) s (cs.setIfInBounds (6 + k) (.int .u64 (nn x))) := by
  refine ⟨by rw [Array.size_setIfInBounds, h.size], fun i hi => ?_, fun q hq => ?_⟩
  · rw [Array.getElem?_setIfInBounds]
    by_cases e : k = i
    · subst e; rw [if_pos rfl, if_pos (by rw [h.size]; omega), hx]
    · rw [if_neg (by omega)]; exact h.word i (by omega)
  · rw [Array.getElem?_setIfInBounds, if_neg (by omega)]; exact h.out q hq
theorem Wds.zero {cs0 cs : Array Value} {k : Nat} {s s' : St} (h : Wds cs0 k s cs) : Wds cs0 0 s' cs := ⟨h.size, fun i hi => absurd hi (by omega), h.out⟩
theorem stf_add (x y : St) : ∀ i, stf (x.add y) i = stf x i + stf y i
  | 0 | 1 | 2 | 3 | 4 | 5 | 6 => rfl
  | _ + 7 => rfl
theorem Turn.and_new {g n : Nat} {w w1 w2 : World} (h : Turn g w w1) (k : Turn n w1 w2) (hn : w.heap.size ≤ n) : Turn g w w2 :=
  ⟨k.os.trans h.os, k.tape.trans h.tape, k.output.trans h.output, Nat.le_trans h.size k.size, fun j hj hne => (k.block j (Nat.lt_of_lt_of_le hj h.size) (by omega)).trans (h.block j hj hne)⟩
theorem Turn.alloc {g : Nat} {w w1 : World} (h : Turn g w w1) (o : Obj) : Turn g w (w1.alloc o) := h.of_below (below_alloc (Below.refl _ _) o)
theorem Turn.drewN {g : Nat} {w w1 : World} (h : Turn g w w1) (i : Nat) : Turn g w (w1.drewN i) := ⟨h.os, h.tape, h.output, h.size, h.block⟩
end Go.Proofs.YtglcapkmeecknaaDoor.mem
/-! ## Mem2 -/
namespace Go.Proofs.YtglcapkmeecknaaDoor.mem
open Go Go.RowKit Go.Proofs.YtglcapkmeecknaaDoorW.PrintWords
theorem set8 (z0 z1 z2 z3 z4 z5 z6 z7 a0 a1 a2 a3 a4 a5 a6 a7 : Value) :
    (((((((((#[z0, z1, z2, z3, z4, z5, z6, z7] : Array Value).setIfInBounds 0 a0).setIfInBounds 1 a1).setIfInBounds 2 a2).setIfInBounds 3 a3).setIfInBounds 4 a4).setIfInBounds 5 a5).setIfInBounds 6 a6).setIfInBounds 7 a7) = #[a0, a1, a2, a3, a4, a5, a6, a7] := by
  simp only [List.setIfInBounds_toArray, List.set_cons_zero, List.set_cons_succ]
theorem blk_set8 {w : World} {g : Nat} {t : TypeId} {z0 z1 z2 z3 z4 z5 z6 z7 : Value} (h : w.heap[g]? = some (.cells #[z0, z1, z2, z3, z4, z5, z6, z7] t (0, 0))) (a0 a1 a2 a3 a4 a5 a6 a7 : Value) :
    ((((((((w.setCell ⟨g, 0, none⟩ a0).setCell ⟨g, 1, none⟩ a1).setCell ⟨g, 2, none⟩ a2).setCell ⟨g, 3, none⟩ a3).setCell ⟨g, 4, none⟩ a4).setCell ⟨g, 5, none⟩ a5).setCell ⟨g, 6, none⟩ a6).setCell ⟨g, 7, none⟩ a7).heap[g]? = some (.cells #[a0, a1, a2, a3, a4, a5, a6, a7] t (0, 0)) := by
  have R := blk_set (blk_set (blk_set (blk_set (blk_set (blk_set (blk_set (blk_set h 0 a0) 1 a1) 2 a2) 3 a3) 4 a4) 5 a5) 6 a6) 7 a7
  rw [set8] at R
  exact R
end Go.Proofs.YtglcapkmeecknaaDoor.mem
