/- SHA-256 in plain words, on words of 32 bits; how the model's whole numbers speak of them. A digest's bytes. Blocks taken one behind the other: a list in parts. (Merged by merge.py.) -/
import Derived.WalkKit
/-! ## Sha -/
namespace Go.Proofs.YtglcapkmeecknaaDoor.sha
open Go Go.RowKit
set_option linter.unusedVariables false
/-! Words. -/
theorem toNat_lt32 (x : BitVec 32) : (x.toNat : Int) < 4294967296 := by have := x.isLt; omega
theorem ofInt32 (x : BitVec 32) : BitVec.ofInt 32 (x.toNat : Int) = x := by
  apply BitVec.eq_of_toNat_eq
  rw [BitVec.toNat_ofInt]
  have := x.isLt
  omega
theorem wrap32 (n : Int) : IntKind.u32.wrap n = n % 4294967296 := by
  have := IntKind.wrap_u32 n
  simpa using this
theorem wrap_nat (x : BitVec 32) : IntKind.u32.wrap (x.toNat : Int) = (x.toNat : Int) := by
  rw [wrap32]; have := x.isLt; omega
theorem bv_xor (x y : BitVec 32) : bits .xor .u32 (x.toNat : Int) (y.toNat : Int) = ((x ^^^ y).toNat : Int) := by
  show IntKind.u32.wrap ((BitVec.ofInt 32 (x.toNat : Int) ^^^ BitVec.ofInt 32 (y.toNat : Int)).toNat : Int) = _
  rw [ofInt32, ofInt32, wrap_nat]
theorem bv_and (x y : BitVec 32) : bits .and .u32 (x.toNat : Int) (y.toNat : Int) = ((x &&& y).toNat : Int) := by
  show IntKind.u32.wrap ((BitVec.ofInt 32 (x.toNat : Int) &&& BitVec.ofInt 32 (y.toNat : Int)).toNat : Int) = _
  rw [ofInt32, ofInt32, wrap_nat]
theorem bv_or (x y : BitVec 32) : bits .or .u32 (x.toNat : Int) (y.toNat : Int) = ((x ||| y).toNat : Int) := by
  show IntKind.u32.wrap ((BitVec.ofInt 32 (x.toNat : Int) ||| BitVec.ofInt 32 (y.toNat : Int)).toNat : Int) = _
  rw [ofInt32, ofInt32, wrap_nat]
theorem bv_not (x : BitVec 32) : bits .xor .u32 (4294967295 : Int) (x.toNat : Int) = ((~~~x).toNat : Int) := by
  have e : ((4294967295 : Int)) = ((BitVec.allOnes 32).toNat : Int) := by decide
  rw [e, bv_xor, BitVec.allOnes_xor]
theorem bv_add (x y : BitVec 32) : IntKind.u32.wrap ((x.toNat : Int) + (y.toNat : Int)) = ((x + y).toNat : Int) := by
  rw [wrap32, BitVec.toNat_add]; omega
theorem bv_shl (x : BitVec 32) (n : Nat) : IntKind.u32.wrap ((x.toNat : Int) * 2 ^ n) = ((x <<< n).toNat : Int) := by
  rw [wrap32, BitVec.toNat_shiftLeft, Nat.shiftLeft_eq]
  have : ((x.toNat * 2 ^ n % 2 ^ 32 : Nat) : Int) = ((x.toNat : Int) * 2 ^ n) % 4294967296 := by
    rw [Int.natCast_emod, Int.natCast_mul, Int.natCast_pow]
    rfl
  rw [this]
theorem bv_shr (x : BitVec 32) (n : Nat) : ((x.toNat : Int)).fdiv (2 ^ n) = ((x >>> n).toNat : Int) := by
  rw [BitVec.toNat_ushiftRight, Nat.shiftRight_eq_div_pow]
  rw [show ((2 : Int) ^ n) = ((2 ^ n : Nat) : Int) by simp]
  rw [Int.fdiv_eq_ediv_of_nonneg _ (Int.natCast_nonneg _)]
  rfl

/-- A word as the model's whole number; behind a name, so that no walk opens it. -/
def nn (x : BitVec 32) : Int := (x.toNat : Int)
theorem nn_lo (x : BitVec 32) : 0 ≤ nn x := Int.natCast_nonneg _
theorem nn_hi (x : BitVec 32) : nn x < 4294967296 := toNat_lt32 x
theorem nn_inj {x y : BitVec 32} (h : nn x = nn y) : x = y := by
  unfold nn at h
  exact BitVec.eq_of_toNat_eq (by omega)
theorem nn_xor (x y : BitVec 32) : bits .xor .u32 (nn x) (nn y) = nn (x ^^^ y) := bv_xor x y
theorem nn_and (x y : BitVec 32) : bits .and .u32 (nn x) (nn y) = nn (x &&& y) := bv_and x y
theorem nn_or (x y : BitVec 32) : bits .or .u32 (nn x) (nn y) = nn (x ||| y) := bv_or x y
theorem nn_not (x : BitVec 32) : bits .xor .u32 (4294967295 : Int) (nn x) = nn (~~~x) := bv_not x
theorem nn_not' (x : BitVec 32) : bits .xor .u32 (if IntKind.u32.signed = true then -1 else IntKind.u32.max) (nn x) = nn (~~~x) := bv_not x
theorem nn_mod (x : BitVec 32) : nn x % (4294967296 : Int) = nn x := by have := nn_lo x; have := nn_hi x; omega
theorem nn_wrap (x : BitVec 32) : IntKind.u32.wrap (nn x) = nn x := wrap_nat x
theorem nn_wrap64 (x : BitVec 32) : IntKind.u64.wrap (nn x) = nn x := by rw [IntKind.wrap_u64]; have := nn_lo x; have := nn_hi x; omega
theorem nn_mod64 (x : BitVec 32) : nn x % (18446744073709551616 : Int) = nn x := by have := nn_lo x; have := nn_hi x; omega
theorem nn_add (x y : BitVec 32) : IntKind.u32.wrap (nn x + nn y) = nn (x + y) := bv_add x y
theorem nn_add' (x y : BitVec 32) : (nn x + nn y) % (4294967296 : Int) = nn (x + y) := by rw [← nn_add, wrap32]
theorem nn_shl (x : BitVec 32) (n : Nat) : (nn x * (2 : Int) ^ n) % (4294967296 : Int) = nn (x <<< n) := by rw [← wrap32]; exact bv_shl x n
theorem nn_shr (x : BitVec 32) (n : Nat) : nn x / (2 : Int) ^ n = nn (x >>> n) := by
  have h := bv_shr x n
  rw [show ((2 : Int) ^ n) = ((2 ^ n : Nat) : Int) by simp, Int.fdiv_eq_ediv_of_nonneg _ (Int.natCast_nonneg _)] at h
  rw [show ((2 : Int) ^ n) = ((2 ^ n : Nat) : Int) by simp]
  exact h
theorem nn_shl7 (x : BitVec 32) : (nn x * (128 : Int)) % (4294967296 : Int) = nn (x <<< 7) := nn_shl x 7
theorem nn_shl8 (x : BitVec 32) : (nn x * (256 : Int)) % (4294967296 : Int) = nn (x <<< 8) := nn_shl x 8
theorem nn_shl10 (x : BitVec 32) : (nn x * (1024 : Int)) % (4294967296 : Int) = nn (x <<< 10) := nn_shl x 10
theorem nn_shl13 (x : BitVec 32) : (nn x * (8192 : Int)) % (4294967296 : Int) = nn (x <<< 13) := nn_shl x 13
theorem nn_shl14 (x : BitVec 32) : (nn x * (16384 : Int)) % (4294967296 : Int) = nn (x <<< 14) := nn_shl x 14
theorem nn_shl15 (x : BitVec 32) : (nn x * (32768 : Int)) % (4294967296 : Int) = nn (x <<< 15) := nn_shl x 15
theorem nn_shl16 (x : BitVec 32) : (nn x * (65536 : Int)) % (4294967296 : Int) = nn (x <<< 16) := nn_shl x 16
theorem nn_shl19 (x : BitVec 32) : (nn x * (524288 : Int)) % (4294967296 : Int) = nn (x <<< 19) := nn_shl x 19
theorem nn_shl21 (x : BitVec 32) : (nn x * (2097152 : Int)) % (4294967296 : Int) = nn (x <<< 21) := nn_shl x 21
theorem nn_shl24 (x : BitVec 32) : (nn x * (16777216 : Int)) % (4294967296 : Int) = nn (x <<< 24) := nn_shl x 24
theorem nn_shl25 (x : BitVec 32) : (nn x * (33554432 : Int)) % (4294967296 : Int) = nn (x <<< 25) := nn_shl x 25
theorem nn_shl26 (x : BitVec 32) : (nn x * (67108864 : Int)) % (4294967296 : Int) = nn (x <<< 26) := nn_shl x 26
theorem nn_shl30 (x : BitVec 32) : (nn x * (1073741824 : Int)) % (4294967296 : Int) = nn (x <<< 30) := nn_shl x 30
theorem nn_shr2 (x : BitVec 32) : nn x / (4 : Int) = nn (x >>> 2) := nn_shr x 2
theorem nn_shr3 (x : BitVec 32) : nn x / (8 : Int) = nn (x >>> 3) := nn_shr x 3
theorem nn_shr6 (x : BitVec 32) : nn x / (64 : Int) = nn (x >>> 6) := nn_shr x 6
theorem nn_shr7 (x : BitVec 32) : nn x / (128 : Int) = nn (x >>> 7) := nn_shr x 7
theorem nn_shr10 (x : BitVec 32) : nn x / (1024 : Int) = nn (x >>> 10) := nn_shr x 10
theorem nn_shr11 (x : BitVec 32) : nn x / (2048 : Int) = nn (x >>> 11) := nn_shr x 11
theorem nn_shr13 (x : BitVec 32) : nn x / (8192 : Int) = nn (x >>> 13) := nn_shr x 13
theorem nn_shr17 (x : BitVec 32) : nn x / (131072 : Int) = nn (x >>> 17) := nn_shr x 17
theorem nn_shr18 (x : BitVec 32) : nn x / (262144 : Int) = nn (x >>> 18) := nn_shr x 18
theorem nn_shr19 (x : BitVec 32) : nn x / (524288 : Int) = nn (x >>> 19) := nn_shr x 19
theorem nn_shr22 (x : BitVec 32) : nn x / (4194304 : Int) = nn (x >>> 22) := nn_shr x 22
theorem nn_shr25 (x : BitVec 32) : nn x / (33554432 : Int) = nn (x >>> 25) := nn_shr x 25
theorem nn_shlw7 (x : BitVec 32) : IntKind.u32.wrap (nn x * (128 : Int)) = nn (x <<< 7) := by rw [wrap32]; exact nn_shl7 x
theorem nn_shlw8 (x : BitVec 32) : IntKind.u32.wrap (nn x * (256 : Int)) = nn (x <<< 8) := by rw [wrap32]; exact nn_shl8 x
theorem nn_shlw10 (x : BitVec 32) : IntKind.u32.wrap (nn x * (1024 : Int)) = nn (x <<< 10) := by rw [wrap32]; exact nn_shl10 x
theorem nn_shlw13 (x : BitVec 32) : IntKind.u32.wrap (nn x * (8192 : Int)) = nn (x <<< 13) := by rw [wrap32]; exact nn_shl13 x
theorem nn_shlw14 (x : BitVec 32) : IntKind.u32.wrap (nn x * (16384 : Int)) = nn (x <<< 14) := by rw [wrap32]; exact nn_shl14 x
theorem nn_shlw15 (x : BitVec 32) : IntKind.u32.wrap (nn x * (32768 : Int)) = nn (x <<< 15) := by rw [wrap32]; exact nn_shl15 x
theorem nn_shlw16 (x : BitVec 32) : IntKind.u32.wrap (nn x * (65536 : Int)) = nn (x <<< 16) := by rw [wrap32]; exact nn_shl16 x
theorem nn_shlw19 (x : BitVec 32) : IntKind.u32.wrap (nn x * (524288 : Int)) = nn (x <<< 19) := by rw [wrap32]; exact nn_shl19 x
theorem nn_shlw21 (x : BitVec 32) : IntKind.u32.wrap (nn x * (2097152 : Int)) = nn (x <<< 21) := by rw [wrap32]; exact nn_shl21 x
theorem nn_shlw24 (x : BitVec 32) : IntKind.u32.wrap (nn x * (16777216 : Int)) = nn (x <<< 24) := by rw [wrap32]; exact nn_shl24 x
theorem nn_shlw25 (x : BitVec 32) : IntKind.u32.wrap (nn x * (33554432 : Int)) = nn (x <<< 25) := by rw [wrap32]; exact nn_shl25 x
theorem nn_shlw26 (x : BitVec 32) : IntKind.u32.wrap (nn x * (67108864 : Int)) = nn (x <<< 26) := by rw [wrap32]; exact nn_shl26 x
theorem nn_shlw30 (x : BitVec 32) : IntKind.u32.wrap (nn x * (1073741824 : Int)) = nn (x <<< 30) := by rw [wrap32]; exact nn_shl30 x

/-! The digest. -/
def rot (x : BitVec 32) (n : Nat) : BitVec 32 := (x >>> n) ||| (x <<< (32 - n))
def sg0 (x : BitVec 32) : BitVec 32 := rot x 7 ^^^ rot x 18 ^^^ (x >>> 3)
def sg1 (x : BitVec 32) : BitVec 32 := rot x 17 ^^^ rot x 19 ^^^ (x >>> 10)
def bs0 (x : BitVec 32) : BitVec 32 := rot x 2 ^^^ rot x 13 ^^^ rot x 22
def bs1 (x : BitVec 32) : BitVec 32 := rot x 6 ^^^ rot x 11 ^^^ rot x 25
def ch (e f g : BitVec 32) : BitVec 32 := (e &&& f) ^^^ (~~~e &&& g)
def maj (a b c : BitVec 32) : BitVec 32 := (a &&& b) ^^^ (a &&& c) ^^^ (b &&& c)
theorem ch_or (e f g : BitVec 32) : (e &&& f) ||| (~~~e &&& g) = ch e f g := by
  apply BitVec.eq_of_getLsbD_eq
  intro i hi
  simp only [ch, BitVec.getLsbD_or, BitVec.getLsbD_xor, BitVec.getLsbD_and, BitVec.getLsbD_not]
  cases e.getLsbD i <;> cases f.getLsbD i <;> cases g.getLsbD i <;> simp
theorem maj_or (a b c : BitVec 32) : (a &&& b) ||| (a &&& c) ||| (b &&& c) = maj a b c := by
  apply BitVec.eq_of_getLsbD_eq
  intro i hi
  simp only [maj, BitVec.getLsbD_or, BitVec.getLsbD_xor, BitVec.getLsbD_and]
  cases a.getLsbD i <;> cases b.getLsbD i <;> cases c.getLsbD i <;> rfl
theorem rot_or (x : BitVec 32) (n : Nat) : (x <<< (32 - n)) ||| (x >>> n) = rot x n := by
  unfold rot
  exact BitVec.or_comm _ _
/-- A block's word: four bytes, the highest first. -/
def word4 (p q r s : BitVec 32) : BitVec 32 := p <<< 24 ||| q <<< 16 ||| r <<< 8 ||| s
def byteAt (b : List Int) (i : Nat) : BitVec 32 := BitVec.ofInt 32 (b.getD i 0)
def m16 (b : List Int) (t : Nat) : BitVec 32 := word4 (byteAt b (4 * t)) (byteAt b (4 * t + 1)) (byteAt b (4 * t + 2)) (byteAt b (4 * t + 3))
def sched (b : List Int) (t : Nat) : BitVec 32 :=
  if h : t < 16 then m16 b t else sched b (t - 16) + sched b (t - 7) + sg0 (sched b (t - 15)) + sg1 (sched b (t - 2))
termination_by t
structure St where
  a : BitVec 32
  b : BitVec 32
  c : BitVec 32
  d : BitVec 32
  e : BitVec 32
  f : BitVec 32
  g : BitVec 32
  h : BitVec 32
def step (k w : BitVec 32) (s : St) : St :=
  let t1 := s.h + bs1 s.e + ch s.e s.f s.g + k + w
  let t2 := bs0 s.a + maj s.a s.b s.c
  ⟨t1 + t2, s.a, s.b, s.c, s.d + t1, s.e, s.f, s.g⟩
def steps (k w : Nat → BitVec 32) : Nat → St → St
  | 0, s => s
  | n + 1, s => step (k n) (w n) (steps k w n s)
def St.add (x y : St) : St := ⟨x.a + y.a, x.b + y.b, x.c + y.c, x.d + y.d, x.e + y.e, x.f + y.f, x.g + y.g, x.h + y.h⟩
def taken (k : Nat → BitVec 32) (s : St) (b : List Int) : St := s.add (steps k (sched b) 64 s)
/-- The first m blocks of 64 bytes, one behind the other. -/
def upto (k : Nat → BitVec 32) (s : St) (p : List Int) : Nat → St
  | 0 => s
  | m + 1 => taken k (upto k s p m) ((p.take (64 * m + 64)).drop (64 * m))
/-- A state's words by their places. -/
def stf (s : St) : Nat → BitVec 32
  | 0 => s.a
  | 1 => s.b
  | 2 => s.c
  | 3 => s.d
  | 4 => s.e
  | 5 => s.f
  | 6 => s.g
  | _ => s.h
theorem sched_small (b : List Int) {t : Nat} (h : t < 16) : sched b t = m16 b t := by rw [sched, dif_pos h]
theorem sched_big (b : List Int) {t : Nat} (h : 16 ≤ t) : sched b t = sched b (t - 16) + sched b (t - 7) + sg0 (sched b (t - 15)) + sg1 (sched b (t - 2)) := by
  rw [sched, dif_neg (by omega)]
theorem sched_at (b : List Int) (j : Nat) : sched b (j + 16) = sched b j + sched b (j + 9) + sg0 (sched b (j + 1)) + sg1 (sched b (j + 14)) := by
  rw [sched_big b (by omega), show j + 16 - 16 = j by omega, show j + 16 - 7 = j + 9 by omega, show j + 16 - 15 = j + 1 by omega, show j + 16 - 2 = j + 14 by omega]
theorem sched_ref (a b x y : BitVec 32) : sg1 y + b + sg0 x + a = a + b + sg0 x + sg1 y := by ac_rfl
end Go.Proofs.YtglcapkmeecknaaDoor.sha
/-! ## Dig -/
namespace Go.Proofs.YtglcapkmeecknaaDoor.sha
open Go Go.RowKit
/-- A word's bytes, the highest first. -/
def wbytes (x : BitVec 32) : List Int := [nn x / 16777216 % 256, nn x / 65536 % 256, nn x / 256 % 256, nn x % 256]
def digTo (s : St) (i : Nat) : List Int := (List.range i).flatMap fun j => wbytes (stf s j)
def dig (s : St) : List Int := digTo s 8
theorem digTo_len (s : St) : ∀ i, (digTo s i).length = 4 * i
  | 0 => rfl
  | i + 1 => by
    have := digTo_len s i
    unfold digTo at *
    rw [List.range_succ, List.flatMap_append, List.length_append, this]
    simp [wbytes]; omega
theorem digTo_succ (s : St) (i : Nat) : digTo s (i + 1) = digTo s i ++ wbytes (stf s i) := by
  unfold digTo
  rw [List.range_succ, List.flatMap_append]
  simp
end Go.Proofs.YtglcapkmeecknaaDoor.sha
/-! ## Upto -/
namespace Go.Proofs.YtglcapkmeecknaaDoor.sha
open Go Go.RowKit
theorem upto_left (k : Nat → BitVec 32) (s : St) (p q : List Int) (m : Nat) (hp : p.length = 64 * m) : ∀ n, n ≤ m → upto k s (p ++ q) n = upto k s p n
  | 0, _ => rfl
  | n + 1, h => by
    show taken k (upto k s (p ++ q) n) (((p ++ q).take (64 * n + 64)).drop (64 * n)) = taken k (upto k s p n) ((p.take (64 * n + 64)).drop (64 * n))
    rw [upto_left k s p q m hp n (by omega), List.take_append_of_le_length (by omega)]
theorem upto_append (k : Nat → BitVec 32) (s : St) (p q : List Int) (m : Nat) (hp : p.length = 64 * m) : ∀ n, upto k (upto k s p m) q n = upto k s (p ++ q) (m + n)
  | 0 => (upto_left k s p q m hp m (Nat.le_refl _)).symm
  | n + 1 => by
    show taken k (upto k (upto k s p m) q n) ((q.take (64 * n + 64)).drop (64 * n)) = taken k (upto k s (p ++ q) (m + n)) (((p ++ q).take (64 * (m + n) + 64)).drop (64 * (m + n)))
    rw [upto_append k s p q m hp n]
    have e : ((p ++ q).take (64 * (m + n) + 64)).drop (64 * (m + n)) = (q.take (64 * n + 64)).drop (64 * n) := by
      rw [List.take_append, List.drop_append, List.take_of_length_le (show p.length ≤ 64 * (m + n) + 64 by omega), List.drop_eq_nil_of_le (show p.length ≤ 64 * (m + n) by omega), List.nil_append, hp]
      rw [show 64 * (m + n) + 64 - 64 * m = 64 * n + 64 by omega, show 64 * (m + n) - 64 * m = 64 * n by omega]
    rw [e]
end Go.Proofs.YtglcapkmeecknaaDoor.sha
