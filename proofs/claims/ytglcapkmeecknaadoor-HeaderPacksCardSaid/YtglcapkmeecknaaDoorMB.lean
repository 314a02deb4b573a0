/- Words in memory: an array of words, a world that is as it was but for one block. Eight cells written one behind the other. Bytes to be taken; a state's eight words within a block. A row of bytes of the call's own, known whole. (Merged by merge.py.) -/
import Derived.Test.YtglcapkmeecknaaDoorMA
import Derived.Test.YtglcapkmeecknaaDoorPHeaderPacksx0
import Derived.Still
import Derived.Laws.CopyOwn
import Derived.Lib.BufferWrite
/-! ## Mem -/
namespace Go.Proofs.YtglcapkmeecknaaDoor.mem
open Go Go.RowKit Go.Proofs.YtglcapkmeecknaaDoor.sha Go.Proofs.YtglcapkmeecknaaDoorW.PrintWords
set_option linter.unusedVariables false
/-- World w1 is w but for block g and what is new. -/
structure Turn (g : Nat) (w w1 : World) : Prop where
  os : w1.os = w.os
  tape : w1.tape = w.tape
  output : w1.output = w.output
  size : w.heap.size ≤ w1.heap.size
  block : ∀ k, k < w.heap.size → k ≠ g → w1.heap[k]? = w.heap[k]?
theorem Turn.refl (g : Nat) (w : World) : Turn g w w := ⟨rfl, rfl, rfl, Nat.le_refl _, fun _ _ _ => rfl⟩
theorem Turn.drew {g : Nat} {w w1 : World} (h : Turn g w w1) : Turn g w w1.drew := ⟨h.os, h.tape, h.output, h.size, h.block⟩
theorem Turn.setCell {g : Nat} {w w1 : World} (h : Turn g w w1) (i : Nat) (v : Value) : Turn g w (w1.setCell ⟨g, i, none⟩ v) :=
  ⟨h.os, h.tape, h.output, by rw [World.size_setCell]; exact h.size, fun k hk hne => (Below.heap_setCell w1 ⟨g, i, none⟩ v k hne).trans (h.block k hk hne)⟩
theorem Turn.cell {g : Nat} {w w1 : World} (h : Turn g w w1) {p : Addr} (hp : p.block < w.heap.size) (hne : p.block ≠ g) : w1.cell? p = w.cell? p := World.cell?_of_block (h.block _ hp hne)
theorem Turn.blk {g : Nat} {w w1 : World} (h : Turn g w w1) {k : Nat} {o : Obj} (hb : w.heap[k]? = some o) (hne : k ≠ g) : w1.heap[k]? = some o := (h.block k (blk_lt hb) hne).trans hb
theorem Turn.of_below {g : Nat} {w w1 w2 : World} (h : Turn g w w1) (hb : Below w1.heap.size w1 w2) : Turn g w w2 :=
  ⟨hb.os.trans h.os, hb.tape.trans h.tape, hb.output.trans h.output, Nat.le_trans h.size hb.size, fun k hk hne => (hb.block k (Nat.lt_of_lt_of_le hk h.size)).trans (h.block k hk hne)⟩
theorem Turn.below {g B : Nat} {w w1 w2 : World} (hb : Below B w w1) (h : Turn g w1 w2) (hg : B ≤ g) (hB : B ≤ w1.heap.size) : Below B w w2 :=
  ⟨h.os.trans hb.os, h.tape.trans hb.tape, h.output.trans hb.output, Nat.le_trans hb.size h.size, fun k hk => (h.block k (by omega) (by omega)).trans (hb.block k hk)⟩
theorem add_some (a : Addr) (i : Nat) (h : i ≠ 0) : a.add i = ⟨a.block, a.off + i, none⟩ := by unfold Addr.add; rw [if_neg h]
theorem byte_nn {b : List Int} (hrng : ∀ x ∈ b, 0 ≤ x ∧ x < 256) (i : Nat) : rd b (i : Int) = nn (byteAt b i) := by
  have h : 0 ≤ b.getD i 0 ∧ b.getD i 0 < 256 := by
    rcases Nat.lt_or_ge i b.length with hi | hi
    · have : b.getD i 0 = b[i] := by simp [hi]
      rw [this]; exact hrng _ (List.getElem_mem hi)
    · have : b.getD i 0 = 0 := by simp [hi]
      omega
  show b.getD ((i : Int).toNat) 0 = _
  rw [Int.toNat_natCast]
  unfold nn byteAt
  rw [BitVec.toNat_ofInt]
  omega
/-- The first m cells are the words that f tells. -/
def isWord (L : Array Value) (m : Nat) (f : Nat → BitVec 32) : Prop := ∀ t, t < m → L[t]? = some (.int .u32 (nn (f t)))
theorem isWord_set {L : Array Value} {k : Nat} {f : Nat → BitVec 32} {x : BitVec 32} (h : isWord L k f) (hk : k < L.size) (hx : x = f k) : isWord (L.setIfInBounds k (.int .u32 (nn x))) (k + 1) f := by
  intro t ht
  rw [Array.getElem?_setIfInBounds]
  by_cases e : k = t
  · subst e; rw [if_pos rfl, if_pos hk, hx]
  · rw [if_neg e]; exact h t (by omega)
def stCells (s : St) : Array Value := #[.int .u32 (nn s.a), .int .u32 (nn s.b), .int .u32 (nn s.c), .int .u32 (nn s.d), .int .u32 (nn s.e), .int .u32 (nn s.f), .int .u32 (nn s.g), .int .u32 (nn s.h)]
theorem below_drewN_ {B : Nat} {w w1 : World} (h : Below B w w1) (i : Nat) : Below B w (w1.drewN i) := ⟨h.os, h.tape, h.output, h.size, h.block⟩
/-- What the reference's round lays down. -/
theorem round_a (k w : BitVec 32) (s : St) : Value.int .u32 (nn (s.h + ((s.e >>> 6 ||| s.e <<< 26) ^^^ (s.e >>> 11 ||| s.e <<< 21) ^^^ (s.e >>> 25 ||| s.e <<< 7)) + (s.e &&& s.f ||| ~~~s.e &&& s.g) + k + w + (((s.a >>> 2 ||| s.a <<< 30) ^^^ (s.a >>> 13 ||| s.a <<< 19) ^^^ (s.a >>> 22 ||| s.a <<< 10)) + (s.a &&& s.b ||| s.a &&& s.c ||| s.b &&& s.c)))) = .int .u32 (nn (sha.step k w s).a) := by
  rw [ch_or, maj_or]; rfl
theorem round_e (k w : BitVec 32) (s : St) : Value.int .u32 (nn (s.d + (s.h + ((s.e >>> 6 ||| s.e <<< 26) ^^^ (s.e >>> 11 ||| s.e <<< 21) ^^^ (s.e >>> 25 ||| s.e <<< 7)) + (s.e &&& s.f ||| ~~~s.e &&& s.g) + k + w))) = .int .u32 (nn (sha.step k w s).e) := by
  rw [ch_or]; rfl
theorem still_row_step {P : Program} {ops : Array Oper} {rest : List Oper} {o : Oper} {a : Act} {w : World} {Q : Act → Prop} (hgd : o.guard = none) (ty : TypeId) (x : Operand) (ho : o.op = .load ty x)
    (g : Nat) (hx : a.eval x = .pointer (some ⟨g, 0, none⟩)) (t : TypeId) (cs : Array Value) (fr : Nat × Nat) (d : TypeDesc) (hg : w.heap[g]? = some (.cells cs t fr))
    (hu : P.underlying ty = some d) (hd : (match d with | .struct _ | .array _ _ => true | _ => false) = true) (hi : (P.info? ty).map (·.size) = some cs.size)
    (h : wpStill P ops w Q rest (a.put o.dst (.agg cs))) : wpStill P ops w Q (o :: rest) a := by
  refine wpStill_step (fun K hK => ?_)
  have hw : Region.wanted o (yielded ops a.tmps) = true := by simp [Region.wanted, hgd]
  rw [if_pos hw]
  unfold Oper.still execOp
  simp only [ho, hx, Instr.loadAt, Instr.sureAddr, Sem.run_bind, Sem.run_pure, Result.andThen_ok, run_loadVar_row w g t ty cs fr d hg hu hd hi]
  exact ⟨rfl, hK _ h⟩
/-- The same, of words of 64 bits. -/
def isWord64 (L : Array Value) (m : Nat) (f : Nat → BitVec 32) : Prop := ∀ t, t < m → L[t]? = some (.int .u64 (nn (f t)))
theorem isWord64_set {L : Array Value} {k : Nat} {f : Nat → BitVec 32} {x : BitVec 32} (h : isWord64 L k f) (hk : k < L.size) (hx : x = f k) : isWord64 (L.setIfInBounds k (.int .u64 (nn x))) (k + 1) f := by
  intro t ht
  rw [Array.getElem?_setIfInBounds]
  by_cases e : k = t
  · subst e; rw [if_pos rfl, if_pos hk, hx]
  · rw [if_neg e]; exact h t (by omega)
def stCells64 (s : St) : Array Value := #[.int .u64 (nn s.a), .int .u64 (nn s.b), .int .u64 (nn s.c), .int .u64 (nn s.d), .int .u64 (nn s.e), .int .u64 (nn s.f), .int .u64 (nn s.g), .int .u64 (nn s.h)]
theorem eight {t : Nat} (h : t < 8) : t = 0 ∨ t = 1 ∨ t = 2 ∨ t = 3 ∨ t = 4 ∨ t = 5 ∨ t = 6 ∨ t = 7 := by omega
theorem stCells_word (s : St) : isWord (stCells s) 8 (stf s) := by
  intro t ht
  obtain rfl | rfl | rfl | rfl | rfl | rfl | rfl | rfl := eight ht
  all_goals rfl
theorem stCells64_word (s : St) : isWord64 (stCells64 s) 8 (stf s) := by
  intro t ht
  obtain rfl | rfl | rfl | rfl | rfl | rfl | rfl | rfl := eight ht
  all_goals rfl
theorem of_word {L : Array Value} {s : St} (h : isWord L 8 (stf s)) (hL : L.size = 8) : L = stCells s := by
  apply Array.ext (by rw [hL]; rfl)
  intro i h1 h2
  have e1 := h i (by omega)
  have e2 := stCells_word s i (by omega)
  rw [Array.getElem?_eq_getElem h1] at e1
  rw [Array.getElem?_eq_getElem h2] at e2
  exact Option.some.inj (e1.trans e2.symm)
theorem of_word64 {L : Array Value} {s : St} (h : isWord64 L 8 (stf s)) (hL : L.size = 8) : L = stCells64 s := by
  apply Array.ext (by rw [hL]; rfl)
  intro i h1 h2
  have e1 := h i (by omega)
  have e2 := stCells64_word s i (by omega)
  rw [Array.getElem?_eq_getElem h1] at e1
  rw [Array.getElem?_eq_getElem h2] at e2
  exact Option.some.inj (e1.trans e2.symm)
theorem Turn.then_ {g : Nat} {w w1 w2 : World} (h : Turn g w w1) (k : Turn g w1 w2) : Turn g w w2 :=
  ⟨k.os.trans h.os, k.tape.trans h.tape, k.output.trans h.output, Nat.le_trans h.size k.size, fun j hj hne => (k.block j (Nat.lt_of_lt_of_le hj h.size) hne).trans (h.block j hj hne)⟩
end Go.Proofs.YtglcapkmeecknaaDoor.mem
/-! ## Mem2 -/
namespace Go.Proofs.YtglcapkmeecknaaDoor.mem
open Go Go.RowKit Go.Proofs.YtglcapkmeecknaaDoorW.PrintWords
theorem set8 (z0 z1 z2 z3 z4 z5 z6 z7 a0 a1 a2 a3 a4 a5 a6 a7 : Value) :
    (((((((((#[z0, z1, z2, z3, z4, z5, z6, z7] : Array Value).setIfInBounds 0 a0).setIfInBounds 1 a1).setIfInBounds 2 a2).setIfInBounds 3 a3).setIfInBounds 4 a4).setIfInBounds 5 a5).setIfInBounds 6 a6).setIfInBounds 7 a7) = #[a0, a1, a2, a3, a4, a5, a6, a7] := by
  simp only [List.setIfInBounds_toArray, List.set_cons_zero, List.set_cons_succ]
theorem blk_set8 {w : World} {g : Nat} {t : TypeId} {z0 z1 z2 z3 z4 z5 z6 z7 : Value} (h : w.heap[g]? = some (.cells #[z0, z1, z2, z3, z4, z5, z6, z7] t (0, 0))) (a0 a1 a2 a3 a4 a5 a6 a7 : Value) :
    ((((((((w.setCell ⟨g, 0, none⟩ a0).setCell ⟨g, 1, none⟩ a1).setCell ⟨g, 2, none⟩ a2).setCell ⟨g, 3, none⟩ a3).setCell ⟨g, 4, none⟩ a4).setCell ⟨g, 5, none⟩ a5).setCell ⟨g, 6, none⟩ a6).setCell ⟨g, 7, none⟩ a7).heap[g]? = some (.cells #[a0, a1, a2, a3, a4, a5, a6, a7] t (0, 0)) := by
  have R := blk_set (blk_set (blk_set (blk_set (blk_set (blk_set (blk_set (blk_set h 0 a0) 1 a1) 2 a2) 3 a3) 4 a4) 5 a5) 6 a6) 7 a7
  rw [set8] at R
  exact R
end Go.Proofs.YtglcapkmeecknaaDoor.mem
/-! ## Mem3 -/
namespace Go.Proofs.YtglcapkmeecknaaDoor.mem
open Go Go.RowKit Go.Proofs.YtglcapkmeecknaaDoor.sha Go.Proofs.YtglcapkmeecknaaDoorW.PrintWords
set_option linter.unusedVariables false
theorem add_block (a : Addr) (i : Nat) : (a.add i).block = a.block := by unfold Addr.add; split <;> rfl
/-- A slice of bytes that does not lie in block g. -/
structure Src (g : Nat) (w : World) (A : Option Addr) (c : Nat) (b : List Int) : Prop where
  le : b.length ≤ c
  c : Kd.C (Kd.int .u8) w A b.length b
  ne : ∀ ad, A = some ad → ad.block ≠ g
  rng : ∀ x ∈ b, 0 ≤ x ∧ x < 256
theorem Src.cell {g : Nat} {w : World} {A : Option Addr} {c : Nat} {b : List Int} (h : Src g w A c b) {i : Nat} (hi : i < b.length) :
    ∃ ad, A = some ad ∧ (ad.add i).block < w.heap.size ∧ (ad.add i).block ≠ g ∧ w.cell? (ad.add i) = some (.int .u8 (nn (byteAt b i))) := by
  obtain ⟨ad, e, hc⟩ := Kd.at_int h.c (i : Int) (by omega) (by omega)
  rw [Int.toNat_natCast, byte_nn h.rng] at hc
  have hl := World.block_lt_of_cell? w _ hc
  exact ⟨ad, e, hl, by rw [add_block]; exact h.ne ad e, hc⟩
theorem cut_ne {g : Nat} {A : Option Addr} (h : ∀ ad, A = some ad → ad.block ≠ g) (c m z : Nat) : ∀ ad, (if c = m then A else A.map (·.add z)) = some ad → ad.block ≠ g := by
  intro ad e
  split at e
  · exact h ad e
  · cases A with
    | none => cases e
    | some a => cases e; rw [add_block]; exact h a rfl
theorem Src.mid {g : Nat} {w : World} {A : Option Addr} {c : Nat} {b : List Int} (h : Src g w A c b) {lo hi : Nat} (h1 : lo ≤ hi) (h2 : hi ≤ b.length) :
    Src g w (if c = lo then A else A.map (·.add (lo * 1))) (c - lo) ((b.take hi).drop lo) :=
  ⟨by rw [List.length_drop, List.length_take]; have := h.le; omega, Kd.C_mid (k := Kd.int .u8) h.c h1 h2 h.le, cut_ne h.ne _ _ _, fun x hx => h.rng x (List.mem_of_mem_take (List.mem_of_mem_drop hx))⟩
theorem Src.drop {g : Nat} {w : World} {A : Option Addr} {c : Nat} {b : List Int} (h : Src g w A c b) {m : Nat} (hm : m ≤ b.length) :
    Src g w (if c = m then A else A.map (·.add (m * 1))) (c - m) (b.drop m) :=
  ⟨by rw [List.length_drop]; have := h.le; omega, Kd.C_drop (k := Kd.int .u8) h.c hm h.le, cut_ne h.ne _ _ _, fun x hx => h.rng x (List.mem_of_mem_drop hx)⟩
theorem byteAt_mid (l : List Int) (k i : Nat) (hk : k < 16) (hi : i < 4) : byteAt ((l.take (4 * k + 4)).drop (4 * k)) i = byteAt (l.take 64) (4 * k + i) := by
  unfold byteAt
  rw [List.getD_eq_getElem?_getD, List.getD_eq_getElem?_getD, List.getElem?_drop, List.getElem?_take, List.getElem?_take, if_pos (by omega), if_pos (by omega)]
/-- The first k words of eight at cells 6 .. are s's; all else is as in cs0. -/
structure Wds (cs0 : Array Value) (k : Nat) (s : St) (cs : Array Value) : Prop where
  size : cs.size = cs0.size
  word : ∀ i, i < k → cs[6 + i]? = some (.int .u64 (nn (stf s i)))
  out : ∀ q, (q < 6 ∨ 14 ≤ q) → cs[q]? = cs0[q]?
theorem Wds.set {cs0 cs : Array Value} {k : Nat} {s : St} (h : Wds cs0 k s cs) (hk : k < 8) (h14 : 14 ≤ cs0.size) {x : BitVec 32} (hx : x = stf s k) : Wds cs0 (k + 1) s (cs.setIfInBounds (6 + k) (.int .u64 (nn x))) := by
  refine ⟨by rw [Array.size_setIfInBounds, h.size], fun i hi => ?_, fun q hq => ?_⟩
  · rw [Array.getElem?_setIfInBounds]
    by_cases e : k = i
    · subst e; rw [if_pos rfl, if_pos (by rw [h.size]; omega), hx]
    · rw [if_neg (by omega)]; exact h.word i (by omega)
  · rw [Array.getElem?_setIfInBounds, if_neg (by omega)]; exact h.out q hq
theorem Wds.zero {cs0 cs : Array Value} {k : Nat} {s s' : St} (h : Wds cs0 k s cs) : Wds cs0 0 s' cs := ⟨h.size, fun i hi => absurd hi (by omega), h.out⟩
theorem stf_add (x y : St) : ∀ i, stf (x.add y) i = stf x i + stf y i
  | 0 | 1 | 2 | 3 | 4 | 5 | 6 => rfl
  | _ + 7 => rfl
theorem Turn.and_new {g n : Nat} {w w1 w2 : World} (h : Turn g w w1) (k : Turn n w1 w2) (hn : w.heap.size ≤ n) : Turn g w w2 :=
  ⟨k.os.trans h.os, k.tape.trans h.tape, k.output.trans h.output, Nat.le_trans h.size k.size, fun j hj hne => (k.block j (Nat.lt_of_lt_of_le hj h.size) (by omega)).trans (h.block j hj hne)⟩
theorem Turn.alloc {g : Nat} {w w1 : World} (h : Turn g w w1) (o : Obj) : Turn g w (w1.alloc o) := h.of_below (below_alloc (Below.refl _ _) o)
theorem Turn.drewN {g : Nat} {w w1 : World} (h : Turn g w w1) (i : Nat) : Turn g w (w1.drewN i) := ⟨h.os, h.tape, h.output, h.size, h.block⟩
end Go.Proofs.YtglcapkmeecknaaDoor.mem
/-! ## Buf -/
namespace Go.Proofs.YtglcapkmeecknaaDoor.mem
open Go Go.RowKit Go.Proofs.YtglcapkmeecknaaDoor.sha Go.Proofs.YtglcapkmeecknaaDoorW.PrintWords
set_option linter.unusedVariables false
/-- Block g holds the bytes L, no more. -/
def Row (w : World) (g : Nat) (L : List Int) : Prop := w.heap[g]? = some (.cells (nums .u8 L).toArray 5 (0, 0))
theorem C_cells {w : World} {g o : Nat} {xs : List Int} (hl : xs.length ≤ 9223372036854775807) (h : ∀ j, j < xs.length → w.cell? ⟨g, o + j, none⟩ = some (.int .u8 (xs.getD j 0))) : Kd.C (Kd.int .u8) w (some ⟨g, o, none⟩) xs.length xs :=
  Kd.C_of_reads (enc := Value.int .u8) (h1 := fun _ => rfl) (d := (0 : Int)) ⟨rfl, hl, fun _ => ⟨_, rfl, fun j hj => by
    rw [show (⟨g, o, none⟩ : Addr).add j = ⟨g, o + j, none⟩ by unfold Addr.add; split <;> simp_all]
    exact h j hj⟩⟩
theorem row_at {w : World} {g : Nat} {L : List Int} (h : Row w g L) (i : Nat) (hi : i < L.length) : w.cell? ⟨g, i, none⟩ = some (.int .u8 (L.getD i 0)) := by
  rw [blk_cell h i]
  simp [nums, hi]
theorem row_C {w : World} {g : Nat} {L : List Int} (h : Row w g L) (hl : L.length ≤ 9223372036854775807) : Kd.C (Kd.int .u8) w (some ⟨g, 0, none⟩) L.length L :=
  C_cells hl (fun j hj => by rw [Nat.zero_add]; exact row_at h j hj)
theorem nums_set (k : IntKind) (L : List Int) (i : Nat) (x : Int) : (nums k L).toArray.setIfInBounds i (.int k x) = (nums k (L.set i x)).toArray := by
  rw [List.setIfInBounds_toArray, nums, nums, List.map_set]
theorem row_set {w : World} {g : Nat} {L : List Int} (h : Row w g L) (i : Nat) (x : Int) : Row (w.setCell ⟨g, i, none⟩ (.int .u8 x)) g (L.set i x) := by
  have := blk_set h i (.int .u8 x)
  rw [nums_set] at this
  exact this
theorem made_nums (k : IntKind) (m : Nat) : madeCells #[.int k 0] m = (nums k (List.replicate m 0)).toArray := by
  apply Array.ext'
  apply List.ext_getElem
  · simp [nums, madeCells]
  · intro i h1 h2
    simp [nums, madeCells, Nat.mod_one]
theorem nums_splice (k : IntKind) (L xs : List Int) (o : Nat) : splice (nums k L) o (nums k xs) = nums k (splice L o xs) := by
  unfold splice nums
  simp [List.map_take, List.map_drop]
theorem splice_get {α : Type} (L : List α) (o : Nat) (xs : List α) (h : o + xs.length ≤ L.length) (q : Nat) : (splice L o xs)[q]? = if q < o then L[q]? else if q < o + xs.length then xs[q - o]? else L[q]? := by
  unfold splice
  have hl : (L.take o).length = o := by rw [List.length_take]; omega
  by_cases h1 : q < o
  · rw [if_pos h1, List.getElem?_append_left (by omega), List.getElem?_take, if_pos h1]
  · rw [if_neg h1, List.getElem?_append_right (by omega), hl]
    by_cases h2 : q < o + xs.length
    · rw [if_pos h2, List.getElem?_append_left (by omega)]
    · rw [if_neg h2, List.getElem?_append_right (by omega), List.getElem?_drop]
      congr 1
      omega
theorem splice_nil {α : Type} (L : List α) (o : Nat) : splice L o [] = L := by simp [splice]
theorem setRow_keep (w : World) (g k : Nat) (cs : Array Value) (h : k ≠ g) : (w.setRow g cs).heap[k]? = w.heap[k]? := setRow_other w g k cs h
theorem Turn.setRow {g : Nat} {w w1 : World} (h : Turn g w w1) (cs : Array Value) : Turn g w (w1.setRow g cs) :=
  ⟨h.os, h.tape, h.output, by rw [setRow_size]; exact h.size, fun k hk hne => (setRow_other w1 g k cs hne).trans (h.block k hk hne)⟩
theorem row_setRow {w : World} {g : Nat} {L : List Int} (h : Row w g L) (L' : List Int) : Row (w.setRow g (nums .u8 L').toArray) g L' := setRow_heap w g _ _ 5 (0, 0) h
theorem bytes_nums (s : ByteArray) : Lib.byteCells s.data.toList = nums .u8 (bytesOf s) := by
  unfold Lib.byteCells bytesOf nums
  rw [List.map_map]
  rfl
/-- copy(b[o:], s): a string's bytes. -/
theorem wpList_copy_str {P : Program} {w : World} {ops : Array Oper} {rest : List Oper} {o : Oper} {a : Act} {Q : Exit → Act → World → Prop} (hgd : o.guard = none) (d s : Operand) (dT sT : TypeId)
    (ho : o.op = .call { callee := .builtin .copy, args := #[d, s], argTypes := #[dT, sT] }) (hu : P.underlying dT = some (.slice 5)) (hsz : (P.info? 5).map (·.size) = some 1)
    (g off dLen dCap : Nat) (t : ByteArray) (hd : a.eval d = .slice (some ⟨g, off, none⟩) dLen dCap) (hs : a.eval s = .string t) (L : List Int) (hg : Row w g L) (hle : t.size ≤ dLen) (hfit : off + t.size ≤ L.length)
    (h : ∀ w', Row w' g (splice L off (bytesOf t)) → Turn g w w' → wpList P ops Q rest (a.put o.dst (goInt t.size)) w') : wpList P ops Q (o :: rest) a w := by
  refine wpList_plain hgd fun K hK => ?_
  have hrun := Lib.run_copy_row_string (P := P) w dT sT o.type 5 g off dLen dCap t (nums .u8 L).toArray 5 hu hsz hg hle (by simpa [nums] using hfit)
  unfold Oper.wp
  simp [execOp, ho, resolve, invoke, builtin, hd, hs, hrun, Result.andThen]
  refine hK _ _ (h _ ?_ ((Turn.refl g w).setRow _))
  have e : List.take off (nums .u8 L) ++ (Lib.byteCells t.data.toList ++ List.drop (off + t.size) (nums .u8 L)) = nums .u8 (splice L off (bytesOf t)) := by
    rw [← nums_splice, bytes_nums]
    unfold splice
    rw [show (nums .u8 (bytesOf t)).length = t.size by rw [nums_length, bytesOf_length]]
  rw [e]
  exact row_setRow hg _
/-- copy(b[o:], s): bytes that lie elsewhere. -/
theorem wpList_copy_bytes {P : Program} {w : World} {ops : Array Oper} {rest : List Oper} {o : Oper} {a : Act} {Q : Exit → Act → World → Prop} (hgd : o.guard = none) (d s : Operand) (dT sT : TypeId)
    (ho : o.op = .call { callee := .builtin .copy, args := #[d, s], argTypes := #[dT, sT] }) (hu : P.underlying dT = some (.slice 5)) (hsz : (P.info? 5).map (·.size) = some 1)
    (g off dLen dCap : Nat) (ad : Addr) (c : Nat) (xs : List Int) (hd : a.eval d = .slice (some ⟨g, off, none⟩) dLen dCap) (hs : a.eval s = .slice (some ad) xs.length c) (L : List Int) (hg : Row w g L) (hle : xs.length ≤ dLen) (hfit : off + xs.length ≤ L.length)
    (hC : Kd.C (Kd.int .u8) w (some ad) xs.length xs)
    (h : ∀ w', Row w' g (splice L off xs) → Turn g w w' → wpList P ops Q rest (a.put o.dst (goInt xs.length)) w') : wpList P ops Q (o :: rest) a w := by
  refine wpList_copy_own hgd d s dT sT ho 5 hu hsz g off dLen dCap ad xs.length c hd hs (nums .u8 L).toArray 5 hg (nums .u8 xs) (by rw [nums_length]; exact (Nat.min_eq_left hle).symm) (fun j v hv => ?_) (by simpa [nums] using hfit) (fun v hv => by
    unfold nums at hv
    obtain ⟨x, _, rfl⟩ := List.mem_map.1 hv
    rfl) ?_
  · have hj : j < xs.length := by have := (List.getElem?_eq_some_iff.1 hv).1; simpa [nums] using this
    obtain ⟨ad', e, hc⟩ := Kd.at_int hC (j : Int) (by omega) (by omega)
    cases e
    rw [Int.toNat_natCast] at hc
    rw [hc, ← hv]
    simp [nums, rd, hj]
  · rw [nums_length]
    refine h _ ?_ ((Turn.refl g w).setRow _)
    have e : (nums .u8 L).toArray.toList.take off ++ (nums .u8 xs ++ (nums .u8 L).toArray.toList.drop (off + xs.length)) = nums .u8 (splice L off xs) := by
      rw [← nums_splice]
      unfold splice
      rw [nums_length]
    rw [e]
    exact row_setRow hg _
/-- The same as one step of a region that draws its order. -/
theorem step_copy_bytes {P : Program} {w : World} {ops : Array Oper} {o : Oper} {a : Act} {K : Act → World → Prop} {Q : Exit → Act → World → Prop} {E : Prop} (hgd : o.guard = none) (d s : Operand) (dT sT : TypeId)
    (ho : o.op = .call { callee := .builtin .copy, args := #[d, s], argTypes := #[dT, sT] }) (hu : P.underlying dT = some (.slice 5)) (hsz : (P.info? 5).map (·.size) = some 1)
    (g off dLen dCap : Nat) (ad : Addr) (c : Nat) (xs : List Int) (hd : a.eval d = .slice (some ⟨g, off, none⟩) dLen dCap) (hs : a.eval s = .slice (some ad) xs.length c) (L : List Int) (hg : Row w g L) (hle : xs.length ≤ dLen) (hfit : off + xs.length ≤ L.length)
    (hC : Kd.C (Kd.int .u8) w (some ad) xs.length xs)
    (h : ∀ w', Row w' g (splice L off xs) → Turn g w w' → K (a.put o.dst (goInt xs.length)) w') : if Region.wanted o (yielded ops a.tmps) = true then Oper.wp P o a w K Q else E := by
  have hw : Region.wanted o (yielded ops a.tmps) = true := by simp [Region.wanted, hgd]
  rw [if_pos hw]
  have hrun := run_copy_row (P := P) w dT sT o.type 5 g off dLen dCap ad xs.length c (nums .u8 L).toArray 5 (nums .u8 xs) hu hsz hg (by rw [nums_length]; exact (Nat.min_eq_left hle).symm) (fun j v hv => by
    have hj : j < xs.length := by have := (List.getElem?_eq_some_iff.1 hv).1; simpa [nums] using this
    obtain ⟨ad', e, hc⟩ := Kd.at_int hC (j : Int) (by omega) (by omega)
    cases e
    rw [Int.toNat_natCast] at hc
    rw [hc, ← hv]
    simp [nums, rd, hj]) (by simpa [nums] using hfit) (fun v hv => by
    unfold nums at hv
    obtain ⟨x, _, rfl⟩ := List.mem_map.1 hv
    rfl)
  rw [nums_length] at hrun
  have e : (nums .u8 L).toArray.toList.take off ++ nums .u8 xs ++ (nums .u8 L).toArray.toList.drop (off + xs.length) = nums .u8 (splice L off xs) := by
    rw [← nums_splice]
    unfold splice
    rw [nums_length, List.append_assoc]
  rw [e] at hrun
  unfold Oper.wp
  simp [execOp, ho, resolve, invoke, builtin, hd, hs, hrun, Result.andThen]
  exact h _ (row_setRow hg _) ((Turn.refl g w).setRow _)
end Go.Proofs.YtglcapkmeecknaaDoor.mem
