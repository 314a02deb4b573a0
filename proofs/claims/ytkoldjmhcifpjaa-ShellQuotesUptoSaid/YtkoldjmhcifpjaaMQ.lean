/- What shell.Parse hands back, in one form. A byte in hexadecimal digits, the program's way. A text in quotes, the program's way. A text in quotes, the reference's way: plain words. The law ShellQuotes: its walk. The text has at most 1048576 bytes. The law ShellQuotes, for every input of bulk at most 1048576: the walk of the Go text returns true and writes nothing that was there; here that walk becomes the row. (Merged by merge.py.) -/
import Derived.Test.YtkoldjmhcifpjaaMM
import Derived.Deep.AppendLies
import Derived.Test.YtkoldjmhcifpjaaPShellReadsx3
import Derived.Test.YtkoldjmhcifpjaaQuoteP
import Derived.Test.YtkoldjmhcifpjaaShelf
import Derived.Test.YtkoldjmhcifpjaaMH
import Derived.BigCall
import Derived.Lib.UnsafeStr
import Derived.Test.YtkoldjmhcifpjaaQuoQ
import Derived.Test.YtkoldjmhcifpjaaRows
import Derived.WalkKit
import Derived.ProofKit
import Derived.OpenShut
import Derived.ShutString
import Derived.ChangeOld
import Derived.Below
import Derived.SizedLaws
import Derived.JoinedCond
/-! ## LawQ -/
namespace Go.Proofs.Ytkoldjmhcifpjaa.lawq
open Go Go.RowKit Go.Proofs.Ytkoldjmhcifpjaa.parsep Go.Proofs.Ytkoldjmhcifpjaa.reada Go.Proofs.Ytkoldjmhcifpjaa.readi Go.Proofs.Ytkoldjmhcifpjaa.readp Go.Proofs.Ytkoldjmhcifpjaa.PShellReads Go.Proofs.YtkoldjmhcifpjaaW.PrintWords
set_option linter.unusedVariables false
set_option linter.unusedSimpArgs false
/-- What is said of a line: the line, the error, its place. -/
def resOf (s : ByteArray) : Ln × Int × Int :=
  if 4096 < s.size then (⟨[], [], []⟩, 160, 4097) else
  match prog (s.size + 1) 0 ⟨[], [], []⟩ s.data.toList 0 with
  | .error q => (⟨[], [], []⟩, 160, ((q + 1 : Nat) : Int))
  | .ok L => (L, 0, 0)
/-- What a reader hands back. -/
def EndsU (w0 : World) (L : Ln) (cd pl : Int) (e : Ending) (w' : World) : Prop :=
  ∃ A c, e = .returned (.tuple #[.agg #[.string ⟨L.cmd.toArray⟩, .string ⟨L.name.toArray⟩, .slice A L.opts.length c], .int .i64 cd, .int .i64 pl]) ∧ Below w0.heap.size w0 w' ∧ w'.ownsRow w0.heap.size 34 2 (.slice A L.opts.length c) L.opts.length (oc L.opts)
theorem row_len {w : World} {base n : Nat} {v : Value} {xs : List Value} (h : w.ownsRow base 34 2 v n xs) : ∃ A c, v = .slice A n c := by
  rcases h.2 with ⟨rfl, rfl⟩ | ⟨g1, cap, cur, rfl, _⟩
  · exact ⟨_, _, rfl⟩
  · exact ⟨_, _, rfl⟩
theorem parse_u (s : ByteArray) (w : World) (L : Ln) (cd pl : Int) (h : resOf s = (L, cd, pl)) : Calls Try.prog 7 #[.string s] w (EndsU w L cd pl) := by
  refine (parse_call s w).mono ?_
  rintro e w' ⟨hb, H⟩
  unfold resOf at h
  by_cases hs : 4096 < s.size
  · rw [if_pos hs] at h H
    obtain ⟨rfl, rfl, rfl⟩ : (⟨[], [], []⟩ : Ln) = L ∧ (160 : Int) = cd ∧ (4097 : Int) = pl := by simpa using h
    exact ⟨none, 0, H, hb, World.ownsRow_nil _ _ _ _⟩
  · rw [if_neg hs] at h H
    cases hX : prog (s.size + 1) 0 ⟨[], [], []⟩ s.data.toList 0 with
    | error q =>
      rw [hX] at h H
      obtain ⟨rfl, rfl, rfl⟩ : (⟨[], [], []⟩ : Ln) = L ∧ (160 : Int) = cd ∧ ((q + 1 : Nat) : Int) = pl := by simpa using h
      exact ⟨none, 0, H, hb, World.ownsRow_nil _ _ _ _⟩
    | ok L' =>
      rw [hX] at h H
      obtain ⟨rfl, rfl, rfl⟩ : L' = L ∧ (0 : Int) = cd ∧ (0 : Int) = pl := by simpa using h
      obtain ⟨v, rfl, hr⟩ := H
      obtain ⟨A, c, rfl⟩ := row_len hr
      exact ⟨A, c, rfl, hb, hr⟩
theorem num_call (a : Int) (w : World) : Calls Try.prog 9 #[.int .i64 a] w fun e w' => e = .returned (.int .i64 a) ∧ ∃ m, w' = w.drewN m := (cofferlaw16_num.calls a a w rfl).mono fun e w' ⟨h1, h2⟩ => ⟨h1, h2.out⟩
end Go.Proofs.Ytkoldjmhcifpjaa.lawq
/-! ## QuoA -/
namespace Go.Proofs.Ytkoldjmhcifpjaa.quoa
open Go Go.RowKit Go.Proofs.Ytkoldjmhcifpjaa.parsep Go.Proofs.Ytkoldjmhcifpjaa.quotep Go.Proofs.Ytkoldjmhcifpjaa.PShellReads Go.Proofs.YtkoldjmhcifpjaaW.PrintWords
set_option linter.unusedVariables false
set_option linter.unusedSimpArgs false
def digits : ByteArray := ⟨#[48, 49, 50, 51, 52, 53, 54, 55, 56, 57, 97, 98, 99, 100, 101, 102]⟩
theorem dig (j : Nat) (h : j < digits.size) : (digits[j]'h).toNat = (quotep.hx (UInt8.ofNat j)).toNat := by
  have : ∀ j : Fin 16, (digits[j.val]'(by show _ < 16; exact j.isLt)).toNat = (quotep.hx (UInt8.ofNat j.val)).toNat := by decide
  exact this ⟨j, h⟩
theorem digA (c : UInt8) (h : c.toNat / 16 < digits.size) : (digits[c.toNat / 16]'h).toNat = (quotep.hx (c / 16)).toNat := by
  rw [dig]
  congr 2
  apply UInt8.toNat_inj.mp
  have := c.toNat_lt
  simp [UInt8.toNat_div]
  omega
theorem digB (c : UInt8) (h : c.toNat % 16 < digits.size) : (digits[c.toNat % 16]'h).toNat = (quotep.hx (c % 16)).toNat := by
  rw [dig]
  congr 2
  apply UInt8.toNat_inj.mp
  have := c.toNat_lt
  simp [UInt8.toNat_mod]
  omega
theorem two (c : UInt8) (X Y : Nat) (hX : X = (quotep.hx (c / 16)).toNat) (hY : Y = (quotep.hx (c % 16)).toNat) : Lib.byteCells [] ++ [Value.int .u8 (X : Int)] ++ [.int .u8 (Y : Int)] = Lib.byteCells [quotep.hx (c / 16), quotep.hx (c % 16)] := by
  subst hX hY
  simp [Lib.byteCells]
set_option maxRecDepth 100000 in
theorem hex_call (c : UInt8) (g : Nat) (w : World) (hc : w.cell? ⟨g, 0, none⟩ = some (.int .u8 (c.toNat : Int))) (hg : g < w.heap.size) :
    Calls Try.prog 22 #[.slice (some ⟨g, 0, none⟩) 1 1] w fun e w' => e = .returned (.string ⟨#[quotep.hx (c / 16), quotep.hx (c % 16)]⟩) ∧ Below w.heap.size w w' := by
  have hfr := Lib.fresh_isBuilder 48 5 w
  go_enter Try.func22, Try.ntmps22
  go_wp2_with fail
  go_loopw [11] (fun i wr => ∃ k : Nat, k ≤ 1 ∧ i = .int .i64 k ∧ Lib.IsBuilder 48 5 w.heap.size w.heap.size (Lib.byteCells (if k = 0 then [] else [quotep.hx (c / 16), quotep.hx (c % 16)])) wr ∧ Below w.heap.size w wr) (fun i _ => 1 - (intOf i).toNat)
  case atStart => exact ⟨0, Nat.zero_le _, rfl, hfr, (Below.refl _ w).alloc (Nat.le_refl _) _⟩
  case round =>
    obtain ⟨k, hk, rfl, hI, hb⟩ := hrel
    have hB : w.heap.size ≤ wr.heap.size := hb.size
    have hc1 : wr.cell? ⟨g, 0, none⟩ = some (.int .u8 (c.toNat : Int)) := (hb.cell (p := ⟨g, 0, none⟩) hg).trans hc
    have hc256 : (c.toNat : Int) < 256 := by have := c.toNat_lt; omega
    rcases Nat.lt_or_ge k 1 with h0 | h0
    · obtain rfl : k = 0 := by omega
      go_wp2_with fail
      refine (Try.Builder_WriteByte w.heap.size w.heap.size _ _ _ hI (by simp [Lib.byteCells]) hB).mono ?_
      rintro e W2 ⟨rfl, h2, b2⟩
      have hB2 : w.heap.size ≤ W2.heap.size := Nat.le_trans hB b2.size
      go_wp2_with fail
      refine (Try.Builder_WriteByte w.heap.size w.heap.size _ _ _ (Or.inr h2) (by simp [Lib.byteCells]) hB2).mono ?_
      rintro e W3 ⟨rfl, h3, b3⟩
      go_wp2_with fail
      refine ⟨⟨1, Nat.le_refl _, rfl, Or.inr ?_, (hb.trans b2).trans b3⟩, by simp [intOf]⟩
      show Lib.BuilderAt 48 5 w.heap.size w.heap.size _ (Lib.byteCells [quotep.hx (c / 16), quotep.hx (c % 16)]) W3
      rw [← two c _ _ (digA c (by show _ < 16; omega)) (digB c (by show _ < 16; omega))]
      exact h3
    · obtain rfl : k = 1 := by omega
      go_wp2_with fail
      refine (Try.Builder_String_any w.heap.size w.heap.size [quotep.hx (c / 16), quotep.hx (c % 16)] _ hI hB).mono ?_
      rintro e W3 ⟨rfl, b3⟩
      go_wp2
      go_ret
      exact ⟨rfl, hb.trans b3⟩
end Go.Proofs.Ytkoldjmhcifpjaa.quoa
/-! ## QuoB -/
namespace Go.Proofs.Ytkoldjmhcifpjaa.quob
open Go Go.RowKit Go.Proofs.Ytkoldjmhcifpjaa.parsep Go.Proofs.Ytkoldjmhcifpjaa.reada Go.Proofs.Ytkoldjmhcifpjaa.quotep Go.Proofs.Ytkoldjmhcifpjaa.quoa Go.Proofs.Ytkoldjmhcifpjaa.PShellReads Go.Proofs.YtkoldjmhcifpjaaW.PrintWords
set_option linter.unusedVariables false
set_option linter.unusedSimpArgs false
theorem esc_le (c : UInt8) : (esc c).length ≤ 4 := by unfold esc; split <;> (try split) <;> simp
theorem flat_le (l : Bs) : (l.flatMap esc).length ≤ 4 * l.length := by
  induction l with
  | nil => simp
  | cons x r ih => have := esc_le x; simp only [List.flatMap_cons, List.length_append, List.length_cons]; omega
theorem take_snoc (s : ByteArray) (k : Nat) (h : k < s.size) : s.data.toList.take (k + 1) = s.data.toList.take k ++ [s[k]] := by
  rw [List.take_succ_eq_append_getElem (by simpa using h)]; rfl
theorem flat_snoc (s : ByteArray) (k : Nat) (h : k < s.size) : (s.data.toList.take (k + 1)).flatMap esc = (s.data.toList.take k).flatMap esc ++ esc s[k] := by
  rw [take_snoc s k h, List.flatMap_append]; simp
theorem plainQ (c : UInt8) (W : World) : Calls Try.prog 20 #[.int .u8 (c.toNat : Int)] W fun e w' => e = .returned (.bool (isPl c)) ∧ ∃ m, w' = W.drewN m := (shell_isPlain.calls _ _ W (plain_f c)).mono fun e w' ⟨h1, h2⟩ => ⟨h1, h2.out⟩
theorem below_drewN {B : Nat} {w W : World} (h : Below B w W) (m : Nat) : Below B w (W.drewN m) := ⟨h.os, h.tape, h.output, h.size, h.block⟩
theorem beq_n {c d : UInt8} {n : Int} (hd : (d.toNat : Int) = n) (h : ¬ c = d) : ((c.toNat : Int) == n) = false := by
  subst hd
  exact beq_eq_false_iff_ne.mpr (fun e => h (UInt8.toNat_inj.mp (by omega)))
theorem beq_y {c d : UInt8} {n : Int} (hd : (d.toNat : Int) = n) (h : c = d) : ((c.toNat : Int) == n) = true := by
  subst hd h
  exact beq_self_eq_true _
theorem one_new (W : World) (m : Nat) (c : UInt8) : ((W.drewN m).alloc (.cells #[.int .u8 (c.toNat : Int)] 5)).cell? ⟨W.heap.size, 0, none⟩ = some (.int .u8 (c.toNat : Int)) ∧ W.heap.size < ((W.drewN m).alloc (.cells #[.int .u8 (c.toNat : Int)] 5)).heap.size := by
  refine ⟨(blk_cell (blk_new (W.drewN m) (.cells #[.int .u8 (c.toNat : Int)] 5)) 0).trans rfl, ?_⟩
  show (W.drewN m).heap.size < _
  rw [World.size_alloc]
  omega
theorem four (a b : UInt8) : ((⟨#[92, 120]⟩ : ByteArray) ++ ⟨#[a, b]⟩).size = 4 := by rw [ByteArray.size_append]; rfl
theorem build_below {W W' : World} {B b : Nat} {bs : List Value} (h : Lib.IsBuilder 48 5 B b bs W) (hb : Below W.heap.size W W') : Lib.IsBuilder 48 5 B b bs W' := by
  have hg : W.grownBy W' none := ⟨hb.os, hb.tape, hb.output, hb.size, fun k hk _ => hb.block k hk⟩
  have key : ∀ p, Lib.BuilderAt 48 5 B b p bs W → Lib.BuilderAt 48 5 B b p bs W' := by
    rintro p ⟨hB, v, hbk, ho, hne⟩
    exact ⟨hB, v, (hb.block _ (blk_lt hbk)).trans hbk, ho.kept hg (by cases v.ownBlock <;> simp), hne⟩
  exact h.elim (fun x => .inl (key _ x)) (fun x => .inr (key _ x))
theorem cells_app (l x : Bs) (y : List Value) (h : y = Lib.byteCells x) : Lib.byteCells (34 :: l) ++ y = Lib.byteCells (34 :: (l ++ x)) := by
  subst h
  simp [Lib.byteCells]
theorem hexs_cells (c : UInt8) : Lib.strCells ((⟨#[92, 120]⟩ : ByteArray) ++ ⟨#[quotep.hx (c / 16), quotep.hx (c % 16)]⟩) = Lib.byteCells [92, 120, quotep.hx (c / 16), quotep.hx (c % 16)] := by
  have e : (⟨#[92, 120]⟩ : ByteArray) ++ ⟨#[quotep.hx (c / 16), quotep.hx (c % 16)]⟩ = ⟨#[92, 120, quotep.hx (c / 16), quotep.hx (c % 16)]⟩ := by
    apply ByteArray.ext
    simp [ByteArray.data_append]
  rw [e]
  simp [Lib.strCells, Lib.byteCells]
theorem esc_odd {c : UInt8} (h : c = 34 ∨ c = 92) : esc c = [92, c] := by unfold esc; rw [if_pos h]
theorem esc_plain {c : UInt8} (h1 : ¬ c = 34) (h2 : ¬ c = 92) (h3 : isPl c = true ∨ c = 32) : esc c = [c] := by
  unfold esc
  rw [if_neg (fun h => h.elim h1 h2), if_pos (by rcases h3 with h | h <;> simp [h])]
theorem esc_hex {c : UInt8} (h1 : ¬ c = 34) (h2 : ¬ c = 92) (h3 : isPl c = false) (h4 : ¬ c = 32) : esc c = [92, 120, quotep.hx (c / 16), quotep.hx (c % 16)] := by
  unfold esc
  rw [if_neg (fun h => h.elim h1 h2), if_neg (by simp [h3, h4])]
set_option maxHeartbeats 1000000 in
set_option maxRecDepth 100000 in
theorem quote_call (s : ByteArray) (w : World) (hs : s.size ≤ 1048576) : Calls Try.prog 10 #[.string s] w fun e w' => e = .returned (.string ⟨(quote s.data.toList).toArray⟩) ∧ Below w.heap.size w w' := by
  have hfr := Lib.fresh_isBuilder 48 5 w
  go_enter Try.func10, Try.ntmps10
  go_wp2_with fail
  refine (Try.Builder_WriteByte w.heap.size w.heap.size _ 34 _ hfr (by simp) (by simp)).mono ?_
  rintro e W1 ⟨rfl, h1, b1⟩
  go_wp2_with fail
  go_loopw [9] (fun i wr => ∃ k : Nat, k ≤ s.size ∧ i = .int .i64 k ∧ Aside0 (Lib.IsBuilder 48 5 w.heap.size w.heap.size (Lib.byteCells (34 :: (s.data.toList.take k).flatMap esc)) wr) ∧ Aside0 (Below w.heap.size w wr)) (fun i _ => s.size - (intOf i).toNat)
  case atStart => exact ⟨0, Nat.zero_le _, rfl, ⟨Or.inr (by simpa [Lib.byteCells] using h1)⟩, ⟨((Below.refl _ w).alloc (Nat.le_refl _) _).trans b1⟩⟩
  case round =>
    obtain ⟨k, hk, rfl, HI, HB⟩ := hrel
    have hB : w.heap.size ≤ wr.heap.size := HB.out.size
    by_cases hlt : k < s.size
    · have hl : ((s.data.toList.take k).flatMap esc).length ≤ 4 * k := Nat.le_trans (flat_le _) (Nat.mul_le_mul_left 4 (by simp; omega))
      have hL : (Lib.byteCells (34 :: (s.data.toList.take k).flatMap esc)).length ≤ 1 + 4 * k := by rw [Lib.byteCells_length, List.length_cons]; omega
      have HL := Aside0.mk hL
      clear hL hl
      by_cases h34 : s[k] = 34
      · have HC : Aside0 (s[k] = 34 ∨ s[k] = 92) := ⟨.inl h34⟩
        have H34 := Aside0.mk h34
        have e34 : ((s[k].toNat : Int) == 34) = true := beq_y (d := 34) rfl h34
        clear h34
        go_wp2_with fail
        refine (Try.Builder_WriteByte w.heap.size w.heap.size _ _ _ HI.out (by have := HL.out; omega) hB).mono ?_
        rintro e W2 ⟨rfl, h2, b2⟩
        have hB2 : w.heap.size ≤ W2.heap.size := Nat.le_trans hB b2.size
        go_wp2_with fail
        refine (Try.Builder_WriteByte w.heap.size w.heap.size _ _ _ (Or.inr h2) (by rw [List.length_append]; show _ + 1 + 1 ≤ _; have := HL.out; omega) hB2).mono ?_
        rintro e W3 ⟨rfl, h3, b3⟩
        go_wp2_with fail
        refine ⟨⟨k + 1, by omega, by go_num, ⟨Or.inr ?_⟩, ⟨(HB.out.trans b2).trans b3⟩⟩, by simp [intOf]; omega⟩
        rw [flat_snoc s k hlt, esc_odd HC.out, ← cells_app _ [92, s[k]] ([Value.int .u8 92] ++ [.int .u8 (s[k].toNat : Int)]) (by simp [Lib.byteCells]), ← List.append_assoc]
        exact h3
      · by_cases h92 : s[k] = 92
        · have HC : Aside0 (s[k] = 34 ∨ s[k] = 92) := ⟨.inr h92⟩
          have H34 := Aside0.mk h34
          have e34 : ((s[k].toNat : Int) == 34) = false := beq_n (d := 34) rfl h34
          clear h34
          have H92 := Aside0.mk h92
          have e92 : ((s[k].toNat : Int) == 92) = true := beq_y (d := 92) rfl h92
          clear h92
          go_wp2_with fail
          refine (Try.Builder_WriteByte w.heap.size w.heap.size _ _ _ HI.out (by have := HL.out; omega) hB).mono ?_
          rintro e W2 ⟨rfl, h2, b2⟩
          have hB2 : w.heap.size ≤ W2.heap.size := Nat.le_trans hB b2.size
          go_wp2_with fail
          refine (Try.Builder_WriteByte w.heap.size w.heap.size _ _ _ (Or.inr h2) (by rw [List.length_append]; show _ + 1 + 1 ≤ _; have := HL.out; omega) hB2).mono ?_
          rintro e W3 ⟨rfl, h3, b3⟩
          go_wp2_with fail
          refine ⟨⟨k + 1, by omega, by go_num, ⟨Or.inr ?_⟩, ⟨(HB.out.trans b2).trans b3⟩⟩, by simp [intOf]; omega⟩
          rw [flat_snoc s k hlt, esc_odd HC.out, ← cells_app _ [92, s[k]] ([Value.int .u8 92] ++ [.int .u8 (s[k].toNat : Int)]) (by simp [Lib.byteCells]), ← List.append_assoc]
          exact h3
        · have H34 := Aside0.mk h34
          have e34 : ((s[k].toNat : Int) == 34) = false := beq_n (d := 34) rfl h34
          clear h34
          have H92 := Aside0.mk h92
          have e92 : ((s[k].toNat : Int) == 92) = false := beq_n (d := 92) rfl h92
          clear h92
          by_cases hp : isPl s[k] = true
          · have HP : Aside0 (isPl s[k] = true ∨ s[k] = 32) := ⟨.inl hp⟩
            go_wp2_with (first | (go_at_call 20; refine (plainQ s[k] _).mono ?_; rintro e w' ⟨rfl, m, rfl⟩) | fail)
            refine (Try.Builder_WriteByte w.heap.size w.heap.size _ _ (wr.drewN m) (show Lib.IsBuilder 48 5 w.heap.size w.heap.size _ (wr.drewN m) from HI.out) (by have := HL.out; omega) hB).mono ?_
            rintro e W2 ⟨rfl, h2, b2⟩
            go_wp2_with fail
            refine ⟨⟨k + 1, by omega, by go_num, ⟨Or.inr ?_⟩, ⟨(below_drewN HB.out m).trans b2⟩⟩, by simp [intOf]; omega⟩
            rw [flat_snoc s k hlt, esc_plain H34.out H92.out HP.out, ← cells_app _ [s[k]] [.int .u8 (s[k].toNat : Int)] (by simp [Lib.byteCells])]
            exact h2
          · have hp : isPl s[k] = false := by simpa using hp
            by_cases h32 : s[k] = 32
            · have HP : Aside0 (isPl s[k] = true ∨ s[k] = 32) := ⟨.inr h32⟩
              have H32 := Aside0.mk h32
              have e32 : ((s[k].toNat : Int) == 32) = true := beq_y (d := 32) rfl h32
              clear h32
              go_wp2_with (first | (go_at_call 20; refine (plainQ s[k] _).mono ?_; rintro e w' ⟨rfl, m, rfl⟩) | fail)
              refine (Try.Builder_WriteByte w.heap.size w.heap.size _ _ (wr.drewN m) (show Lib.IsBuilder 48 5 w.heap.size w.heap.size _ (wr.drewN m) from HI.out) (by have := HL.out; omega) hB).mono ?_
              rintro e W2 ⟨rfl, h2, b2⟩
              go_wp2_with fail
              refine ⟨⟨k + 1, by omega, by go_num, ⟨Or.inr ?_⟩, ⟨(below_drewN HB.out m).trans b2⟩⟩, by simp [intOf]; omega⟩
              rw [flat_snoc s k hlt, esc_plain H34.out H92.out HP.out, ← cells_app _ [s[k]] [.int .u8 (s[k].toNat : Int)] (by simp [Lib.byteCells])]
              exact h2
            · have HP := Aside0.mk hp
              have H32 := Aside0.mk h32
              have e32 : ((s[k].toNat : Int) == 32) = false := beq_n (d := 32) rfl h32
              clear h32
              go_wp2_with (first | (go_at_call 20; refine (plainQ s[k] _).mono ?_; rintro e w' ⟨rfl, m, rfl⟩) | fail)
              refine (hex_call s[k] wr.heap.size _ (one_new wr m s[k]).1 (one_new wr m s[k]).2).mono ?_
              rintro e W2 ⟨rfl, b2⟩
              have hI2 : Lib.IsBuilder 48 5 w.heap.size w.heap.size (Lib.byteCells (34 :: (s.data.toList.take k).flatMap esc)) W2 := build_below (build_below (show Lib.IsBuilder 48 5 w.heap.size w.heap.size _ (wr.drewN m) from HI.out) ((Below.refl _ _).alloc (Nat.le_refl _) _)) b2
              have hb2 : Below w.heap.size w W2 := ((below_drewN HB.out m).alloc hB _).trans (b2.mono (by simp; omega))
              have HI2 := Aside0.mk hI2
              have HB2 := Aside0.mk hb2
              clear hI2 hb2 b2
              have hB2 : w.heap.size ≤ W2.heap.size := HB2.out.size
              go_wp2_with fail
              have hlen4 : (Lib.byteCells (34 :: (s.data.toList.take k).flatMap esc)).length + ((⟨#[92, 120]⟩ : ByteArray) ++ ⟨#[quotep.hx (s[k] / 16), quotep.hx (s[k] % 16)]⟩).size ≤ 140737488355328 := by rw [four]; have := HL.out; omega
              have HWS := Try.Builder_WriteString w.heap.size w.heap.size _ _ W2 HI2.out hlen4 hB2
              refine HWS.mono ?_
              rintro e W3 ⟨rfl, h3, b3⟩
              go_wp2_with fail
              refine ⟨⟨k + 1, by omega, by go_num, ⟨Or.inr ?_⟩, ⟨HB2.out.trans b3⟩⟩, by simp [intOf]; omega⟩
              rw [flat_snoc s k hlt, esc_hex H34.out H92.out HP.out H32.out, ← cells_app _ _ _ (hexs_cells s[k])]
              exact h3
    · obtain rfl : k = s.size := by omega
      have hall : s.data.toList.take s.size = s.data.toList := List.take_of_length_le (by simp)
      have hI := HI.out
      rw [hall] at hI
      have hl : (s.data.toList.flatMap esc).length ≤ 4 * s.size := Nat.le_trans (flat_le _) (by simp)
      go_wp2_with fail
      refine (Try.Builder_WriteByte w.heap.size w.heap.size _ _ _ hI (by rw [Lib.byteCells_length, List.length_cons]; omega) hB).mono ?_
      rintro e W2 ⟨rfl, h2, b2⟩
      have e2 : Lib.byteCells (34 :: s.data.toList.flatMap esc) ++ [Value.int .u8 34] = Lib.byteCells (34 :: (s.data.toList.flatMap esc ++ [34])) := by simp [Lib.byteCells]
      rw [e2] at h2
      have hB2 : w.heap.size ≤ W2.heap.size := Nat.le_trans hB b2.size
      clear e2
      go_wp2_with fail
      refine (Try.Builder_String_any w.heap.size w.heap.size (34 :: (s.data.toList.flatMap esc ++ [34])) _ (Or.inr h2) hB2).mono ?_
      rintro e W3 ⟨rfl, b3⟩
      go_wp2
      go_ret
      exact ⟨rfl, (HB.out.trans b2).trans b3⟩
end Go.Proofs.Ytkoldjmhcifpjaa.quob
/-! ## QuoC -/
namespace Go.Proofs.Ytkoldjmhcifpjaa.quoc
open Go Go.RowKit Go.Proofs.Ytkoldjmhcifpjaa.parsep Go.Proofs.Ytkoldjmhcifpjaa.quotep Go.Proofs.Ytkoldjmhcifpjaa.quob Go.Proofs.Ytkoldjmhcifpjaa.PShellQuotes Go.Proofs.YtkoldjmhcifpjaaW.PrintWords
set_option linter.unusedVariables false
set_option linter.unusedSimpArgs false
theorem hex3 (c : UInt8) : cofferref16_Hex.f 3 [(c.toNat : Int)] = some ⟨#[quotep.hx (c / 16), quotep.hx (c % 16)]⟩ :=
  of_decide_eq_true (all_u8 (p := fun c => decide (cofferref16_Hex.f 3 [(c.toNat : Int)] = some ⟨#[quotep.hx (c / 16), quotep.hx (c % 16)]⟩)) (by decide +kernel) c)
theorem hex_f (c : UInt8) : ∀ k, 3 ≤ k → cofferref16_Hex.f k [(c.toNat : Int)] = some ⟨#[quotep.hx (c / 16), quotep.hx (c % 16)]⟩ := by
  intro k hk
  obtain ⟨j, rfl⟩ : ∃ j, k = 3 + j := ⟨k - 3, by omega⟩
  clear hk
  induction j with
  | zero => exact hex3 c
  | succ j ih => exact cofferref16_Hex.mono _ _ _ ih
theorem bt_nat (s : ByteArray) (i : Nat) (h : i < s.size) : bt s (i : Int) = (s[i].toNat : Int) := (Go.Proofs.YtkoldjmhcifpjaaW.PrintWords.bt_at s (i : Int) (by simpa using h)).symm
theorem drop_at (s : ByteArray) (i : Nat) (h : i < s.size) : s.data.toList.drop i = s[i] :: s.data.toList.drop (i + 1) := by
  have hl : i < s.data.toList.length := by simpa using h
  rw [List.drop_eq_getElem_cons hl]
  simp [ByteArray.getElem_eq_getElem_data]
theorem ext1 (s : ByteArray) (i : Nat) (h : i < s.size) : s.extract i (i + 1) = ⟨#[s[i]]⟩ := by
  have hl : i < s.data.size := h
  apply ByteArray.ext
  apply Array.ext
  · simp [ByteArray.data_extract]
    omega
  · intro j h1 h2
    obtain rfl : j = 0 := by simpa using h2
    simp [ByteArray.data_extract, ByteArray.getElem_eq_getElem_data]
theorem app2 (a b : Bs) : (⟨a.toArray⟩ : ByteArray) ++ ⟨b.toArray⟩ = ⟨(a ++ b).toArray⟩ := by
  apply ByteArray.ext
  simp [ByteArray.data_append]
theorem sz (a : Bs) : (⟨a.toArray⟩ : ByteArray).size = a.length := by
  show a.toArray.size = _
  simp
theorem wr1 (i : Nat) (h : i ≤ 4294967296) : wrap64 ((i : Int) + 1) = ((i + 1 : Nat) : Int) := by rw [IntWalk.wrap64_in _ (by omega)]; push_cast; rfl
theorem plain_range {c : UInt8} (h : isPl c = true ∨ c = 32) : (c.toNat : Int) ≥ 32 ∧ (c.toNat : Int) ≤ 126 := by
  have := all_u8 (p := fun c => !(isPl c || c == 32) || (decide (32 ≤ c.toNat) && decide (c.toNat ≤ 126))) (by decide +kernel) c
  rcases h with h | rfl
  · simp only [h, Bool.true_or, Bool.not_true, Bool.false_or, Bool.and_eq_true, decide_eq_true_eq] at this
    omega
  · exact ⟨by decide, by decide⟩
theorem plain_not {c : UInt8} (h : isPl c = false) (h2 : ¬ c = 32) : ¬ ((c.toNat : Int) ≥ 32 ∧ (c.toNat : Int) ≤ 126) := by
  have := all_u8 (p := fun c => isPl c || c == 32 || !(decide (32 ≤ c.toNat) && decide (c.toNat ≤ 126))) (by decide +kernel) c
  intro ⟨a, b⟩
  have h5 : 32 ≤ c.toNat := by omega
  have h6 : c.toNat ≤ 126 := by omega
  rw [h, decide_eq_true h5, decide_eq_true h6] at this
  simp [h2] at this
theorem q_l0 (s : ByteArray) (hs : s.size ≤ 1048576) : ∀ (m i k : Nat) (a : Bs), i + m = s.size → 2 * m + 5 ≤ k → a.length + 4 * m ≤ 8000000 →
    cofferref16_Quote.l0 k s ⟨a.toArray⟩ (i : Int) = some ⟨(a ++ (s.data.toList.drop i).flatMap esc ++ [34]).toArray⟩
  | 0, i, k, a, hi, hk, ha => by
    obtain ⟨k, rfl⟩ : ∃ j, k = j + 1 := ⟨k - 1, by omega⟩
    have hd : s.data.toList.drop i = [] := List.drop_eq_nil_of_le (by simp; omega)
    simp only [cofferref16_Quote.l0]
    rw [if_neg (by omega), if_pos (by rw [sz]; omega), hd, show (⟨#[34]⟩ : ByteArray) = ⟨[34].toArray⟩ from rfl, app2]
    simp
  | m + 1, i, k, a, hi, hk, ha => by
    obtain ⟨k, rfl⟩ : ∃ j, k = j + 1 + 1 := ⟨k - 2, by omega⟩
    have hlt : i < s.size := by omega
    have hb := bt_nat s i hlt
    have hex := ext1 s i hlt
    have hw := wr1 i (by omega)
    have t1 : ((i : Int)).toNat = i := by omega
    have t2 : (((i + 1 : Nat) : Int)).toNat = i + 1 := by omega
    have e1 : (⟨#[92]⟩ : ByteArray) = ⟨[92].toArray⟩ := rfl
    have e2 : (⟨#[s[i]]⟩ : ByteArray) = ⟨[s[i]].toArray⟩ := rfl
    have e3 : (⟨#[92, 120]⟩ : ByteArray) = ⟨[92, 120].toArray⟩ := rfl
    have e4 : (⟨#[quotep.hx (s[i] / 16), quotep.hx (s[i] % 16)]⟩ : ByteArray) = ⟨[quotep.hx (s[i] / 16), quotep.hx (s[i] % 16)].toArray⟩ := rfl
    rw [drop_at s i hlt, List.flatMap_cons, ← List.append_assoc a]
    have hodd : (s[i] = 34 ∨ s[i] = 92) → cofferref16_Quote.j1 (k + 1) s ⟨a.toArray⟩ (i : Int) (bt s (i : Int)) true = some ⟨(a ++ esc s[i] ++ (s.data.toList.drop (i + 1)).flatMap esc ++ [34]).toArray⟩ := by
      intro h
      simp only [cofferref16_Quote.j1, hw, t1, t2, hex]
      rw [if_pos trivial, if_pos (by rw [sz]; omega), if_pos (by omega), if_pos (by omega), if_pos (by omega), e1, e2, app2, app2, if_pos (by rw [sz, sz]; simp; omega), q_l0 s hs m (i + 1) k _ (by omega) (by omega) (by simp; omega), esc_odd h]
      simp
    have heven : ¬ s[i] = 34 → ¬ s[i] = 92 → cofferref16_Quote.j1 (k + 1) s ⟨a.toArray⟩ (i : Int) (bt s (i : Int)) false = some ⟨(a ++ esc s[i] ++ (s.data.toList.drop (i + 1)).flatMap esc ++ [34]).toArray⟩ := by
      intro h1 h2
      have h8 := s[i].toNat_lt
      have hxf := hex_f s[i] k (by omega)
      simp only [cofferref16_Quote.j1, hw, t1, t2, hex, hb, hxf, Option.bind_some]
      rw [if_neg (by decide)]
      by_cases h3 : isPl s[i] = true ∨ s[i] = 32
      · have hr := plain_range h3
        rw [if_pos (by omega), if_pos (by omega), if_pos (by omega), if_pos (by omega), if_pos (by omega), e2, app2, if_pos (by rw [sz, sz]; simp; omega), q_l0 s hs m (i + 1) k _ (by omega) (by omega) (by simp; omega), esc_plain h1 h2 h3]
      · have hp : isPl s[i] = false := by
          cases h : isPl s[i] with
          | false => rfl
          | true => exact absurd (.inl h) h3
        have h32 : ¬ s[i] = 32 := fun h => h3 (.inr h)
        have hr := plain_not hp h32
        have last : (if (⟨a.toArray⟩ : ByteArray).size + 2 ≤ 9223372036854775807 then
            (if ((⟨a.toArray⟩ : ByteArray) ++ ⟨#[92, 120]⟩).size + (⟨#[quotep.hx (s[i] / 16), quotep.hx (s[i] % 16)]⟩ : ByteArray).size ≤ 9223372036854775807 then cofferref16_Quote.l0 k s ((⟨a.toArray⟩ : ByteArray) ++ ⟨#[92, 120]⟩ ++ ⟨#[quotep.hx (s[i] / 16), quotep.hx (s[i] % 16)]⟩) ((i + 1 : Nat) : Int) else none) else none) = some ⟨(a ++ esc s[i] ++ (s.data.toList.drop (i + 1)).flatMap esc ++ [34]).toArray⟩ := by
          rw [if_pos (by rw [sz]; omega), e3, e4, app2, app2, if_pos (by rw [sz, sz]; simp; omega), q_l0 s hs m (i + 1) k _ (by omega) (by omega) (by simp; omega), esc_hex h1 h2 hp h32]
          simp
        by_cases h5 : (s[i].toNat : Int) ≥ 32
        · rw [if_pos h5, if_neg (by omega)]
          exact last
        · rw [if_neg h5]
          exact last
    simp only [cofferref16_Quote.l0]
    rw [if_pos (by omega), if_pos (by omega)]
    by_cases h1 : s[i] = 34
    · rw [if_pos (by rw [hb, h1]; rfl)]
      exact hodd (.inl h1)
    · rw [if_neg (by rw [hb]; intro e; exact h1 (UInt8.toNat_inj.mp (by show _ = 34; omega)))]
      by_cases h2 : s[i] = 92
      · rw [show (bt s (i : Int) == 92) = true by rw [hb]; exact beq_y (d := 92) rfl h2]
        exact hodd (.inr h2)
      · rw [show (bt s (i : Int) == 92) = false by rw [hb]; exact beq_n (d := 92) rfl h2]
        exact heven h1 h2
theorem rquote_call (s : ByteArray) (w : World) (hs : s.size ≤ 1048576) : Calls Try.prog 11 #[.string s] w fun e w' => e = .returned (.string ⟨(quote s.data.toList).toArray⟩) ∧ Below w.heap.size w w' := by
  refine cofferref16_Quote.calls (2 * s.size + 5) s _ w ?_
  unfold cofferref16_Quote.f
  have := q_l0 s hs s.size 0 (2 * s.size + 5) [34] (by omega) (by omega) (by simp; omega)
  exact this
end Go.Proofs.Ytkoldjmhcifpjaa.quoc
/-! ## QuoD -/
namespace Go.Proofs.Ytkoldjmhcifpjaa.quod
open Go Go.RowKit Go.Proofs.Ytkoldjmhcifpjaa.parsep Go.Proofs.Ytkoldjmhcifpjaa.quotep Go.Proofs.Ytkoldjmhcifpjaa.quob Go.Proofs.Ytkoldjmhcifpjaa.quoc Go.Proofs.Ytkoldjmhcifpjaa.readi Go.Proofs.Ytkoldjmhcifpjaa.readp Go.Proofs.Ytkoldjmhcifpjaa.lawq Go.Proofs.YtkoldjmhcifpjaaW.PrintWords
set_option linter.unusedVariables false
set_option linter.unusedSimpArgs false
theorem line_size (l : Bs) : ((⟨#[97, 32, 98, 32, 99, 61]⟩ : ByteArray) ++ ⟨(quote l).toArray⟩).size = (quote l).length + 6 := by
  rw [ByteArray.size_append]
  have := sz (quote l)
  show 6 + _ = _
  omega
theorem line_data (l : Bs) : ((⟨#[97, 32, 98, 32, 99, 61]⟩ : ByteArray) ++ ⟨(quote l).toArray⟩).data.toList = [97, 32, 98, 32, 99, 61] ++ quote l := by
  rw [ByteArray.data_append]
  simp
theorem res_long (l : Bs) (h : 4090 < (quote l).length) : resOf ((⟨#[97, 32, 98, 32, 99, 61]⟩ : ByteArray) ++ ⟨(quote l).toArray⟩) = (⟨[], [], []⟩, 160, 4097) := by
  unfold resOf
  rw [if_pos (by rw [line_size]; omega)]
theorem res_short (l : Bs) (h : (quote l).length ≤ 4000) : resOf ((⟨#[97, 32, 98, 32, 99, 61]⟩ : ByteArray) ++ ⟨(quote l).toArray⟩) = (⟨[97], [98], [([99], l)]⟩, 0, 0) := by
  unfold resOf
  rw [if_neg (by rw [line_size]; omega), line_data, line_size, line_quote l _ (by omega)]
theorem quote_le (s : ByteArray) (h : s.size ≤ 1048576) : (quote s.data.toList).length ≤ 4194306 := by
  have := flat_le s.data.toList
  simp [quote] at this ⊢
  omega
set_option maxHeartbeats 1000000 in
set_option maxRecDepth 100000 in
theorem quotes_long (s : ByteArray) (w : World) (hs : s.size ≤ 1048576) (hl : 4000 < (quote s.data.toList).length) : Calls Try.prog 5 #[.string s] w fun e w' => e = .returned (.bool true) ∧ Below w.heap.size w w' := by
  have hq := quote_le s hs
  obtain ⟨L, cd, pl, hR⟩ : ∃ L cd pl, resOf ((⟨#[97, 32, 98, 32, 99, 61]⟩ : ByteArray) ++ ⟨(quote s.data.toList).toArray⟩) = (L, cd, pl) := ⟨_, _, _, rfl⟩
  have hlong := res_long s.data.toList
  have HR := Aside0.mk hR
  have HLo := Aside0.mk hlong
  clear hR hlong
  go_enter Try.func5, Try.ntmps5
  go_wp2_with fail
  refine (quote_call s _ hs).mono ?_
  rintro e W1 ⟨rfl, b1⟩
  go_wp2_with fail
  refine (rquote_call s _ hs).mono ?_
  rintro e W2 ⟨rfl, b2⟩
  go_wp2_with fail
  by_cases h6 : (quote s.data.toList).length ≤ 4090
  · refine (parse_u _ _ L cd pl HR.out).mono ?_
    rintro e W3 ⟨A, c, rfl, b3, hr⟩
    have HB : Aside0 (Below w.heap.size w (W3.alloc (.cells #[.string ⟨L.cmd.toArray⟩, .string ⟨L.name.toArray⟩, .slice A L.opts.length c] 25))) := ⟨((b1.trans (b2.mono b1.size)).trans (b3.mono (Nat.le_trans b1.size b2.size))).alloc (Nat.le_trans b1.size (Nat.le_trans b2.size b3.size)) _⟩
    clear b1 b2 b3 hr
    go_wp2_with fail
    go_ret
    exact ⟨rfl, HB.out⟩
  · have hz : (⟨[], [], []⟩, 160, 4097) = (L, cd, pl) := (HLo.out (by omega)).symm.trans HR.out
    obtain ⟨rfl, rfl, rfl⟩ : (⟨[], [], []⟩ : Ln) = L ∧ (160 : Int) = cd ∧ (4097 : Int) = pl := by simpa using hz
    refine (parse_u _ _ _ _ _ HR.out).mono ?_
    rintro e W3 ⟨A, c, rfl, b3, hr⟩
    have HB : Aside0 (Below w.heap.size w (W3.alloc (.cells #[.string ⟨#[]⟩, .string ⟨#[]⟩, .slice A 0 c] 25))) := ⟨((b1.trans (b2.mono b1.size)).trans (b3.mono (Nat.le_trans b1.size b2.size))).alloc (Nat.le_trans b1.size (Nat.le_trans b2.size b3.size)) _⟩
    clear b1 b2 b3 hr hz
    go_wp2_with (first | (go_at_call 9; refine (num_call 160 _).mono ?_; rintro e w' ⟨rfl, m7, rfl⟩) | fail)
    go_ret
    exact ⟨rfl, below_drewN HB.out m7⟩
set_option maxHeartbeats 1000000 in
set_option maxRecDepth 100000 in
theorem quotes_short (s : ByteArray) (w : World) (hs : s.size ≤ 1048576) (hl : (quote s.data.toList).length ≤ 4000) : Calls Try.prog 5 #[.string s] w fun e w' => e = .returned (.bool true) ∧ Below w.heap.size w w' := by
  have HR := Aside0.mk (res_short s.data.toList hl)
  have hb0 : decide (4000 < (quote s.data.toList).length) = false := decide_eq_false (by omega)
  have hb1 : decide (4000 < ((quote s.data.toList).length : Int)) = false := decide_eq_false (by omega)
  go_enter Try.func5, Try.ntmps5
  go_wp2_with fail
  refine (quote_call s _ hs).mono ?_
  rintro e W1 ⟨rfl, b1⟩
  go_wp2_with fail
  refine (rquote_call s _ hs).mono ?_
  rintro e W2 ⟨rfl, b2⟩
  go_wp2_with fail
  refine (parse_u _ _ _ _ _ HR.out).mono ?_
  rintro e W3 ⟨A, c, rfl, b3, hr⟩
  obtain ⟨ga, cap, hA, hge, hlt⟩ := hr.form (Nat.zero_lt_one)
  obtain ⟨rfl, hc⟩ : A = some ⟨ga, 0, none⟩ ∧ c = cap := by simpa using hA
  subst hc
  have x0 : W3.cell? ⟨ga, 0, none⟩ = some (.string ⟨#[99]⟩) := (hr.cellAt 0 (by show 0 < 1 * 2; omega)).trans rfl
  have x1 : W3.cell? ⟨ga, 1, none⟩ = some (.string s) := (hr.cellAt 1 (by show 1 < 1 * 2; omega)).trans rfl
  have HB : Aside0 (Below w.heap.size w (W3.alloc (.cells #[.string ⟨#[97]⟩, .string ⟨#[98]⟩, .slice (some ⟨ga, 0, none⟩) 1 c] 25))) := ⟨((b1.trans (b2.mono b1.size)).trans (b3.mono (Nat.le_trans b1.size b2.size))).alloc (Nat.le_trans b1.size (Nat.le_trans b2.size b3.size)) _⟩
  have y0 : (W3.alloc (.cells #[.string ⟨#[97]⟩, .string ⟨#[98]⟩, .slice (some ⟨ga, 0, none⟩) 1 c] 25)).cell? ⟨ga, 0, none⟩ = some (.string ⟨#[99]⟩) := (World.cell?_of_block (((Below.refl _ W3).alloc (Nat.le_refl _) _).block ga hlt)).trans x0
  have y1 : (W3.alloc (.cells #[.string ⟨#[97]⟩, .string ⟨#[98]⟩, .slice (some ⟨ga, 0, none⟩) 1 c] 25)).cell? ⟨ga, 1, none⟩ = some (.string s) := (World.cell?_of_block (((Below.refl _ W3).alloc (Nat.le_refl _) _).block ga hlt)).trans x1
  clear b1 b2 b3 hr hA hge x0 x1
  go_wp2_with (first | (go_at_call 9; refine (num_call 0 _).mono ?_; rintro e w' ⟨rfl, m7, rfl⟩) | fail)
  go_ret
  exact ⟨rfl, below_drewN HB.out m7⟩
theorem quotes_walk (s : ByteArray) (w : World) (hs : s.size ≤ 1048576) : Calls Try.prog 5 #[.string s] w fun e w' => e = .returned (.bool true) ∧ Below w.heap.size w w' := by
  by_cases hl : 4000 < (quote s.data.toList).length
  · exact quotes_long s w hs hl
  · exact quotes_short s w hs (by omega)
end Go.Proofs.Ytkoldjmhcifpjaa.quod
/-! ## LawShellQuotes -/
namespace Go.Proofs.Ytkoldjmhcifpjaa.shellQuotesUpto
open Go.ChangeShapes Go.WideShapes Go.ChangeAt Go.RowKit
open Go.ChangeMaps (open_string shut_string)
set_option linter.unusedVariables false
theorem own : ownKnob Try.prog.godebug = none := by kernel_rfl
theorem contract (H : Type) (enc : TypeId × Value → H) (W : World) (base : Nat) (args : Array Value) (ds gs : List (DataW H)) (before : List MemPlace)
    (hval : ∀ (j : Nat) t v, Try.f5.params[j]? = some t → args[j]? = some v → Value.okWide Try.prog W .any base t v)
    (hW : DataW.Whole enc Try.prog Try.f5.params.toList Rows.shellQuotesSpec.vars false W args.toList ds gs before) (hk : Rows.uptoSmall H (ds ++ gs) = true) :
    Calls Try.prog 5 args W fun e W' => ∃ v, e = .returned v ∧ Rows.shellQuotesSpec.post enc Try.prog Try.f5 false true false false W args v W' := by
  have hW' := hW
  obtain ⟨p, q, hA0, hV, rfl, hfz, hnd⟩ := hW
  have hA : DataW.TrodAll enc Try.prog W 0 (fun _ => true) true Try.f5.params.toList args.toList ds p := hA0
  rw [Try.params5] at hA hval
  obtain ⟨v0, vs0, d0, ds0, p0, q0, hargs, rfl, rfl, h0, r0⟩ := trodAll_cons hA
  obtain ⟨rfl, rfl, rfl⟩ := trodAll_nil r0
  obtain rfl : args = #[v0] := by cases args; simp_all
  obtain ⟨rfl, rfl⟩ := trodVars_none hV
  obtain ⟨a0, rfl, rfl, rfl, y0⟩ := open_string Try.underlying9 (hval 0 9 v0 rfl rfl) h0
  have bulk : Rows.uptoBulkAll ([.lit (.string a0.data.toList)] ++ ([] : List (DataW H))) ≤ 1048576 := of_decide_eq_true hk
  simp only [List.cons_append, List.nil_append, Rows.uptoBulkAll, Rows.uptoBulk] at bulk
  have e0 : a0.data.toList.length = a0.size := by rw [Array.length_toList]; rfl
  have b0 : a0.size ≤ 1048576 := by omega
  clear hA0
  refine (quod.quotes_walk a0 W b0).mono fun e W' ⟨he, bel⟩ => ?_
  subst he
  exact ⟨_, rfl, _, _, _, [], _, [], hW', trodAll_mk1 (shut_bool Try.underlying4 _), (trodAll_cons_mk (shut_string Try.underlying9 y0) trodAll_mk0), rfl, bel.frame _, fun h => by cases h⟩
set_option maxRecDepth 100000 in
theorem lifted (os : Os) (started : os.Started) (H : Type) (enc : TypeId × Value → H) (F : Stop.Interp) :
    ReturnsInHanded {} Try.checked os 5 .any ((Rows.OpenSpec.upto Rows.shellQuotesSpec).pre6 enc Try.prog Try.f5 Rows.shellQuotesUptoRow.domain false) (((Rows.OpenSpec.upto Rows.shellQuotesSpec).at F).post enc Try.prog Try.f5 false true false false) := by
  refine returnsInHanded_of_cond (C := Try.checked) (s := Rows.OpenSpec.upto Rows.shellQuotesSpec) (k := Rows.uptoSmall) rfl own started (by kernel_rfl) Try.func5
    (OpenSpec.witness (enc := enc) (C := Try.checked) (s := Rows.OpenSpec.upto Rows.shellQuotesSpec) (k := Rows.uptoSmall) rfl false ⟨#[], #[.string ByteArray.empty], []⟩ 8 (by kernel_rfl) (by kernel_rfl) (by kernel_rfl)
      (x := ([.lit (.string [])], [], [])) (by kernel_rfl) rfl (by kernel_rfl)) ?_
  intro W base args ds gs before hval hW _ hk _
  exact contract H enc W base args ds gs before hval hW hk
theorem proved : Rows.ShellQuotesUptoSaid :=
  OpenClaim.holds_of_cond 5 Try.f5 rfl rfl rfl rfl rfl rfl rfl ⟨rfl, rfl, rfl, rfl, rfl⟩ rfl rfl rfl rfl rfl (by kernel_rfl) Try.func5 (by kernel_rfl)
    (of_decide_eq_true (by kernel_rfl)) (by unfold Func.isWrapper; first | (rw [if_pos (by decide +kernel)]; kernel_rfl) | (rw [if_neg (by decide +kernel)]; exact ⟨rfl, rfl⟩))
    (fun os started H enc _ F => lifted os started H enc F)
#print axioms proved
end Go.Proofs.Ytkoldjmhcifpjaa.shellQuotesUpto
