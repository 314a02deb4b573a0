/- The document side: the Go text of cofferref15.Quote puts a text in quotes as the plain function says. The text has at most 1048576 bytes. -/
import Derived.Test.YtkpgklkplmljdaaProg
import Derived.Test.YtkpgklkplmljdaaQuotePlain
import Derived.Test.YtkpgklkplmljdaaOwn
import Derived.Test.YtkpgklkplmljdaaWTab
import Derived.Test.YtkpgklkplmljdaaWLast
import Derived.WalkKit
import Derived.Lib.Hide
import Derived.BigCall

import Derived.Below
import Derived.OwnWalk
import Derived.Maps.AppendAt
namespace Go.Proofs.Ytkpgklkplmljdaa.quote
open Go.RowKit Go.Proofs.YtkpgklkplmljdaaW.PrintWords Go.Proofs.Ytkpgklkplmljdaa.own Go.Proofs.YtkpgklkplmljdaaW.PrintLast
theorem own_bytes {P : Program} {w : World} {base n : Nat} {e' src dst e : TypeId} {v : Value} {l : List UInt8} (hs : P.underlying src = some (.slice e)) (he : P.underlying e = some (.int .u8)) (hd : P.underlying dst = some .string)
    (h : w.ownsRow base e' 1 v n (Lib.byteCells l)) : (convert src dst v).run P w = .ok (.string ⟨l.toArray⟩) w := by
  have h2 := own_string (xs := l.map fun b => (b.toNat : Int)) hs he hd (by simpa [nums, Lib.byteCells, Function.comp_def] using h)
  rw [h2]
  congr 3
  simp only [strOfNums, List.map_map]
  congr 2
  exact (List.map_congr_left (g := id) (fun x _ => by simp)).trans (List.map_id _)
theorem info5q : (Try.prog.info? 5).map (fun i => (i.zero, i.size, i.bytes)) = some (some (.int .u8 0), 1, 1) := by kernel_rfl
def T7 : Bool × List (List Nat × List Nat) := (true, [([], []), ([], []), ([1], [1]), ([2], [2]), ([], []), ([4], [4]), ([5], [5]), ([3, 6], [3, 6]), ([0, 7], [0, 7]), ([8, 8, 0, 1, 2, 3, 4, 5, 6, 7, 8], [0, 8])])
def B7 : List Nat := [0, 0, 2, 6, 0, 16, 48, 126, 255, 511]
theorem tab7 : rtab .any (opsOf Try.f7 7) = T7 := by kernel_rfl
theorem bits7 : waitsOk T7.2 B7 = true := by kernel_rfl
set_option maxRecDepth 100000 in
theorem rquote_walk (s : ByteArray) (w : World) (hs : s.size ≤ 1048576) :
    Calls Try.prog 7 #[.string s] w fun e w' => e = .returned (.string ⟨(quoted s.data.toList).toArray⟩) ∧ Below w.heap.size w w' := by
  obtain ⟨i0, hi, hz0, hz1, hz2⟩ := info_parts info5q
  go_enter Try.func7, Try.ntmps7
  go_wp2_with fail
  go_loopw [3, 4] (fun v i wr => ∃ k n : Nat, k ≤ s.size ∧ i = .int .i64 k ∧ wr.ownsRow w.heap.size 5 1 v n (Lib.byteCells (34 :: (s.data.toList.take k).flatMap qbyte)) ∧ Below w.heap.size w wr) (fun _ i _ => s.size - (intOf i).toNat)
  case atStart =>
    exact ⟨0, 1, Nat.zero_le _, rfl, own_lit w w.heap.size 5 #[.int .u8 34] (Nat.le_refl _) (by simp), (Below.refl _ w).alloc (Nat.le_refl _) _⟩
  case round =>
    obtain ⟨k, n, hk, rfl, hI, hb⟩ := hrel
    have hn : n = 1 + ((s.data.toList.take k).flatMap qbyte).length := by have := hI.1; rw [Lib.byteCells_length, List.length_cons] at this; omega
    have Hn := Lib.hid hn
    clear hn
    have hB : w.heap.size ≤ wr.heap.size := hb.size
    by_cases hlt : k < s.size
    · have hl : ((s.data.toList.take k).flatMap qbyte).length ≤ 4 * k := Nat.le_trans (flat_le _) (Nat.mul_le_mul_left 4 (by simp; omega))
      have hn4 : n ≤ 1 + 4 * k := by have := Hn.out; omega
      have hc256 : (s[k].toNat : Int) < 256 := by have := s[k].toNat_lt; omega
      rcases tests s[k] with ⟨ho, ht⟩ | ⟨ho, t1, t2, t3, t4⟩
      · have e1 : IntKind.u8.wrap ((s[k].toNat : Int) / 16) = (s[k].toNat : Int) / 16 := by rw [IntKind.wrap_u8]; omega
        have e2 : 0 ≤ (s[k].toNat : Int) / 16 := by omega
        have e3 : (s[k].toNat : Int) / 16 < 16 := by omega
        have e0 : (s[k].toNat : Int).tmod 16 = (s[k].toNat : Int) % 16 := Int.tmod_eq_emod_of_nonneg (by omega)
        have e4 : 0 ≤ (s[k].toNat : Int) % 16 := by omega
        have e5 : (s[k].toNat : Int) % 16 < 16 := by omega
        rcases ht with t1 | ⟨t1, t2⟩ | ⟨t1, t2, t3⟩ | ⟨t1, t2, t3, t4⟩
        all_goals go_wp2_with fail
        all_goals (
          refine start_ (n := 10) (S := fun _ => True) (ds := []) #[false, false, false, false, false, false, false, false, false, false] (by kernel_rfl) rfl rfl trivial (fun hHeld => ?_)
          refine with_tabW tab7 bits7 (fun HT_ HW_ => ?_)
          have hI2 : wr.drew.ownsRow w.heap.size 5 1 _ _ _ := hI
          have hb2 : Below w.heap.size w wr.drew := ⟨hb.os, hb.tape, hb.output, hb.size, hb.block⟩
          generalize wr.drew = w2 at hI2 hb2 hHeld ⊢
          refine pure_ (i := 0) (N := some 30) (v := ?_) (a' := ?_) #[true, false, false, false, false, false, false, false, false, false] rfl rfl (any_of HT_.out (by kernel_rfl)) (fun _ _ _ h => h) (Or.inl ⟨by rfl, ?_⟩) ?_ ?_
          rotate_left
          · intro w'
            go_simp
            with_reducible rfl
          rotate_left
          · simp only [Act.put, List.setIfInBounds_toArray, List.set_cons_zero, List.set_cons_succ]
            rfl
          refine pure_ (i := 1) (N := some 31) (v := ?_) (a' := ?_) #[true, true, false, false, false, false, false, false, false, false] rfl rfl (any_of HT_.out (by kernel_rfl)) (fun _ _ _ h => h) (Or.inl ⟨by rfl, ?_⟩) ?_ ?_
          rotate_left
          · intro w'
            go_simp
            with_reducible rfl
          rotate_left
          · simp only [Act.put, List.setIfInBounds_toArray, List.set_cons_zero, List.set_cons_succ]
            rfl
          refine pure_ (i := 2) (N := some 32) (v := ?_) (a' := ?_) #[true, true, true, false, false, false, false, false, false, false] rfl rfl (any_of HT_.out (by kernel_rfl)) (fun _ _ _ h => h) (Or.inl ⟨by rfl, ?_⟩) ?_ ?_
          rotate_left
          · intro w'
            go_simp
            with_reducible rfl
          rotate_left
          · simp only [Act.put, List.setIfInBounds_toArray, List.set_cons_zero, List.set_cons_succ]
            rfl
          refine pure_ (i := 4) (N := some 34) (v := ?_) (a' := ?_) #[true, true, true, false, true, false, false, false, false, false] rfl rfl (any_of HT_.out (by kernel_rfl)) (fun _ _ _ h => h) (Or.inl ⟨by rfl, ?_⟩) ?_ ?_
          rotate_left
          · intro w'
            go_simp
            with_reducible rfl
          rotate_left
          · simp only [Act.put, List.setIfInBounds_toArray, List.set_cons_zero, List.set_cons_succ]
            rfl
          refine pure_ (i := 5) (N := some 35) (v := ?_) (a' := ?_) #[true, true, true, false, true, true, false, false, false, false] rfl rfl (any_of HT_.out (by kernel_rfl)) (fun _ _ _ h => h) (Or.inl ⟨by rfl, ?_⟩) ?_ ?_
          rotate_left
          · intro w'
            go_simp
            with_reducible rfl
          rotate_left
          · simp only [Act.put, List.setIfInBounds_toArray, List.set_cons_zero, List.set_cons_succ]
            rfl
          refine pure_ (i := 3) (N := some 33) (v := ?_) (a' := ?_) #[true, true, true, true, true, true, false, false, false, false] rfl rfl (any_of HT_.out (by kernel_rfl)) (fun _ _ _ h => h) (Or.inl ⟨by rfl, ?_⟩) ?_ ?_
          rotate_left
          · intro w'
            go_simp
            with_reducible rfl
          rotate_left
          · simp only [Act.put, List.setIfInBounds_toArray, List.set_cons_zero, List.set_cons_succ]
            rfl
          refine pure_ (i := 6) (N := some 36) (v := ?_) (a' := ?_) #[true, true, true, true, true, true, true, false, false, false] rfl rfl (any_of HT_.out (by kernel_rfl)) (fun _ _ _ h => h) (Or.inl ⟨by rfl, ?_⟩) ?_ ?_
          rotate_left
          · intro w'
            go_simp
            with_reducible rfl
          rotate_left
          · simp only [Act.put, List.setIfInBounds_toArray, List.set_cons_zero, List.set_cons_succ]
            rfl
          refine one_ (i := 7) (N := some 37) #[true, true, true, true, true, true, true, true, false, false] rfl rfl (one_of HT_.out (by kernel_rfl)) (by decide) (fun K hK => ?_)
          refine step_value (by rfl) (by go_simp; exact ⟨rfl, rfl⟩) ?_
          refine hK.out _ _ trivial (fun hHeld => ?_)
          clear hK K
          refine norm_ (a' := ?_) ?_ ?_
          rotate_left
          · show Act.put _ (some 37) _ = _
            simp only [Act.put, List.setIfInBounds_toArray, List.set_cons_zero, List.set_cons_succ]
            rfl
          refine one_ (i := 8) (N := some 38) #[true, true, true, true, true, true, true, true, true, false] rfl rfl (one_of HT_.out (by kernel_rfl)) (by decide) (fun K hK => ?_)
          refine step_append_at w.heap.size (by rfl) (.tmp 30) (.tmp 37) 48 5 i0 (.int .u8 0) 1 1 rfl Try.underlying48 hi hz0 hz1 hz2 rfl (by decide) u3 _ _ ⟨w2.heap.size, 0, none⟩ 4 4 _ rfl rfl (hI2.alloc _) rfl (new_cells _ _ _) (by simp [Value.oneCell']) (by unfold maxLen; omega) (by omega) (by have := hb2.size; simp; omega) ?_
          intro v1 w3 hown hg hat
          refine hK.out _ _ trivial (fun hHeld => ?_)
          clear hK K
          refine norm_ (a' := ?_) ?_ ?_
          rotate_left
          · show Act.put _ (some 38) _ = _
            simp only [Act.put, List.setIfInBounds_toArray, List.set_cons_zero, List.set_cons_succ]
            rfl
          refine pure_ (i := 9) (N := some 3) (v := ?_) (a' := ?_) #[true, true, true, true, true, true, true, true, true, true] rfl rfl (any_of HT_.out (by kernel_rfl)) (fun _ _ _ h => h) (Or.inl ⟨by rfl, ?_⟩) ?_ ?_
          rotate_left
          · intro w'
            go_simp
            with_reducible rfl
          rotate_left
          · simp only [Act.put, List.setIfInBounds_toArray, List.set_cons_zero, List.set_cons_succ]
            rfl
          refine done_ (done_of HT_.out (by kernel_rfl)) ?_
          have hb3 : Below w.heap.size w w3 := (hb2.alloc hb2.size _).grown hg (by simp; have := hb2.size; omega) (own_base hI2)
          go_wp2
          have e6 : ((s[k].toNat : Int) / 16).toNat = s[k].toNat / 16 := by omega
          refine ⟨⟨k + 1, n + 4, by omega, by go_num, ?_, hb3⟩, by simp [intOf]; omega⟩
          have hf := flat_snoc s k hlt
          rw [hf, ← cells_odd' _ s[k] _ _ ho (digA s[k] (by show _ < 16; omega)) (digB s[k] (by show _ < 16; omega))]
          exact hown)
      · go_wp2_with (at_builtin; refine wpList_append_own _ rfl _ _ 48 rfl w.heap.size 5 i0 (.int .u8 0) 1 1 Try.underlying48 hi hz0 hz1 hz2 rfl (by decide) _ _ _ rfl (hI.alloc _) ⟨wr.heap.size, 0, none⟩ 1 1 [.int .u8 s[k].toNat] rfl rfl ?c1 ?c2 ?c3 ?c4 ?c5 ?_)
        case c1 => exact new_cells _ _ _
        case c2 => simp [Value.oneCell']
        case c3 => unfold maxLen; omega
        case c4 => omega
        case c5 => simp; omega
        intro v1 w3 hown hg hat
        have hb3 : Below w.heap.size w w3 := (hb.alloc hb.size _).grown hg (by simp; omega) (own_base hI)
        go_wp2
        refine ⟨⟨k + 1, n + 1, by omega, by go_num, ?_, hb3⟩, by simp [intOf]; omega⟩
        have hf := flat_snoc s k hlt
        rw [hf, ← cells_even _ s[k] ho]
        exact hown
    · obtain rfl : k = s.size := by omega
      have hall : s.data.toList.take s.size = s.data.toList := List.take_of_length_le (by simp)
      rw [hall] at hI
      have hl : (s.data.toList.flatMap qbyte).length ≤ 4 * s.size := Nat.le_trans (flat_le _) (by simp)
      have hn4 : n ≤ 1 + 4 * s.size := by have := Hn.out; rw [hall] at this; omega
      go_wp2_with (at_builtin; refine wpList_append_own _ rfl _ _ 48 rfl w.heap.size 5 i0 (.int .u8 0) 1 1 Try.underlying48 hi hz0 hz1 hz2 rfl (by decide) _ _ _ rfl (hI.alloc _) ⟨wr.heap.size, 0, none⟩ 1 1 [.int .u8 34] rfl rfl ?c1 ?c2 ?c3 ?c4 ?c5 ?_)
      case c1 => exact new_cells _ _ _
      case c2 => simp [Value.oneCell']
      case c3 => unfold maxLen; omega
      case c4 => omega
      case c5 => simp; omega
      intro v1 w3 hown hg hat
      have hb3 : Below w.heap.size w w3 := (hb.alloc hb.size _).grown hg (by simp; omega) (own_base hI)
      rw [cells_end] at hown
      have hconv := own_bytes (P := Try.prog) (src := 48) (dst := 9) (e := 5) Try.underlying48 Try.underlying5 Try.underlying9 hown
      go_wp2
      go_ret
      exact ⟨rfl, hb3⟩
#print axioms rquote_walk
end Go.Proofs.Ytkpgklkplmljdaa.quote
