/- header.put at any place of a row; header.magic. (Written by gen24.py.) header.fields: where a copy's texts lie. (Written by gen25.py.) The reference's lay and put, over a row that is known whole. (Written by gen18.py.) (Merged by merge.py.) -/
import Derived.Test.YtglcapkmeecknaaDoorMB
import Derived.IntWalk
import Derived.Deep.RegionWith
/-! ## P24 -/
namespace Go.Proofs.YtglcapkmeecknaaDoor.p24
open Go Go.RowKit Go.Proofs.YtglcapkmeecknaaDoor.sha Go.Proofs.YtglcapkmeecknaaDoor.mem Go.Proofs.YtglcapkmeecknaaDoorW.PrintWords Go.Proofs.YtglcapkmeecknaaDoorW.PrintLast Go.Proofs.YtglcapkmeecknaaDoorW.PrintMore
set_option linter.unusedVariables false
set_option linter.unusedSimpArgs false
/-- A number's bytes, the highest first. -/
def be (sz : Nat) (n : Int) : List Int := (List.range sz).map fun i => n / (2 : Int) ^ (8 * (sz - 1 - i)) % 256
theorem be_len (sz : Nat) (n : Int) : (be sz n).length = sz := by simp [be]
theorem be_take (sz : Nat) (n : Int) (i : Nat) (hi : i < sz) : (be sz n).take (i + 1) = (be sz n).take i ++ [n / (2 : Int) ^ (8 * (sz - 1 - i)) % 256] := by
  rw [List.take_succ_eq_append_getElem (by rw [be_len]; exact hi)]
  simp [be]
theorem splice_snoc (L : List Int) (o : Nat) (xs : List Int) (x : Int) (h : o + xs.length < L.length) : splice L o (xs ++ [x]) = (splice L o xs).set (o + xs.length) x := by
  apply List.ext_getElem?
  intro q
  have hl : (splice L o xs).length = L.length := length_splice _ _ _ (by omega)
  have hx : (xs ++ [x]).length = xs.length + 1 := by simp
  rw [List.getElem?_set, splice_get _ _ _ (by omega), splice_get _ _ _ (by omega), hl, hx]
  by_cases e : o + xs.length = q
  · subst e
    rw [if_pos rfl, if_pos h, if_neg (by omega), if_pos (by omega), List.getElem?_append_right (by omega)]
    simp
  · rw [if_neg e]
    by_cases h1 : q < o
    · rw [if_pos h1, if_pos h1]
    · rw [if_neg h1, if_neg h1]
      by_cases h2 : q < o + xs.length
      · rw [if_pos h2, if_pos (by omega), List.getElem?_append_left (by omega)]
      · rw [if_neg h2, if_neg (by omega)]
set_option maxHeartbeats 1000000 in
set_option maxRecDepth 100000 in
theorem put_call (w : World) (g o len c : Nat) (L : List Int) (hg : Row w g L) (sz : Nat) (hsz : sz ≤ 8) (hlen : sz ≤ len) (hl9 : len ≤ 9223372036854775807) (hfit : o + sz ≤ L.length) (n : Int) (hn0 : 0 ≤ n) (hn1 : n < 18446744073709551616) :
    Calls Tryd.prog 24 #[.slice (some ⟨g, o, none⟩) len c, .int .i64 sz, .int .u64 n] w fun e w' => (∃ v, e = .returned v) ∧ Row w' g (splice L o (be sz n)) ∧ Turn g w w' := by
  have hn1A := Aside0.mk hn1
  clear hn1
  go_enter Tryd.func24, Tryd.ntmps24
  go_wp2
  go_loopw [8] (fun v8 wr => ∃ i : Nat, i ≤ sz ∧ v8 = .int .i64 i ∧ Row wr g (splice L o ((be sz n).take i)) ∧ Turn g w wr) (fun v8 _ => sz - (intOf v8).toNat)
  case atStart => exact ⟨0, by omega, rfl, by rw [List.take_zero, splice_nil]; exact hg, Turn.refl g w⟩
  case round =>
    obtain ⟨i, hi, rfl, HR, hT⟩ := hrel
    have hsl : (splice L o ((be sz n).take i)).length = L.length := length_splice _ _ _ (by rw [List.length_take, be_len]; omega)
    have hslA := Aside0.mk hsl
    clear hsl
    rcases Nat.lt_or_ge i sz with hil | hil
    · have hlt : decide ((i : Int) < (sz : Int)) = true := by simp; omega
      have i0 : (0 : Int) ≤ (i : Int) := by omega
      have i1 : (i : Int) < (len : Int) := by omega
      have e0 : (0 : Int) ≤ (sz : Int) - 1 - (i : Int) := by omega
      have e8 : (sz : Int) - 1 - (i : Int) < 8 := by omega
      have e1 : (0 : Int) ≤ 8 * ((sz : Int) - 1 - (i : Int)) := by omega
      have e2 : (8 * ((sz : Int) - 1 - (i : Int))).toNat = 8 * (sz - 1 - i) := by omega
      have w3 : wr.cell? ⟨g, o + i, none⟩ = some (.int .u8 ((splice L o ((be sz n).take i)).getD (o + i) 0)) := row_at HR (o + i) (by rw [hslA.out]; omega)
      have f3 : wr.frozen? ⟨g, o + i, none⟩ = false := blk_frozen HR (o + i)
      go_wp2
      refine ⟨⟨i + 1, by omega, by go_num, ?_, hT.setCell _ _⟩, by simp [intOf]; omega⟩
      have hset := row_set HR (o + i) (n / (2 : Int) ^ (8 * (sz - 1 - i)) % 256)
      have hti : ((be sz n).take i).length = i := by rw [List.length_take, be_len]; omega
      rw [be_take sz n i hil, splice_snoc _ _ _ _ (by rw [hti]; omega), hti]
      exact hset
    · obtain rfl : i = sz := by omega
      have hlt : decide ((i : Int) < (i : Int)) = false := by simp
      go_wp2
      refine bodyPost_end (results_none rfl _ _ _) rfl ⟨⟨_, rfl⟩, ?_, hT⟩
      rw [List.take_of_length_le (by rw [be_len]; omega)] at HR
      exact HR
def magicB (sec : Bool) : ByteArray := if sec then ⟨#[83, 75, 85, 76, 186, 190]⟩ else ⟨#[76, 85, 75, 83, 186, 190]⟩
theorem magicB_size (sec : Bool) : (magicB sec).size = 6 := by cases sec <;> rfl
theorem put2_call (w : World) (g o len c : Nat) (L : List Int) (hg : Row w g L) (hlen : 2 ≤ len) (hl9 : len ≤ 9223372036854775807) (hfit : o + 2 ≤ L.length) (n : Int) (hn0 : 0 ≤ n) (hn1 : n < 18446744073709551616) :
    Calls Tryd.prog 24 #[.slice (some ⟨g, o, none⟩) len c, .int .i64 2, .int .u64 n] w fun e w' => (∃ v, e = .returned v) ∧ Row w' g (splice L o (be 2 n)) ∧ Turn g w w' := put_call w g o len c L hg 2 (by omega) hlen hl9 hfit n hn0 hn1
theorem put8_call (w : World) (g o len c : Nat) (L : List Int) (hg : Row w g L) (hlen : 8 ≤ len) (hl9 : len ≤ 9223372036854775807) (hfit : o + 8 ≤ L.length) (n : Int) (hn0 : 0 ≤ n) (hn1 : n < 18446744073709551616) :
    Calls Tryd.prog 24 #[.slice (some ⟨g, o, none⟩) len c, .int .i64 8, .int .u64 n] w fun e w' => (∃ v, e = .returned v) ∧ Row w' g (splice L o (be 8 n)) ∧ Turn g w w' := put_call w g o len c L hg 8 (by omega) hlen hl9 hfit n hn0 hn1
theorem magic_call (second : Bool) (w : World) (h0 : w.cell? ⟨0, 0, none⟩ = some (.string ⟨#[76, 85, 75, 83, 186, 190]⟩)) (h1 : w.cell? ⟨0, 1, none⟩ = some (.string ⟨#[83, 75, 85, 76, 186, 190]⟩)) :
    Calls Tryd.prog 23 #[.bool second] w fun e w' => e = .returned (.string (magicB second)) ∧ w' = w := by
  cases second
  · go_enter Tryd.func23, Tryd.ntmps23
    go_wp2
    go_ret
    exact ⟨rfl, rfl⟩
  · go_enter Tryd.func23, Tryd.ntmps23
    go_wp2
    go_ret
    exact ⟨rfl, rfl⟩
end Go.Proofs.YtglcapkmeecknaaDoor.p24
/-! ## F25 -/
namespace Go.Proofs.YtglcapkmeecknaaDoor.f25
open Go Go.RowKit Go.Proofs.YtglcapkmeecknaaDoor.mem Go.Proofs.YtglcapkmeecknaaDoorW.PrintWords Go.Proofs.YtglcapkmeecknaaDoorW.PrintLast Go.Proofs.YtglcapkmeecknaaDoorW.PrintMore
set_option linter.unusedVariables false
set_option linter.unusedSimpArgs false
def fieldCells (g : Nat) : Array Value := #[.int .i64 24, .int .i64 48, .int .i64 47, .pointer (some ⟨g, 3, none⟩), .int .i64 168, .int .i64 40, .int .i64 39, .pointer (some ⟨g, 5, none⟩), .int .i64 208, .int .i64 48, .int .i64 47, .pointer (some ⟨g, 4, none⟩)]
set_option maxHeartbeats 1000000 in
set_option maxRecDepth 100000 in
theorem fields_call (w : World) (g : Nat) (o : Obj) (hg : w.heap[g]? = some o) :
    Calls Tryd.prog 25 #[.pointer (some ⟨g, 0, none⟩)] w fun e w' => ∃ V, e = .returned (.slice (some ⟨V, 0, none⟩) 3 3) ∧ w.heap.size ≤ V ∧ w'.heap[V]? = some (.cells (fieldCells g) 55 (0, 0)) ∧ Below w.heap.size w w' := by
  go_enter Tryd.func25, Tryd.ntmps25
  go_wp2_with fail
  go_region_with (fail)
  go_wp2
  simp only [Act.put, List.setIfInBounds_toArray, List.set_cons_zero, List.set_cons_succ]
  go_ret
  exact ⟨w.heap.size, rfl, Nat.le_refl _, blk_drew (blk_new w (.cells (fieldCells g) 55)), below_drew (below_alloc (Below.refl _ w) _)⟩
end Go.Proofs.YtglcapkmeecknaaDoor.f25
/-! ## R18 -/
namespace Go.Proofs.YtglcapkmeecknaaDoor.r18
open Go Go.RowKit Go.Proofs.YtglcapkmeecknaaDoor.sha Go.Proofs.YtglcapkmeecknaaDoor.mem Go.Proofs.YtglcapkmeecknaaDoor.p24 Go.Proofs.YtglcapkmeecknaaDoorW.PrintWords Go.Proofs.YtglcapkmeecknaaDoorW.PrintLast Go.Proofs.YtglcapkmeecknaaDoorW.PrintMore
set_option linter.unusedVariables false
set_option linter.unusedSimpArgs false
theorem bytes_get (s : ByteArray) (i : Nat) (h : i < s.size) : (bytesOf s)[i]'(by rw [bytesOf_length]; exact h) = ((s[i]'h).toNat : Int) := by
  unfold bytesOf
  simp
  rfl
theorem bytes_take (s : ByteArray) (i : Nat) (h : i < s.size) : (bytesOf s).take (i + 1) = (bytesOf s).take i ++ [((s[i]'h).toNat : Int)] := by
  rw [List.take_succ_eq_append_getElem (by rw [bytesOf_length]; exact h), bytes_get s i h]
theorem splice_cons (L : List Int) (o : Nat) (xs : List Int) (x : Int) (h : o + 1 + xs.length ≤ L.length) : splice L o (x :: xs) = (splice L (o + 1) xs).set o x := by
  apply List.ext_getElem?
  intro q
  have hl : (splice L (o + 1) xs).length = L.length := length_splice _ _ _ (by omega)
  have hx : (x :: xs).length = xs.length + 1 := by simp
  rw [List.getElem?_set, splice_get L o (x :: xs) (by omega), splice_get L (o + 1) xs (by omega), hl, hx]
  by_cases e : o = q
  · subst e
    rw [if_neg (show ¬ o < o by omega), if_pos (show o < o + (xs.length + 1) by omega), Nat.sub_self, if_pos rfl, if_pos (show o < L.length by omega)]
    rfl
  · rw [if_neg e]
    by_cases h1 : q < o
    · rw [if_pos h1, if_pos (show q < o + 1 by omega)]
    · rw [if_neg h1, if_neg (show ¬ q < o + 1 by omega)]
      by_cases h2 : q < o + (xs.length + 1)
      · rw [if_pos h2, if_pos (show q < o + 1 + xs.length by omega)]
        obtain ⟨d, rfl⟩ : ∃ d, q = o + 1 + d := ⟨q - (o + 1), by omega⟩
        rw [show o + 1 + d - o = d + 1 by omega, show o + 1 + d - (o + 1) = d by omega, List.getElem?_cons_succ]
      · rw [if_neg h2, if_neg (show ¬ q < o + 1 + xs.length by omega)]
set_option maxHeartbeats 1000000 in
set_option maxRecDepth 100000 in
theorem lay_call (w : World) (g len c o : Nat) (L : List Int) (hg : Row w g L) (hL : L.length = len) (hl9 : len ≤ 4611686018427387904) (s : ByteArray) (hfit : o + s.size ≤ len) :
    Calls Tryd.prog 18 #[.slice (some ⟨g, 0, none⟩) len c, .int .i64 o, .string s] w fun e w' => (∃ v, e = .returned v) ∧ Row w' g (splice L o (bytesOf s)) ∧ Turn g w w' := by
  have hLA := Aside0.mk hL
  have h9A := Aside0.mk hl9
  have o0 : (0 : Int) ≤ (o : Int) := by omega
  have o1 : (o : Int) ≤ 4611686018427387904 := by omega
  have ss : (s.size : Int) ≤ 4611686018427387904 := by omega
  clear hL hl9
  go_enter Tryd.func18, Tryd.ntmps18
  go_wp2
  go_loopw [6] (fun v6 wr => ∃ i : Nat, i ≤ s.size ∧ v6 = .int .i64 i ∧ Row wr g (splice L o ((bytesOf s).take i)) ∧ Turn g w wr) (fun v6 _ => s.size - (intOf v6).toNat)
  case atStart => exact ⟨0, by omega, rfl, by rw [List.take_zero, splice_nil]; exact hg, Turn.refl g w⟩
  case round =>
    obtain ⟨i, hi, rfl, HR, hT⟩ := hrel
    have hslA : Aside0 ((splice L o ((bytesOf s).take i)).length = L.length) := ⟨length_splice _ _ _ (by rw [List.length_take, bytesOf_length, hLA.out]; omega)⟩
    rcases Nat.lt_or_ge i s.size with hil | hil
    · have hlt : decide ((i : Int) < (s.size : Int)) = true := by simp; omega
      have i0 : (0 : Int) ≤ (i : Int) := by omega
      have a0 : (0 : Int) ≤ (o : Int) + (i : Int) := by omega
      have a1 : (o : Int) + (i : Int) < (len : Int) := by omega
      have a2 : ((o : Int) + (i : Int)).toNat = o + i := by omega
      have w3 : wr.cell? ⟨g, o + i, none⟩ = some (.int .u8 ((splice L o ((bytesOf s).take i)).getD (o + i) 0)) := row_at HR (o + i) (by rw [hslA.out, hLA.out]; omega)
      have f3 : wr.frozen? ⟨g, o + i, none⟩ = false := blk_frozen HR (o + i)
      go_wp2
      refine ⟨⟨i + 1, by omega, by go_num, ?_, hT.setCell _ _⟩, by simp [intOf]; omega⟩
      have hset := row_set HR (o + i) ((s[i]'hil).toNat : Int)
      have hti : ((bytesOf s).take i).length = i := by rw [List.length_take, bytesOf_length]; omega
      rw [bytes_take s i hil, splice_snoc _ _ _ _ (by rw [hti, hLA.out]; omega), hti]
      exact hset
    · obtain rfl : i = s.size := by omega
      have hlt : decide ((s.size : Int) < (s.size : Int)) = false := by simp
      go_wp2
      refine bodyPost_end (results_none rfl _ _ _) rfl ⟨⟨_, rfl⟩, ?_, hT⟩
      rw [List.take_of_length_le (by rw [bytesOf_length]; omega)] at HR
      exact HR
set_option maxHeartbeats 1000000 in
set_option maxRecDepth 100000 in
theorem rput_call (w : World) (g len c o : Nat) (L : List Int) (hg : Row w g L) (hL : L.length = len) (hl9 : len ≤ 4611686018427387904) (sz : Nat) (hsz : sz ≤ 8) (n : Int) (hn0 : 0 ≤ n) (hn1 : n < 18446744073709551616) (hfit : o + sz ≤ len) :
    Calls Tryd.prog 20 #[.slice (some ⟨g, 0, none⟩) len c, .int .i64 o, .int .i64 sz, .int .u64 n] w fun e w' => (∃ v, e = .returned v) ∧ Row w' g (splice L o (be sz n)) ∧ Turn g w w' := by
  have hLA := Aside0.mk hL
  have hnA := Aside0.mk hn1
  have o0 : (0 : Int) ≤ (o : Int) := by omega
  have o1 : (o : Int) ≤ 4611686018427387904 := by omega
  have s0 : (0 : Int) ≤ (sz : Int) := by omega
  have s8 : (sz : Int) ≤ 8 := by omega
  clear hL hl9 hn1
  go_enter Tryd.func20, Tryd.ntmps20
  go_wp2
  go_loopw [8, 3] (fun v8 v3 wr => ∃ j : Nat, j ≤ sz ∧ v8 = .int .i64 ((sz : Int) - 1 - (j : Int)) ∧ v3 = .int .u64 (n / (2 : Int) ^ (8 * j)) ∧ Row wr g (splice L (o + (sz - j)) ((be sz n).drop (sz - j))) ∧ Turn g w wr) (fun v8 _ _ => (intOf v8 + 1).toNat)
  case atStart => exact ⟨0, by omega, by simp, by simp, by rw [List.drop_eq_nil_of_le (by rw [be_len]; omega), splice_nil]; exact hg, Turn.refl g w⟩
  case round =>
    obtain ⟨j, hj, rfl, rfl, HR, hT⟩ := hrel
    have hdl : Aside0 (((be sz n).drop (sz - j)).length = j) := ⟨by rw [List.length_drop, be_len]; omega⟩
    have hslA : Aside0 ((splice L (o + (sz - j)) ((be sz n).drop (sz - j))).length = L.length) := ⟨length_splice _ _ _ (by rw [hdl.out, hLA.out]; omega)⟩
    have q0 : 0 ≤ n / (2 : Int) ^ (8 * j) := Int.ediv_nonneg hn0 (Int.le_of_lt (Int.pow_pos (by omega)))
    rcases Nat.lt_or_ge j sz with hil | hil
    · have i0 : (0 : Int) ≤ (sz : Int) - 1 - (j : Int) := by omega
      have i8 : (sz : Int) - 1 - (j : Int) < 8 := by omega
      have hge : decide ((sz : Int) - 1 - (j : Int) ≥ 0) = true := by simp; omega
      have a0 : (0 : Int) ≤ (o : Int) + ((sz : Int) - 1 - (j : Int)) := by omega
      have a1 : (o : Int) + ((sz : Int) - 1 - (j : Int)) < (len : Int) := by omega
      have a2 : ((o : Int) + ((sz : Int) - 1 - (j : Int))).toNat = o + (sz - 1 - j) := by omega
      have hb := be_take sz n (sz - 1 - j) (by omega)
      have hd : Aside0 ((be sz n).drop (sz - (j + 1)) = (n / (2 : Int) ^ (8 * j) % 256) :: (be sz n).drop (sz - j)) := ⟨by
        rw [List.drop_eq_getElem_cons (show sz - (j + 1) < (be sz n).length by rw [be_len]; omega), show sz - (j + 1) + 1 = sz - j by omega]
        congr 1
        simp only [be, List.getElem_map, List.getElem_range]
        rw [show sz - 1 - (sz - (j + 1)) = j by omega]⟩
      have hq : Aside0 (n / (2 : Int) ^ (8 * j) / 256 = n / (2 : Int) ^ (8 * (j + 1))) := ⟨by
        rw [Int.ediv_ediv_of_nonneg (Int.le_of_lt (Int.pow_pos (by omega))), show (256 : Int) = (2 : Int) ^ 8 from rfl, ← Int.pow_add]; congr 1⟩
      clear hb
      have w3 : wr.cell? ⟨g, o + (sz - 1 - j), none⟩ = some (.int .u8 ((splice L (o + (sz - j)) ((be sz n).drop (sz - j))).getD (o + (sz - 1 - j)) 0)) := row_at HR (o + (sz - 1 - j)) (by rw [hslA.out, hLA.out]; omega)
      have f3 : wr.frozen? ⟨g, o + (sz - 1 - j), none⟩ = false := blk_frozen HR (o + (sz - 1 - j))
      go_wp2
      refine ⟨⟨j + 1, by omega, ?_, ?_, ?_, hT.setCell _ _⟩, by simp only [intOf]; omega⟩
      · congr 1
        omega
      · have hle : n / (2 : Int) ^ (8 * j) ≤ n := Int.ediv_le_self _ hn0
        have hn1 := hnA.out
        rw [Int.tdiv_eq_ediv_of_nonneg q0, IntKind.wrap_u64, ← hq.out]
        congr 1
        omega
      · have hset := row_set HR (o + (sz - 1 - j)) (n / (2 : Int) ^ (8 * j) % 256)
        rw [hd.out, splice_cons _ _ _ _ (by rw [hdl.out, hLA.out]; omega), show o + (sz - (j + 1)) + 1 = o + (sz - j) by omega, show o + (sz - (j + 1)) = o + (sz - 1 - j) by omega]
        exact hset
    · obtain rfl : j = sz := by omega
      have hge : decide ((j : Int) - 1 - (j : Int) ≥ 0) = false := by simp; omega
      go_wp2
      refine bodyPost_end (results_none rfl _ _ _) rfl ⟨⟨_, rfl⟩, ?_, hT⟩
      rw [Nat.sub_self, Nat.add_zero, List.drop_zero] at HR
      exact HR
end Go.Proofs.YtglcapkmeecknaaDoor.r18
