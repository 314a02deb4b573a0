/- The reference's lay and put, over a row that is known whole. (Written by gen18.py.) header.may: what is wrong with a copy. (Written by gen22.py.) header.Pack: a copy's bytes. (Written by gen07.py.) (Merged by merge.py.) -/
import Derived.Test.YtglcapkmeecknaaDoorQC
import Derived.Test.YtglcapkmeecknaaDoorQN
import Derived.Deep.RegionHeld3
import Derived.StillTailTactics
/-! ## R18 -/
namespace Go.Proofs.YtglcapkmeecknaaDoor.r18
open Go Go.RowKit Go.Proofs.YtglcapkmeecknaaDoor.sha Go.Proofs.YtglcapkmeecknaaDoor.mem Go.Proofs.YtglcapkmeecknaaDoor.p24 Go.Proofs.YtglcapkmeecknaaDoorW.PrintWords Go.Proofs.YtglcapkmeecknaaDoorW.PrintLast Go.Proofs.YtglcapkmeecknaaDoorW.PrintMore
set_option linter.unusedVariables false
set_option linter.unusedSimpArgs false
theorem bytes_get (s : ByteArray) (i : Nat) (h : i < s.size) : (bytesOf s)[i]'(by rw [bytesOf_length]; exact h) = ((s[i]'h).toNat : Int) := by
  unfold bytesOf
  simp
  rfl
theorem bytes_take (s : ByteArray) (i : Nat) (h : i < s.size) : (bytesOf s).take (i + 1) = (bytesOf s).take i ++ [((s[i]'h).toNat : Int)] := by
  rw [List.take_succ_eq_append_getElem (by rw [bytesOf_length]; exact h), bytes_get s i h]
theorem splice_cons (L : List Int) (o : Nat) (xs : List Int) (x : Int) (h : o + 1 + xs.length ≤ L.length) : splice L o (x :: xs) = (splice L (o + 1) xs).set o x := by
  apply List.ext_getElem?
  intro q
  have hl : (splice L (o + 1) xs).length = L.length := length_splice _ _ _ (by omega)
  have hx : (x :: xs).length = xs.length + 1 := by simp
  rw [List.getElem?_set, splice_get L o (x :: xs) (by omega), splice_get L (o + 1) xs (by omega), hl, hx]
  by_cases e : o = q
  · subst e
    rw [if_neg (show ¬ o < o by omega), if_pos (show o < o + (xs.length + 1) by omega), Nat.sub_self, if_pos rfl, if_pos (show o < L.length by omega)]
    rfl
  · rw [if_neg e]
    by_cases h1 : q < o
    · rw [if_pos h1, if_pos (show q < o + 1 by omega)]
    · rw [if_neg h1, if_neg (show ¬ q < o + 1 by omega)]
      by_cases h2 : q < o + (xs.length + 1)
      · rw [if_pos h2, if_pos (show q < o + 1 + xs.length by omega)]
        obtain ⟨d, rfl⟩ : ∃ d, q = o + 1 + d := ⟨q - (o + 1), by omega⟩
        rw [show o + 1 + d - o = d + 1 by omega, show o + 1 + d - (o + 1) = d by omega, List.getElem?_cons_succ]
      · rw [if_neg h2, if_neg (show ¬ q < o + 1 + xs.length by omega)]
set_option maxHeartbeats 1000000 in
set_option maxRecDepth 100000 in
theorem lay_call (w : World) (g len c o : Nat) (L : List Int) (hg : Row w g L) (hL : L.length = len) (hl9 : len ≤ 4611686018427387904) (s : ByteArray) (hfit : o + s.size ≤ len) :
    Calls Tryd.prog 18 #[.slice (some ⟨g, 0, none⟩) len c, .int .i64 o, .string s] w fun e w' => (∃ v, e = .returned v) ∧ Row w' g (splice L o (bytesOf s)) ∧ Turn g w w' := by
  have hLA := Aside0.mk hL
  have h9A := Aside0.mk hl9
  have o0 : (0 : Int) ≤ (o : Int) := by omega
  have o1 : (o : Int) ≤ 4611686018427387904 := by omega
  have ss : (s.size : Int) ≤ 4611686018427387904 := by omega
  clear hL hl9
  go_enter Tryd.func18, Tryd.ntmps18
  go_wp2
  go_loopw [6] (fun v6 wr => ∃ i : Nat, i ≤ s.size ∧ v6 = .int .i64 i ∧ Row wr g (splice L o ((bytesOf s).take i)) ∧ Turn g w wr) (fun v6 _ => s.size - (intOf v6).toNat)
  case atStart => exact ⟨0, by omega, rfl, by rw [List.take_zero, splice_nil]; exact hg, Turn.refl g w⟩
  case round =>
    obtain ⟨i, hi, rfl, HR, hT⟩ := hrel
    have hslA : Aside0 ((splice L o ((bytesOf s).take i)).length = L.length) := ⟨length_splice _ _ _ (by rw [List.length_take, bytesOf_length, hLA.out]; omega)⟩
    rcases Nat.lt_or_ge i s.size with hil | hil
    · have hlt : decide ((i : Int) < (s.size : Int)) = true := by simp; omega
      have i0 : (0 : Int) ≤ (i : Int) := by omega
      have a0 : (0 : Int) ≤ (o : Int) + (i : Int) := by omega
      have a1 : (o : Int) + (i : Int) < (len : Int) := by omega
      have a2 : ((o : Int) + (i : Int)).toNat = o + i := by omega
      have w3 : wr.cell? ⟨g, o + i, none⟩ = some (.int .u8 ((splice L o ((bytesOf s).take i)).getD (o + i) 0)) := row_at HR (o + i) (by rw [hslA.out, hLA.out]; omega)
      have f3 : wr.frozen? ⟨g, o + i, none⟩ = false := blk_frozen HR (o + i)
      go_wp2
      refine ⟨⟨i + 1, by omega, by go_num, ?_, hT.setCell _ _⟩, by simp [intOf]; omega⟩
      have hset := row_set HR (o + i) ((s[i]'hil).toNat : Int)
      have hti : ((bytesOf s).take i).length = i := by rw [List.length_take, bytesOf_length]; omega
      rw [bytes_take s i hil, splice_snoc _ _ _ _ (by rw [hti, hLA.out]; omega), hti]
      exact hset
    · obtain rfl : i = s.size := by omega
      have hlt : decide ((s.size : Int) < (s.size : Int)) = false := by simp
      go_wp2
      refine bodyPost_end (results_none rfl _ _ _) rfl ⟨⟨_, rfl⟩, ?_, hT⟩
      rw [List.take_of_length_le (by rw [bytesOf_length]; omega)] at HR
      exact HR
set_option maxHeartbeats 1000000 in
set_option maxRecDepth 100000 in
theorem rput_call (w : World) (g len c o : Nat) (L : List Int) (hg : Row w g L) (hL : L.length = len) (hl9 : len ≤ 4611686018427387904) (sz : Nat) (hsz : sz ≤ 8) (n : Int) (hn0 : 0 ≤ n) (hn1 : n < 18446744073709551616) (hfit : o + sz ≤ len) :
    Calls Tryd.prog 20 #[.slice (some ⟨g, 0, none⟩) len c, .int .i64 o, .int .i64 sz, .int .u64 n] w fun e w' => (∃ v, e = .returned v) ∧ Row w' g (splice L o (be sz n)) ∧ Turn g w w' := by
  have hLA := Aside0.mk hL
  have hnA := Aside0.mk hn1
  have o0 : (0 : Int) ≤ (o : Int) := by omega
  have o1 : (o : Int) ≤ 4611686018427387904 := by omega
  have s0 : (0 : Int) ≤ (sz : Int) := by omega
  have s8 : (sz : Int) ≤ 8 := by omega
  clear hL hl9 hn1
  go_enter Tryd.func20, Tryd.ntmps20
  go_wp2
  go_loopw [8, 3] (fun v8 v3 wr => ∃ j : Nat, j ≤ sz ∧ v8 = .int .i64 ((sz : Int) - 1 - (j : Int)) ∧ v3 = .int .u64 (n / (2 : Int) ^ (8 * j)) ∧ Row wr g (splice L (o + (sz - j)) ((be sz n).drop (sz - j))) ∧ Turn g w wr) (fun v8 _ _ => (intOf v8 + 1).toNat)
  case atStart => exact ⟨0, by omega, by simp, by simp, by rw [List.drop_eq_nil_of_le (by rw [be_len]; omega), splice_nil]; exact hg, Turn.refl g w⟩
  case round =>
    obtain ⟨j, hj, rfl, rfl, HR, hT⟩ := hrel
    have hdl : Aside0 (((be sz n).drop (sz - j)).length = j) := ⟨by rw [List.length_drop, be_len]; omega⟩
    have hslA : Aside0 ((splice L (o + (sz - j)) ((be sz n).drop (sz - j))).length = L.length) := ⟨length_splice _ _ _ (by rw [hdl.out, hLA.out]; omega)⟩
    have q0 : 0 ≤ n / (2 : Int) ^ (8 * j) := Int.ediv_nonneg hn0 (Int.le_of_lt (Int.pow_pos (by omega)))
    rcases Nat.lt_or_ge j sz with hil | hil
    · have i0 : (0 : Int) ≤ (sz : Int) - 1 - (j : Int) := by omega
      have i8 : (sz : Int) - 1 - (j : Int) < 8 := by omega
      have hge : decide ((sz : Int) - 1 - (j : Int) ≥ 0) = true := by simp; omega
      have a0 : (0 : Int) ≤ (o : Int) + ((sz : Int) - 1 - (j : Int)) := by omega
      have a1 : (o : Int) + ((sz : Int) - 1 - (j : Int)) < (len : Int) := by omega
      have a2 : ((o : Int) + ((sz : Int) - 1 - (j : Int))).toNat = o + (sz - 1 - j) := by omega
      have hb := be_take sz n (sz - 1 - j) (by omega)
      have hd : Aside0 ((be sz n).drop (sz - (j + 1)) = (n / (2 : Int) ^ (8 * j) % 256) :: (be sz n).drop (sz - j)) := ⟨by
        rw [List.drop_eq_getElem_cons (show sz - (j + 1) < (be sz n).length by rw [be_len]; omega), show sz - (j + 1) + 1 = sz - j by omega]
        congr 1
        simp only [be, List.getElem_map, List.getElem_range]
        rw [show sz - 1 - (sz - (j + 1)) = j by omega]⟩
      have hq : Aside0 (n / (2 : Int) ^ (8 * j) / 256 = n / (2 : Int) ^ (8 * (j + 1))) := ⟨by
        rw [Int.ediv_ediv_of_nonneg (Int.le_of_lt (Int.pow_pos (by omega))), show (256 : Int) = (2 : Int) ^ 8 from rfl, ← Int.pow_add]; congr 1⟩
      clear hb
      have w3 : wr.cell? ⟨g, o + (sz - 1 - j), none⟩ = some (.int .u8 ((splice L (o + (sz - j)) ((be sz n).drop (sz - j))).getD (o + (sz - 1 - j)) 0)) := row_at HR (o + (sz - 1 - j)) (by rw [hslA.out, hLA.out]; omega)
      have f3 : wr.frozen? ⟨g, o + (sz - 1 - j), none⟩ = false := blk_frozen HR (o + (sz - 1 - j))
      go_wp2
      refine ⟨⟨j + 1, by omega, ?_, ?_, ?_, hT.setCell _ _⟩, by simp only [intOf]; omega⟩
      · congr 1
        omega
      · have hle : n / (2 : Int) ^ (8 * j) ≤ n := Int.ediv_le_self _ hn0
        have hn1 := hnA.out
        rw [Int.tdiv_eq_ediv_of_nonneg q0, IntKind.wrap_u64, ← hq.out]
        congr 1
        omega
      · have hset := row_set HR (o + (sz - 1 - j)) (n / (2 : Int) ^ (8 * j) % 256)
        rw [hd.out, splice_cons _ _ _ _ (by rw [hdl.out, hLA.out]; omega), show o + (sz - (j + 1)) + 1 = o + (sz - j) by omega, show o + (sz - (j + 1)) = o + (sz - 1 - j) by omega]
        exact hset
    · obtain rfl : j = sz := by omega
      have hge : decide ((j : Int) - 1 - (j : Int) ≥ 0) = false := by simp; omega
      go_wp2
      refine bodyPost_end (results_none rfl _ _ _) rfl ⟨⟨_, rfl⟩, ?_, hT⟩
      rw [Nat.sub_self, Nat.add_zero, List.drop_zero] at HR
      exact HR
end Go.Proofs.YtglcapkmeecknaaDoor.r18
/-! ## M22 -/
namespace Go.Proofs.YtglcapkmeecknaaDoor.m22
open Go Go.RowKit Go.Proofs.YtglcapkmeecknaaDoor.PHeaderPacks Go.Proofs.YtglcapkmeecknaaDoor.mem Go.Proofs.YtglcapkmeecknaaDoor.headp Go.Proofs.YtglcapkmeecknaaDoor.f25 Go.Proofs.YtglcapkmeecknaaDoorW.PrintWords Go.Proofs.YtglcapkmeecknaaDoorW.PrintLast Go.Proofs.YtglcapkmeecknaaDoorW.PrintMore
set_option linter.unusedVariables false
set_option linter.unusedSimpArgs false
def badT (s : ByteArray) (most : Int) : Bool := decide (most < (s.size : Int)) || has0 s
def mayE (head seq : Int) (label sub uuid salt text : ByteArray) : Int :=
  if isHd head = false then 83 else if seq = 0 ∨ 4611686018427387904 < seq ∨ salt.size ≠ 64 then 85 else if badT label 47 = true ∨ badT uuid 39 = true ∨ badT sub 47 = true then 85 else if badT text (head - 4097) = true then 86 else 0
def txt (label sub uuid : ByteArray) : Nat → ByteArray
  | 0 => label
  | 1 => uuid
  | _ => sub
def mst : Nat → Int
  | 0 => 47
  | 1 => 39
  | _ => 47
set_option maxHeartbeats 2000000 in
set_option maxRecDepth 100000 in
theorem may_call (sec : Bool) (head seq : Int) (label sub uuid salt text : ByteArray) (hh0 : -9223372036854775808 ≤ head) (hh1 : head ≤ 9223372036854775807) (hq0 : 0 ≤ seq) (w : World) :
    Calls Tryd.prog 22 #[.agg #[.bool sec, .int .i64 head, .int .u64 seq, .string label, .string sub, .string uuid, .string salt, .string text]] w fun e w' => e = .returned (.int .i64 (mayE head seq label sub uuid salt text)) ∧ Below w.heap.size w w' := by
  obtain ⟨cs, hcs⟩ : ∃ cs : Array Value, Aside0 (cs = #[.bool sec, .int .i64 head, .int .u64 seq, .string label, .string sub, .string uuid, .string salt, .string text]) := ⟨_, ⟨rfl⟩⟩
  rw [← hcs.out]
  obtain ⟨E, hE⟩ : ∃ E, Aside0 (E = mayE head seq label sub uuid salt text) := ⟨_, ⟨rfl⟩⟩
  rw [← hE.out]
  by_cases hneg : head < 0
  · have hlt : decide (head < 0) = true := by simpa using hneg
    have hEA : Aside0 (E = 83) := ⟨by rw [hE.out]; unfold mayE; rw [if_pos (by unfold isHd; rw [decide_eq_false_iff_not]; omega)]⟩
    clear hE
    go_enter Tryd.func22, Tryd.ntmps22
    go_wp2_with (first | ((with_reducible refine gate_dst (N := 1) rfl ?_); refine box_event ?hg (N := 1) ?hd (cs := cs) (t := 24) ?hr ?_; (case hd => rfl); (case hg => rfl); (case hr => first | (go_simp; done) | (go_simp; rfl)); intro g hg W1 BG hb1; subst hg; generalize hn : w.heap.size = n at *; have HN := Aside0.mk hn; clear hn; have c1 : W1.cell? ⟨n, 1, none⟩ = some (.int .i64 head) := (blk_cell BG 1).trans (by rw [hcs.out]; rfl)) | fail)
    go_ret
    exact ⟨by rw [hEA.out]; rfl, by rw [HN.out]; exact hb1⟩
  have hlt : decide (head < 0) = false := by simp; omega
  have hpos : 0 ≤ head := by omega
  cases hhd : isHd head
  · have HH : Aside0 (header_isHead.f head = some false) := ⟨by rw [isHead_prog head (by omega) (by omega), hhd]⟩
    have hEA : Aside0 (E = 83) := ⟨by rw [hE.out]; unfold mayE; rw [if_pos hhd]⟩
    clear hE
    clear hhd
    go_enter Tryd.func22, Tryd.ntmps22
    go_wp2_with (first | ((with_reducible refine gate_dst (N := 1) rfl ?_); refine box_event ?hg (N := 1) ?hd (cs := cs) (t := 24) ?hr ?_; (case hd => rfl); (case hg => rfl); (case hr => first | (go_simp; done) | (go_simp; rfl)); intro g hg W1 BG hb1; subst hg; generalize hn : w.heap.size = n at *; have HN := Aside0.mk hn; clear hn; have c1 : W1.cell? ⟨n, 1, none⟩ = some (.int .i64 head) := (blk_cell BG 1).trans (by rw [hcs.out]; rfl)) | (go_at_call 38; refine (header_isHead.calls head false _ HH.out).mono ?_; rintro e W2 ⟨rfl, hd2⟩; have BG2 := blk_below BG hd2.below; have hb2 := hb1.trans (hd2.below.mono (by rw [← HN.out]; exact hb1.size)); clear c1; have c1 : W2.cell? ⟨n, 1, none⟩ = some (.int .i64 head) := (blk_cell BG2 1).trans (by rw [hcs.out]; rfl); have c2 : W2.cell? ⟨n, 2, none⟩ = some (.int .u64 seq) := (blk_cell BG2 2).trans (by rw [hcs.out]; rfl); have c6 : W2.cell? ⟨n, 6, none⟩ = some (.string salt) := (blk_cell BG2 6).trans (by rw [hcs.out]; rfl); have c7 : W2.cell? ⟨n, 7, none⟩ = some (.string text) := (blk_cell BG2 7).trans (by rw [hcs.out]; rfl)) | fail)
    go_ret
    exact ⟨by rw [hEA.out]; rfl, by rw [HN.out]; exact hb2⟩
  have HH : Aside0 (header_isHead.f head = some true) := ⟨by rw [isHead_prog head (by omega) (by omega), hhd]⟩
  by_cases hs0 : seq = 0
  · have q0 : (seq == 0) = true := by simp [hs0]
    have hEA : Aside0 (E = 85) := ⟨by rw [hE.out]; unfold mayE; rw [if_neg (by rw [hhd]; decide), if_pos (Or.inl hs0)]⟩
    clear hE
    clear hhd hs0
    go_enter Tryd.func22, Tryd.ntmps22
    go_wp2_with (first | ((with_reducible refine gate_dst (N := 1) rfl ?_); refine box_event ?hg (N := 1) ?hd (cs := cs) (t := 24) ?hr ?_; (case hd => rfl); (case hg => rfl); (case hr => first | (go_simp; done) | (go_simp; rfl)); intro g hg W1 BG hb1; subst hg; generalize hn : w.heap.size = n at *; have HN := Aside0.mk hn; clear hn; have c1 : W1.cell? ⟨n, 1, none⟩ = some (.int .i64 head) := (blk_cell BG 1).trans (by rw [hcs.out]; rfl)) | (go_at_call 38; refine (header_isHead.calls head true _ HH.out).mono ?_; rintro e W2 ⟨rfl, hd2⟩; have BG2 := blk_below BG hd2.below; have hb2 := hb1.trans (hd2.below.mono (by rw [← HN.out]; exact hb1.size)); clear c1; have c1 : W2.cell? ⟨n, 1, none⟩ = some (.int .i64 head) := (blk_cell BG2 1).trans (by rw [hcs.out]; rfl); have c2 : W2.cell? ⟨n, 2, none⟩ = some (.int .u64 seq) := (blk_cell BG2 2).trans (by rw [hcs.out]; rfl); have c6 : W2.cell? ⟨n, 6, none⟩ = some (.string salt) := (blk_cell BG2 6).trans (by rw [hcs.out]; rfl); have c7 : W2.cell? ⟨n, 7, none⟩ = some (.string text) := (blk_cell BG2 7).trans (by rw [hcs.out]; rfl)) | fail)
    go_ret
    exact ⟨by rw [hEA.out]; rfl, by rw [HN.out]; exact hb2⟩
  have q0 : (seq == 0) = false := by simpa using hs0
  by_cases hs1 : 4611686018427387904 < seq
  · have q1 : decide (seq > 4611686018427387904) = true := by simpa using hs1
    have hEA : Aside0 (E = 85) := ⟨by rw [hE.out]; unfold mayE; rw [if_neg (by rw [hhd]; decide), if_pos (Or.inr (Or.inl hs1))]⟩
    clear hE
    clear hhd hs1
    go_enter Tryd.func22, Tryd.ntmps22
    go_wp2_with (first | ((with_reducible refine gate_dst (N := 1) rfl ?_); refine box_event ?hg (N := 1) ?hd (cs := cs) (t := 24) ?hr ?_; (case hd => rfl); (case hg => rfl); (case hr => first | (go_simp; done) | (go_simp; rfl)); intro g hg W1 BG hb1; subst hg; generalize hn : w.heap.size = n at *; have HN := Aside0.mk hn; clear hn; have c1 : W1.cell? ⟨n, 1, none⟩ = some (.int .i64 head) := (blk_cell BG 1).trans (by rw [hcs.out]; rfl)) | (go_at_call 38; refine (header_isHead.calls head true _ HH.out).mono ?_; rintro e W2 ⟨rfl, hd2⟩; have BG2 := blk_below BG hd2.below; have hb2 := hb1.trans (hd2.below.mono (by rw [← HN.out]; exact hb1.size)); clear c1; have c1 : W2.cell? ⟨n, 1, none⟩ = some (.int .i64 head) := (blk_cell BG2 1).trans (by rw [hcs.out]; rfl); have c2 : W2.cell? ⟨n, 2, none⟩ = some (.int .u64 seq) := (blk_cell BG2 2).trans (by rw [hcs.out]; rfl); have c6 : W2.cell? ⟨n, 6, none⟩ = some (.string salt) := (blk_cell BG2 6).trans (by rw [hcs.out]; rfl); have c7 : W2.cell? ⟨n, 7, none⟩ = some (.string text) := (blk_cell BG2 7).trans (by rw [hcs.out]; rfl)) | fail)
    go_ret
    exact ⟨by rw [hEA.out]; rfl, by rw [HN.out]; exact hb2⟩
  have q1 : decide (seq > 4611686018427387904) = false := by simp; omega
  by_cases hs2 : salt.size ≠ 64
  · have q2 : ((salt.size : Int) == 64) = false := by simp; omega
    have q3 : ((salt.size : Int) != 64) = true := by simp; omega
    have hEA : Aside0 (E = 85) := ⟨by rw [hE.out]; unfold mayE; rw [if_neg (by rw [hhd]; decide), if_pos (Or.inr (Or.inr hs2))]⟩
    clear hE
    clear hhd hs1 hs2
    go_enter Tryd.func22, Tryd.ntmps22
    go_wp2_with (first | ((with_reducible refine gate_dst (N := 1) rfl ?_); refine box_event ?hg (N := 1) ?hd (cs := cs) (t := 24) ?hr ?_; (case hd => rfl); (case hg => rfl); (case hr => first | (go_simp; done) | (go_simp; rfl)); intro g hg W1 BG hb1; subst hg; generalize hn : w.heap.size = n at *; have HN := Aside0.mk hn; clear hn; have c1 : W1.cell? ⟨n, 1, none⟩ = some (.int .i64 head) := (blk_cell BG 1).trans (by rw [hcs.out]; rfl)) | (go_at_call 38; refine (header_isHead.calls head true _ HH.out).mono ?_; rintro e W2 ⟨rfl, hd2⟩; have BG2 := blk_below BG hd2.below; have hb2 := hb1.trans (hd2.below.mono (by rw [← HN.out]; exact hb1.size)); clear c1; have c1 : W2.cell? ⟨n, 1, none⟩ = some (.int .i64 head) := (blk_cell BG2 1).trans (by rw [hcs.out]; rfl); have c2 : W2.cell? ⟨n, 2, none⟩ = some (.int .u64 seq) := (blk_cell BG2 2).trans (by rw [hcs.out]; rfl); have c6 : W2.cell? ⟨n, 6, none⟩ = some (.string salt) := (blk_cell BG2 6).trans (by rw [hcs.out]; rfl); have c7 : W2.cell? ⟨n, 7, none⟩ = some (.string text) := (blk_cell BG2 7).trans (by rw [hcs.out]; rfl)) | fail)
    go_ret
    exact ⟨by rw [hEA.out]; rfl, by rw [HN.out]; exact hb2⟩
  have hs3 : salt.size = 64 := by omega
  have q2 : ((salt.size : Int) == 64) = true := by simp; omega
  have q3 : ((salt.size : Int) != 64) = false := by simp; omega
  have hEA : Aside0 (E = if badT label 47 = true ∨ badT uuid 39 = true ∨ badT sub 47 = true then 85 else if badT text (head - 4097) = true then 86 else 0) := ⟨by rw [hE.out]; unfold mayE; rw [if_neg (by rw [hhd]; decide), if_neg (by omega)]⟩
  have hhdA := Aside0.mk hhd
  clear hE hhd hs0 hs1 hs2 hs3
  go_enter Tryd.func22, Tryd.ntmps22
  go_wp2_with (first | ((with_reducible refine gate_dst (N := 1) rfl ?_); refine box_event ?hg (N := 1) ?hd (cs := cs) (t := 24) ?hr ?_; (case hd => rfl); (case hg => rfl); (case hr => first | (go_simp; done) | (go_simp; rfl)); intro g hg W1 BG hb1; subst hg; generalize hn : w.heap.size = n at *; have HN := Aside0.mk hn; clear hn; have c1 : W1.cell? ⟨n, 1, none⟩ = some (.int .i64 head) := (blk_cell BG 1).trans (by rw [hcs.out]; rfl)) | (go_at_call 38; refine (header_isHead.calls head true _ HH.out).mono ?_; rintro e W2 ⟨rfl, hd2⟩; have BG2 := blk_below BG hd2.below; have hb2 := hb1.trans (hd2.below.mono (by rw [← HN.out]; exact hb1.size)); clear c1; have c1 : W2.cell? ⟨n, 1, none⟩ = some (.int .i64 head) := (blk_cell BG2 1).trans (by rw [hcs.out]; rfl); have c2 : W2.cell? ⟨n, 2, none⟩ = some (.int .u64 seq) := (blk_cell BG2 2).trans (by rw [hcs.out]; rfl); have c6 : W2.cell? ⟨n, 6, none⟩ = some (.string salt) := (blk_cell BG2 6).trans (by rw [hcs.out]; rfl); have c7 : W2.cell? ⟨n, 7, none⟩ = some (.string text) := (blk_cell BG2 7).trans (by rw [hcs.out]; rfl)) | (go_at_call 25; refine (fields_call _ n _ BG2).mono ?_; rintro e W3 ⟨V, rfl, hV, BV, hb3⟩; have BG3 := blk_below BG2 hb3; have hb4 := hb2.trans (hb3.mono (by rw [← HN.out]; exact hb2.size)); have hV2 : n < V := Nat.lt_of_lt_of_le (blk_lt BG2) hV; clear c1 c2 c6 c7) | fail)
  go_loopw [32] (fun v32 wr => ∃ i : Nat, i ≤ 3 ∧ v32 = .int .i64 i ∧ Aside0 (∀ j, j < i → badT (txt label sub uuid j) (mst j) = false) ∧ wr.heap[n]? = some (.cells cs 24 (0, 0)) ∧ wr.heap[V]? = some (.cells (fieldCells n) 55 (0, 0)) ∧ Below n w wr) (fun v32 _ => 3 - (intOf v32).toNat)
  case atStart => exact ⟨0, by omega, rfl, ⟨fun j hj => absurd hj (by omega)⟩, BG3, BV, hb4⟩
  case round =>
    clear BG3 BV hb4
    obtain ⟨i, hi, rfl, hok, BG, BV, HB⟩ := hrel
    unfold fieldCells at BV
    have hd9 : 16384 ≤ head ∧ head ≤ 4194304 := by
      have h := hhdA.out
      unfold isHd at h
      have := of_decide_eq_true h
      omega
    obtain ⟨hd0, hd1⟩ := hd9
    obtain rfl | rfl | rfl | rfl : i = 0 ∨ i = 1 ∨ i = 2 ∨ i = 3 := by omega
    · rw [show ((0 : Nat) : Int) = (0 : Int) from rfl]
      have ct : wr.cell? ⟨n, 3, none⟩ = some (.string label) := (blk_cell BG 3).trans (by rw [hcs.out]; rfl)
      have k0 : wr.cell? ⟨V, 0, none⟩ = some (.int .i64 24) := (blk_cell BV 0).trans rfl
      have k1 : wr.cell? ⟨V, 1, none⟩ = some (.int .i64 48) := (blk_cell BV 1).trans rfl
      have k2 : wr.cell? ⟨V, 2, none⟩ = some (.int .i64 47) := (blk_cell BV 2).trans rfl
      have k3 : wr.cell? ⟨V, 3, none⟩ = some (.pointer (some ⟨n, 3, none⟩)) := (blk_cell BV 3).trans rfl
      have hnV : n < wr.heap.size := blk_lt BG
      by_cases hz : (47 : Int) < (label.size : Int)
      · have z0 : decide ((label.size : Int) > 47) = true := by simpa using hz
        have z1 : decide ((47 : Int) < (label.size : Int)) = true := by simpa using hz
        have hE9 : Aside0 (E = 85) := ⟨by rw [hEA.out, if_pos (Or.inl (by unfold badT; rw [decide_eq_true hz]; rfl))]⟩
        go_wp2
        go_ret
        exact ⟨by rw [hE9.out]; rfl, by rw [HN.out]; exact HB.alloc (by rw [← HN.out]; exact HB.size) _⟩
      · have z0 : decide ((label.size : Int) > 47) = false := by simpa using hz
        have z1 : decide ((47 : Int) < (label.size : Int)) = false := by simpa using hz
        cases hz0 : has0 label
        · have ctr : Aside0 (∀ W, Calls Tryd.prog 39 #[.string label, .string ⟨#[0]⟩] W fun e w' => e = .returned (.bool false) ∧ W = w') := ⟨fun W => by have h := contains0 label W; rwa [hz0] at h⟩
          go_wp2_with (first | (go_at_call 39; refine (ctr.out _).mono ?_; rintro e W5 ⟨rfl, rfl⟩) | fail)
          exact ⟨⟨1, by omega, rfl, ⟨fun j hj => by
            rcases Nat.lt_or_ge j 0 with h | h
            · exact hok.out j h
            · obtain rfl : j = 0 := by omega
              simp only [txt, mst]
              unfold badT
              rw [z1, hz0]
              rfl⟩, blk_alloc BG _, by unfold fieldCells; exact blk_alloc BV _, HB.alloc (by rw [← HN.out]; exact HB.size) _⟩, by decide⟩
        · have ctr : Aside0 (∀ W, Calls Tryd.prog 39 #[.string label, .string ⟨#[0]⟩] W fun e w' => e = .returned (.bool true) ∧ W = w') := ⟨fun W => by have h := contains0 label W; rwa [hz0] at h⟩
          have hE9 : Aside0 (E = 85) := ⟨by rw [hEA.out, if_pos (Or.inl (by unfold badT; rw [hz0]; simp))]⟩
          go_wp2_with (first | (go_at_call 39; refine (ctr.out _).mono ?_; rintro e W5 ⟨rfl, rfl⟩) | fail)
          go_ret
          exact ⟨by rw [hE9.out]; rfl, by rw [HN.out]; exact HB.alloc (by rw [← HN.out]; exact HB.size) _⟩
    · rw [show ((1 : Nat) : Int) = (1 : Int) from rfl]
      have ct : wr.cell? ⟨n, 5, none⟩ = some (.string uuid) := (blk_cell BG 5).trans (by rw [hcs.out]; rfl)
      have k0 : wr.cell? ⟨V, 4, none⟩ = some (.int .i64 168) := (blk_cell BV 4).trans rfl
      have k1 : wr.cell? ⟨V, 5, none⟩ = some (.int .i64 40) := (blk_cell BV 5).trans rfl
      have k2 : wr.cell? ⟨V, 6, none⟩ = some (.int .i64 39) := (blk_cell BV 6).trans rfl
      have k3 : wr.cell? ⟨V, 7, none⟩ = some (.pointer (some ⟨n, 5, none⟩)) := (blk_cell BV 7).trans rfl
      have hnV : n < wr.heap.size := blk_lt BG
      by_cases hz : (39 : Int) < (uuid.size : Int)
      · have z0 : decide ((uuid.size : Int) > 39) = true := by simpa using hz
        have z1 : decide ((39 : Int) < (uuid.size : Int)) = true := by simpa using hz
        have hE9 : Aside0 (E = 85) := ⟨by rw [hEA.out, if_pos (Or.inr (Or.inl (by unfold badT; rw [decide_eq_true hz]; rfl)))]⟩
        go_wp2
        go_ret
        exact ⟨by rw [hE9.out]; rfl, by rw [HN.out]; exact HB.alloc (by rw [← HN.out]; exact HB.size) _⟩
      · have z0 : decide ((uuid.size : Int) > 39) = false := by simpa using hz
        have z1 : decide ((39 : Int) < (uuid.size : Int)) = false := by simpa using hz
        cases hz0 : has0 uuid
        · have ctr : Aside0 (∀ W, Calls Tryd.prog 39 #[.string uuid, .string ⟨#[0]⟩] W fun e w' => e = .returned (.bool false) ∧ W = w') := ⟨fun W => by have h := contains0 uuid W; rwa [hz0] at h⟩
          go_wp2_with (first | (go_at_call 39; refine (ctr.out _).mono ?_; rintro e W5 ⟨rfl, rfl⟩) | fail)
          exact ⟨⟨2, by omega, rfl, ⟨fun j hj => by
            rcases Nat.lt_or_ge j 1 with h | h
            · exact hok.out j h
            · obtain rfl : j = 1 := by omega
              simp only [txt, mst]
              unfold badT
              rw [z1, hz0]
              rfl⟩, blk_alloc BG _, by unfold fieldCells; exact blk_alloc BV _, HB.alloc (by rw [← HN.out]; exact HB.size) _⟩, by decide⟩
        · have ctr : Aside0 (∀ W, Calls Tryd.prog 39 #[.string uuid, .string ⟨#[0]⟩] W fun e w' => e = .returned (.bool true) ∧ W = w') := ⟨fun W => by have h := contains0 uuid W; rwa [hz0] at h⟩
          have hE9 : Aside0 (E = 85) := ⟨by rw [hEA.out, if_pos (Or.inr (Or.inl (by unfold badT; rw [hz0]; simp)))]⟩
          go_wp2_with (first | (go_at_call 39; refine (ctr.out _).mono ?_; rintro e W5 ⟨rfl, rfl⟩) | fail)
          go_ret
          exact ⟨by rw [hE9.out]; rfl, by rw [HN.out]; exact HB.alloc (by rw [← HN.out]; exact HB.size) _⟩
    · rw [show ((2 : Nat) : Int) = (2 : Int) from rfl]
      have ct : wr.cell? ⟨n, 4, none⟩ = some (.string sub) := (blk_cell BG 4).trans (by rw [hcs.out]; rfl)
      have k0 : wr.cell? ⟨V, 8, none⟩ = some (.int .i64 208) := (blk_cell BV 8).trans rfl
      have k1 : wr.cell? ⟨V, 9, none⟩ = some (.int .i64 48) := (blk_cell BV 9).trans rfl
      have k2 : wr.cell? ⟨V, 10, none⟩ = some (.int .i64 47) := (blk_cell BV 10).trans rfl
      have k3 : wr.cell? ⟨V, 11, none⟩ = some (.pointer (some ⟨n, 4, none⟩)) := (blk_cell BV 11).trans rfl
      have hnV : n < wr.heap.size := blk_lt BG
      by_cases hz : (47 : Int) < (sub.size : Int)
      · have z0 : decide ((sub.size : Int) > 47) = true := by simpa using hz
        have z1 : decide ((47 : Int) < (sub.size : Int)) = true := by simpa using hz
        have hE9 : Aside0 (E = 85) := ⟨by rw [hEA.out, if_pos (Or.inr (Or.inr (by unfold badT; rw [decide_eq_true hz]; rfl)))]⟩
        go_wp2
        go_ret
        exact ⟨by rw [hE9.out]; rfl, by rw [HN.out]; exact HB.alloc (by rw [← HN.out]; exact HB.size) _⟩
      · have z0 : decide ((sub.size : Int) > 47) = false := by simpa using hz
        have z1 : decide ((47 : Int) < (sub.size : Int)) = false := by simpa using hz
        cases hz0 : has0 sub
        · have ctr : Aside0 (∀ W, Calls Tryd.prog 39 #[.string sub, .string ⟨#[0]⟩] W fun e w' => e = .returned (.bool false) ∧ W = w') := ⟨fun W => by have h := contains0 sub W; rwa [hz0] at h⟩
          go_wp2_with (first | (go_at_call 39; refine (ctr.out _).mono ?_; rintro e W5 ⟨rfl, rfl⟩) | fail)
          exact ⟨⟨3, by omega, rfl, ⟨fun j hj => by
            rcases Nat.lt_or_ge j 2 with h | h
            · exact hok.out j h
            · obtain rfl : j = 2 := by omega
              simp only [txt, mst]
              unfold badT
              rw [z1, hz0]
              rfl⟩, blk_alloc BG _, by unfold fieldCells; exact blk_alloc BV _, HB.alloc (by rw [← HN.out]; exact HB.size) _⟩, by decide⟩
        · have ctr : Aside0 (∀ W, Calls Tryd.prog 39 #[.string sub, .string ⟨#[0]⟩] W fun e w' => e = .returned (.bool true) ∧ W = w') := ⟨fun W => by have h := contains0 sub W; rwa [hz0] at h⟩
          have hE9 : Aside0 (E = 85) := ⟨by rw [hEA.out, if_pos (Or.inr (Or.inr (by unfold badT; rw [hz0]; simp)))]⟩
          go_wp2_with (first | (go_at_call 39; refine (ctr.out _).mono ?_; rintro e W5 ⟨rfl, rfl⟩) | fail)
          go_ret
          exact ⟨by rw [hE9.out]; rfl, by rw [HN.out]; exact HB.alloc (by rw [← HN.out]; exact HB.size) _⟩
    · rw [show ((3 : Nat) : Int) = (3 : Int) from rfl]
      have c1 : wr.cell? ⟨n, 1, none⟩ = some (.int .i64 head) := (blk_cell BG 1).trans (by rw [hcs.out]; rfl)
      have c7 : wr.cell? ⟨n, 7, none⟩ = some (.string text) := (blk_cell BG 7).trans (by rw [hcs.out]; rfl)
      have EA : Aside0 (E = if badT text (head - 4097) = true then 86 else 0) := ⟨by
        have b0 := hok.out 0 (by omega)
        have b1 := hok.out 1 (by omega)
        have b2 := hok.out 2 (by omega)
        simp only [txt, mst] at b0 b1 b2
        rw [hEA.out, if_neg (by rw [b0, b1, b2]; decide)]⟩
      by_cases hz : head - 4097 < (text.size : Int)
      · have z0 : decide ((text.size : Int) > head - 4097) = true := by simpa using hz
        have hE9 : Aside0 (E = 86) := ⟨by rw [EA.out, if_pos (by unfold badT; rw [decide_eq_true hz]; rfl)]⟩
        have z1 : decide (head - 4097 < (text.size : Int)) = true := by simpa using hz
        go_wp2
        go_ret
        exact ⟨by rw [hE9.out]; rfl, by rw [HN.out]; exact HB⟩
      · have z0 : decide ((text.size : Int) > head - 4097) = false := by simpa using hz
        have z1 : decide (head - 4097 < (text.size : Int)) = false := by simpa using hz
        cases hz0 : has0 text
        · have hE9 : Aside0 (E = 0) := ⟨by rw [EA.out, if_neg (by unfold badT; rw [z1, hz0]; decide)]⟩
          have ctr : Aside0 (∀ W, Calls Tryd.prog 39 #[.string text, .string ⟨#[0]⟩] W fun e w' => e = .returned (.bool false) ∧ W = w') := ⟨fun W => by have h := contains0 text W; rwa [hz0] at h⟩
          go_wp2_with (first | (go_at_call 39; refine (ctr.out _).mono ?_; rintro e W5 ⟨rfl, rfl⟩) | fail)
          go_ret
          exact ⟨by rw [hE9.out]; rfl, by rw [HN.out]; exact HB⟩
        · have hE9 : Aside0 (E = 86) := ⟨by rw [EA.out, if_pos (by unfold badT; rw [hz0]; simp)]⟩
          have ctr : Aside0 (∀ W, Calls Tryd.prog 39 #[.string text, .string ⟨#[0]⟩] W fun e w' => e = .returned (.bool true) ∧ W = w') := ⟨fun W => by have h := contains0 text W; rwa [hz0] at h⟩
          go_wp2_with (first | (go_at_call 39; refine (ctr.out _).mono ?_; rintro e W5 ⟨rfl, rfl⟩) | fail)
          go_ret
          exact ⟨by rw [hE9.out]; rfl, by rw [HN.out]; exact HB⟩
end Go.Proofs.YtglcapkmeecknaaDoor.m22
/-! ## K07 -/
namespace Go.Proofs.YtglcapkmeecknaaDoor.k07
open Go Go.RowKit Go.Proofs.YtglcapkmeecknaaDoor.PHeaderPacks Go.Proofs.YtglcapkmeecknaaDoor.sha Go.Proofs.YtglcapkmeecknaaDoor.mem Go.Proofs.YtglcapkmeecknaaDoor.headp Go.Proofs.YtglcapkmeecknaaDoor.f25 Go.Proofs.YtglcapkmeecknaaDoor.m22 Go.Proofs.YtglcapkmeecknaaDoor.p24 Go.Proofs.YtglcapkmeecknaaDoor.h27 Go.Proofs.YtglcapkmeecknaaDoor.d40 Go.Proofs.YtglcapkmeecknaaDoor.e61 Go.Proofs.YtglcapkmeecknaaDoorW.PrintWords Go.Proofs.YtglcapkmeecknaaDoorW.PrintLast Go.Proofs.YtglcapkmeecknaaDoorW.PrintMore
set_option linter.unusedVariables false
set_option linter.unusedSimpArgs false
def alg : ByteArray := ⟨#[115, 104, 97, 50, 53, 54]⟩
theorem alg_size : alg.size = 6 := rfl
def beginOf (sec : Bool) (head : Int) : Int := if sec then head else 0
/-- A copy's bytes ahead of its digest, as the program lays them. -/
def packA (sec : Bool) (head seq : Int) (label sub uuid salt text : ByteArray) : List Int :=
  splice (splice (splice (splice (splice (splice (splice (splice (splice (splice (splice (List.replicate head.toNat (0 : Int)) 0 (bytesOf (magicB sec))) 6 (be 2 2)) 8 (be 8 head)) 16 (be 8 seq)) 24 (bytesOf label)) 168 (bytesOf uuid)) 208 (bytesOf sub)) 72 (bytesOf alg)) 104 (bytesOf salt)) 256 (be 8 (beginOf sec head))) 4096 (bytesOf text)
/-- The digest of bytes of whole blocks. -/
def shaOf (kf : Nat → BitVec 32) (x : St) (b : List Int) : List Int := dig (taken kf (upto kf x b (b.length / 64)) (padOf (b.length * 8)))
structure HeadTab (w : World) : Prop where
  m0 : w.cell? ⟨0, 0, none⟩ = some (.string ⟨#[76, 85, 75, 83, 186, 190]⟩)
  m1 : w.cell? ⟨0, 1, none⟩ = some (.string ⟨#[83, 75, 85, 76, 186, 190]⟩)
theorem HeadTab.below {w w' : World} (h : HeadTab w) (hb : Below w.heap.size w w') : HeadTab w' := ⟨pw_cell_below hb h.m0, pw_cell_below hb h.m1⟩
set_option maxHeartbeats 2000000 in
set_option maxRecDepth 100000 in
theorem pack_bad (sec : Bool) (head seq : Int) (label sub uuid salt text : ByteArray) (hh0 : -9223372036854775808 ≤ head) (hh1 : head ≤ 9223372036854775807) (hq0 : 0 ≤ seq) (w : World) (hE : mayE head seq label sub uuid salt text ≠ 0) :
    Calls Tryd.prog 7 #[.agg #[.bool sec, .int .i64 head, .int .u64 seq, .string label, .string sub, .string uuid, .string salt, .string text]] w fun e w' => e = .returned (.tuple #[.slice none 0 0, .int .i64 (mayE head seq label sub uuid salt text)]) ∧ Below w.heap.size w w' := by
  have hm := fun W => may_call sec head seq label sub uuid salt text hh0 hh1 hq0 W
  obtain ⟨E, hEE⟩ : ∃ E, Aside0 (mayE head seq label sub uuid salt text = E) := ⟨_, ⟨rfl⟩⟩
  rw [hEE.out] at hm hE ⊢
  have e0 : (E == 0) = false := by simpa using hE
  have e1 : (E != 0) = true := by simpa using hE
  obtain ⟨cs, hcs⟩ : ∃ cs : Array Value, Aside0 (cs = #[.bool sec, .int .i64 head, .int .u64 seq, .string label, .string sub, .string uuid, .string salt, .string text]) := ⟨_, ⟨rfl⟩⟩
  rw [← hcs.out] at hm ⊢
  have hmA := Aside0.mk hm
  have hsz : cs.size = 8 := by rw [hcs.out]; rfl
  clear hm hE
  go_enter Tryd.func7, Tryd.ntmps7
  go_wp2_with (first | ((with_reducible refine gate_dst (N := 1) rfl ?_); refine box_event ?hg (N := 1) ?hd (cs := cs) (t := 24) ?hr ?_; (case hd => rfl); (case hg => rfl); (case hr => first | (go_simp; done) | (go_simp; rfl)); intro g hg W1 BG hb1; subst hg; generalize hn : w.heap.size = n at *; have HN := Aside0.mk hn; clear hn) | ((with_reducible refine gate_ (.load 24 (.tmp 1)) rfl ?_); refine wpList_load_row rfl 24 (.tmp 1) rfl n rfl 24 cs (0, 0) _ BG Tryd.underlying24 rfl (by rw [hsz]; kernel_rfl) ?_) | (go_at_call 22; refine (hmA.out _).mono ?_; rintro e W2 ⟨rfl, hb2⟩) | fail)
  go_ret2
  exact ⟨rfl, by rw [HN.out]; exact hb1.trans (hb2.mono (by rw [← HN.out]; exact hb1.size))⟩
theorem may_zero {head seq : Int} {label sub uuid salt text : ByteArray} (h : mayE head seq label sub uuid salt text = 0) : isHd head = true ∧ seq ≠ 0 ∧ seq ≤ 4611686018427387904 ∧ salt.size = 64 ∧ label.size ≤ 47 ∧ uuid.size ≤ 39 ∧ sub.size ≤ 47 ∧ (text.size : Int) ≤ head - 4097 := by
  unfold mayE at h
  split at h
  · omega
  · rename_i a
    split at h
    · omega
    · rename_i b
      split at h
      · omega
      · rename_i c
        split at h
        · omega
        · rename_i d
          simp only [badT, Bool.or_eq_true, decide_eq_true_eq, not_or] at c d
          exact ⟨by simpa using a, by omega, by omega, by omega, by omega, by omega, by omega, by omega⟩
theorem isHd_bd {h : Int} (hd : isHd h = true) : 16384 ≤ h ∧ h ≤ 4194304 ∧ h % 64 = 0 := by
  unfold isHd at hd
  have := of_decide_eq_true hd
  omega
theorem rng_splice {L xs : List Int} {o : Nat} (h : ∀ x ∈ L, 0 ≤ x ∧ x < 256) (h' : ∀ x ∈ xs, 0 ≤ x ∧ x < 256) : ∀ x ∈ splice L o xs, 0 ≤ x ∧ x < 256 := by
  intro x hx
  unfold splice at hx
  rcases List.mem_append.1 hx with a | a
  · exact h x (List.mem_of_mem_take a)
  · rcases List.mem_append.1 a with b | b
    · exact h' x b
    · exact h x (List.mem_of_mem_drop b)
theorem rng_bytes (s : ByteArray) : ∀ x ∈ bytesOf s, 0 ≤ x ∧ x < 256 := by
  intro x hx
  unfold bytesOf at hx
  obtain ⟨b, _, rfl⟩ := List.mem_map.1 hx
  have := b.toNat_lt
  omega
theorem rng_be (sz : Nat) (n : Int) : ∀ x ∈ be sz n, 0 ≤ x ∧ x < 256 := by
  intro x hx
  unfold be at hx
  obtain ⟨i, _, rfl⟩ := List.mem_map.1 hx
  omega
theorem rng_zero (n : Nat) : ∀ x ∈ List.replicate n (0 : Int), 0 ≤ x ∧ x < 256 := by
  intro x hx
  rw [List.eq_of_mem_replicate hx]
  omega
theorem packA_rng (sec : Bool) (head seq : Int) (label sub uuid salt text : ByteArray) : ∀ x ∈ packA sec head seq label sub uuid salt text, 0 ≤ x ∧ x < 256 :=
  rng_splice (rng_splice (rng_splice (rng_splice (rng_splice (rng_splice (rng_splice (rng_splice (rng_splice (rng_splice (rng_splice (rng_zero _) (rng_bytes _)) (rng_be _ _)) (rng_be _ _)) (rng_be _ _)) (rng_bytes _)) (rng_bytes _)) (rng_bytes _)) (rng_bytes _)) (rng_bytes _)) (rng_be _ _)) (rng_bytes _)
/-- What holds all along Pack: the box of the copy, the row that is being laid. -/
structure Inv (w : World) (n V H : Nat) (cs : Array Value) (W : World) (L : List Int) : Prop where
  box : W.heap[n]? = some (.cells cs 24 (0, 0))
  row : Row W V L
  len : L.length = H
  bel : Below n w W
theorem Inv.turn {w W W' : World} {n V H : Nat} {cs : Array Value} {L L' : List Int} (h : Inv w n V H cs W L) (hT : Turn V W W') (R : Row W' V L') (hl : L'.length = L.length) (hnV : n < V) : Inv w n V H cs W' L' :=
  ⟨hT.blk h.box (by omega), R, hl.trans h.len, Turn.below h.bel hT (by omega) (Nat.le_of_lt (blk_lt h.box))⟩
theorem Inv.drew {w W : World} {n V H : Nat} {cs : Array Value} {L : List Int} (h : Inv w n V H cs W L) : Inv w n V H cs W.drew L := ⟨blk_drew h.box, blk_drew h.row, h.len, below_drew h.bel⟩
theorem Inv.below {w W W' : World} {n V H : Nat} {cs : Array Value} {L : List Int} (h : Inv w n V H cs W L) (hb : Below W.heap.size W W') : Inv w n V H cs W' L := ⟨blk_below h.box hb, blk_below h.row hb, h.len, h.bel.trans (hb.mono (Nat.le_of_lt (blk_lt h.box)))⟩
theorem Inv.box_lt {w W : World} {n V H : Nat} {cs : Array Value} {L : List Int} (h : Inv w n V H cs W L) : n < W.heap.size := blk_lt h.box
theorem splice_len {L : List Int} {o : Nat} {xs : List Int} (h : o + xs.length ≤ L.length) : (splice L o xs).length = L.length := length_splice _ _ _ h
theorem cutV (V H : Nat) (j : Int) (h0 : 0 < j) (h1 : j < (H : Int)) : ∀ W : World, (Instr.slice 25 (.slice (some ⟨V, 0, none⟩) H H) (some (.int .i64 j)) none none).run Tryd.prog W = .ok (.slice (some ⟨V, j.toNat, none⟩) (H - j.toNat) (H - j.toNat)) W := by
  intro W
  obtain ⟨i5, hi5, hz5, hs5, hb5⟩ := info_parts n78.info5
  rw [cut_from (P := Tryd.prog) 25 5 .i64 Tryd.underlying25 hi5 1 hs5 (some ⟨V, 0, none⟩) H H j (by omega) (by omega) W, if_neg (by omega)]
  rw [Nat.mul_one]
  show Result.ok (Value.slice (some ((⟨V, 0, none⟩ : Addr).add j.toNat)) _ _) W = _
  rw [add_plain]
set_option maxHeartbeats 4000000 in
set_option maxRecDepth 100000 in
theorem pack_ok (kf : Nat → BitVec 32) (x : St) (sec : Bool) (head seq : Int) (label sub uuid salt text : ByteArray) (hq0 : 0 ≤ seq) (w : World) (hT : DigTab kf x w) (hM : HeadTab w) (hE : mayE head seq label sub uuid salt text = 0) :
    Calls Tryd.prog 7 #[.agg #[.bool sec, .int .i64 head, .int .u64 seq, .string label, .string sub, .string uuid, .string salt, .string text]] w fun e w' => ∃ g, e = .returned (.tuple #[.slice (some ⟨g, 0, none⟩) head.toNat head.toNat, .int .i64 0]) ∧ w.heap.size ≤ g ∧ Row w' g (splice (packA sec head seq label sub uuid salt text) 448 (shaOf kf x (hole (packA sec head seq label sub uuid salt text)))) ∧ Below w.heap.size w w' := by
  obtain ⟨z1, z2, z3, z4, z5, z6, z7, z8⟩ := may_zero hE
  obtain ⟨b1, b2, b3⟩ := isHd_bd z1
  obtain ⟨H, rfl⟩ : ∃ H : Nat, head = H := ⟨head.toNat, by omega⟩
  have hm := fun W => may_call sec H seq label sub uuid salt text (by omega) (by omega) hq0 W
  rw [hE] at hm
  obtain ⟨cs, hcs⟩ : ∃ cs : Array Value, Aside0 (cs = #[.bool sec, .int .i64 H, .int .u64 seq, .string label, .string sub, .string uuid, .string salt, .string text]) := ⟨_, ⟨rfl⟩⟩
  rw [← hcs.out] at hm ⊢
  have hmA := Aside0.mk hm
  have hsz : cs.size = 8 := by rw [hcs.out]; rfl
  have hmk : ∀ W : World, _ := print_make_int (P := Tryd.prog) 25 5 (.int .u8 0) 1 Tryd.underlying25 n78.info5 rfl (by decide) (H : Int) (by omega) (by omega)
  rw [made_nums, Int.toNat_natCast] at hmk
  rw [Int.toNat_natCast]
  have z3A := Aside0.mk z3
  have z4A := Aside0.mk z4
  have hEA := Aside0.mk hE
  have b3A := Aside0.mk b3
  have u6 : (bytesOf (magicB sec)).length = 6 := by rw [bytesOf_length, magicB_size]
  have u6A := Aside0.mk u6
  obtain ⟨L0, hL0⟩ : ∃ L0, Aside0 (L0 = List.replicate H (0 : Int)) := ⟨_, ⟨rfl⟩⟩
  rw [← hL0.out] at hmk
  have HTA := Aside0.mk hT
  have HMA := Aside0.mk hM
  have hbeg : ∀ W : World, Calls Tryd.prog 26 #[.agg cs] W fun e w' => e = .returned (.int .i64 (beginOf sec H)) ∧ Below W.heap.size W w' := fun W => by
    rw [hcs.out]
    exact header_begin.calls sec H seq label sub uuid salt text (beginOf sec H) W (by unfold header_begin.f beginOf; cases sec <;> rfl)
  have hbegA := Aside0.mk hbeg
  have hbo : 0 ≤ beginOf sec H ∧ beginOf sec H ≤ 4194304 := by unfold beginOf; split <;> omega
  obtain ⟨hbo0, hbo1⟩ := hbo
  clear hm z1 z2 z3 z4 hE hT hM b3 u6 hbeg
  go_enter Tryd.func7, Tryd.ntmps7
  go_wp2_with (first
    | ((with_reducible refine gate_dst (N := 1) rfl ?_); refine box_event ?hg (N := 1) ?hd (cs := cs) (t := 24) ?hr ?_; (case hd => rfl); (case hg => rfl); (case hr => first | (go_simp; done) | (go_simp; rfl)); intro g hg W1 BG hb1; subst hg; generalize hn : w.heap.size = n at *; have HN := Aside0.mk hn; clear hn)
    | ((with_reducible refine gate_ (.load 24 (.tmp 1)) rfl ?_); refine wpList_load_row rfl 24 (.tmp 1) rfl n rfl 24 cs (0, 0) _ BG Tryd.underlying24 rfl (by rw [hsz]; kernel_rfl) ?_)
    | (go_at_call 22; refine (hmA.out _).mono ?_; rintro e W2 ⟨rfl, hb2⟩; have BG2 := blk_below BG hb2; have HB2 := hb1.trans (hb2.mono (by rw [← HN.out]; exact hb1.size)); have hnW : n < W2.heap.size := blk_lt BG2; have c0 : W2.cell? ⟨n, 0, none⟩ = some (.bool sec) := (blk_cell BG2 0).trans (by rw [hcs.out]; rfl); have c1 : W2.cell? ⟨n, 1, none⟩ = some (.int .i64 H) := (blk_cell BG2 1).trans (by rw [hcs.out]; rfl))
    | (go_at_call 23; have I0 : Inv w n W2.heap.size H cs (W2.alloc (.cells (nums .u8 L0).toArray 5)) L0 := ⟨blk_alloc BG2 _, blk_new W2 _, by rw [hL0.out, List.length_replicate], HB2.alloc (Nat.le_of_lt hnW) _⟩; clear c0 c1 BG2 HB2 hmk; generalize W2.heap.size = V at *; generalize W2.alloc (.cells (nums .u8 L0).toArray 5) = W3 at *; refine (magic_call sec W3 (HMA.out.below (by rw [HN.out]; exact I0.bel)).m0 (HMA.out.below (by rw [HN.out]; exact I0.bel)).m1).mono ?_; rintro e W4 ⟨rfl, hW4⟩; subst hW4)
    | ((with_reducible refine gate_builtin (b := .copy) (xs := #[.tmp 16, .tmp 19]) rfl ?_); refine wpList_copy_str rfl (.tmp 16) (.tmp 19) 25 9 rfl Tryd.underlying25 (by kernel_rfl) V 0 H H (magicB sec) rfl rfl L0 I0.row (by rw [magicB_size]; omega) (by rw [magicB_size, I0.len]; omega) ?_; intro W5 R5 T5; have I1 := I0.turn T5 R5 (splice_len (by rw [u6A.out, I0.len]; omega)) hnW)
    | fail)
  obtain ⟨L1, hL1⟩ : ∃ L, Aside0 (L = splice L0 0 (bytesOf (magicB sec))) := ⟨_, ⟨rfl⟩⟩
  rw [← hL1.out] at I1
  clear R5 T5 I0
  refine (put2_call W5 V 6 (H - 6) (H - 6) L1 I1.row (by omega) (by omega) (by rw [I1.len]; omega) 2 (by omega) (by omega)).mono ?_
  rintro e W6 ⟨⟨v6, rfl⟩, R6, T6⟩
  have I2 := I1.turn T6 R6 (splice_len (by rw [be_len, I1.len]; omega)) hnW
  obtain ⟨L2, hL2⟩ : ∃ L, Aside0 (L = splice L1 6 (be 2 2)) := ⟨_, ⟨rfl⟩⟩
  rw [← hL2.out] at I2
  clear R6 T6 I1
  have c1 : W6.cell? ⟨n, 1, none⟩ = some (.int .i64 H) := (blk_cell I2.box 1).trans (by rw [hcs.out]; rfl)
  have hcut8 : ∀ W : World, _ := cutV V H 8 (by omega) (by omega)
  rw [show (8 : Int).toNat = 8 from rfl] at hcut8
  go_wp2_with fail
  go_still_tail 5, (by kernel_rfl)
  clear c1 hcut8
  rw [show ({ heap := W6.heap, tape := W6.tape, drawn := W6.drawn + 1, os := W6.os, output := W6.output } : World) = W6.drew from rfl]
  have I2d := I2.drew
  clear I2
  have I2 := I2d
  clear I2d
  generalize W6.drew = W6d at *
  go_wp2_with fail
  refine (put8_call W6d V 8 (H - 8) (H - 8) L2 I2.row (by omega) (by omega) (by rw [I2.len]; omega) (H : Int) (by omega) (by omega)).mono ?_
  rintro e W7 ⟨⟨vW7, rfl⟩, RW7, TW7⟩
  have I3 := I2.turn TW7 RW7 (splice_len (by rw [be_len, I2.len]; omega)) hnW
  obtain ⟨L3, hL3⟩ : ∃ L, Aside0 (L = splice L2 8 (be 8 H)) := ⟨_, ⟨rfl⟩⟩
  rw [← hL3.out] at I3
  clear RW7 TW7 I2
  have c2 : W7.cell? ⟨n, 2, none⟩ = some (.int .u64 seq) := (blk_cell I3.box 2).trans (by rw [hcs.out]; rfl)
  have hcut16 : ∀ W : World, _ := cutV V H 16 (by omega) (by omega)
  rw [show (16 : Int).toNat = 16 from rfl] at hcut16
  go_wp2_with fail
  go_still_tail 4, (by kernel_rfl)
  clear c2 hcut16
  rw [show ({ heap := W7.heap, tape := W7.tape, drawn := W7.drawn + 1, os := W7.os, output := W7.output } : World) = W7.drew from rfl]
  have I3d := I3.drew
  clear I3
  have I3 := I3d
  clear I3d
  generalize W7.drew = W7d at *
  go_wp2_with fail
  refine (put8_call W7d V 16 (H - 16) (H - 16) L3 I3.row (by omega) (by omega) (by rw [I3.len]; omega) seq (by omega) (by have := z3A.out; omega)).mono ?_
  rintro e W8 ⟨⟨vW8, rfl⟩, RW8, TW8⟩
  have I4 := I3.turn TW8 RW8 (splice_len (by rw [be_len, I3.len]; omega)) hnW
  obtain ⟨L4, hL4⟩ : ∃ L, Aside0 (L = splice L3 16 (be 8 seq)) := ⟨_, ⟨rfl⟩⟩
  rw [← hL4.out] at I4
  clear RW8 TW8 I3
  go_wp2_with fail
  refine (fields_call W8 n _ I4.box).mono ?_
  rintro e W9 ⟨F, rfl, hF, BF, hb9⟩
  have I4b := I4.below hb9
  have hFV : V < F := Nat.lt_of_lt_of_le (blk_lt I4.row) hF
  clear I4
  have I4 := I4b
  clear I4b hb9
  unfold fieldCells at BF
  go_wp2_with fail
  refine wp_loop_rounds 4 ?_
  rw [rounds_succ]
  have k0 : W9.cell? ⟨F, 0, none⟩ = some (.int .i64 24) := (blk_cell BF 0).trans rfl
  have k1 : W9.cell? ⟨F, 1, none⟩ = some (.int .i64 48) := (blk_cell BF 1).trans rfl
  have k2 : W9.cell? ⟨F, 2, none⟩ = some (.int .i64 47) := (blk_cell BF 2).trans rfl
  have k3 : W9.cell? ⟨F, 3, none⟩ = some (.pointer (some ⟨n, 3, none⟩)) := (blk_cell BF 3).trans rfl
  go_wp2_with fail
  have Ia := I4.below (below_alloc (Below.refl _ W9) (.cells #[.int .i64 24, .int .i64 48, .int .i64 47, .pointer (some ⟨n, 3, none⟩)] 55))
  have BFa := blk_alloc BF (.cells #[.int .i64 24, .int .i64 48, .int .i64 47, .pointer (some ⟨n, 3, none⟩)] 55)
  have BX := blk_new W9 (.cells #[.int .i64 24, .int .i64 48, .int .i64 47, .pointer (some ⟨n, 3, none⟩)] 55)
  clear k0 k1 k2 k3 I4 BF
  have I4 := Ia
  have BF := BFa
  clear Ia BFa
  generalize W9.heap.size = X0 at *
  generalize W9.alloc (.cells #[.int .i64 24, .int .i64 48, .int .i64 47, .pointer (some ⟨n, 3, none⟩)] 55) = Wa0 at *
  have k0 : Wa0.cell? ⟨X0, 0, none⟩ = some (.int .i64 24) := (blk_cell BX 0).trans rfl
  have k3 : Wa0.cell? ⟨X0, 3, none⟩ = some (.pointer (some ⟨n, 3, none⟩)) := (blk_cell BX 3).trans rfl
  have ct : Wa0.cell? ⟨n, 3, none⟩ = some (.string label) := (blk_cell I4.box 3).trans (by rw [hcs.out]; rfl)
  have hcut24 : ∀ W : World, _ := cutV V H 24 (by omega) (by omega)
  rw [show (24 : Int).toNat = 24 from rfl] at hcut24
  go_still_tail 8, (by kernel_rfl)
  clear k0 k3 ct hcut24 BX
  rw [show ({ heap := Wa0.heap, tape := Wa0.tape, drawn := Wa0.drawn + 1, os := Wa0.os, output := Wa0.output } : World) = Wa0.drew from rfl]
  have I4d := I4.drew
  have BFa := blk_drew BF
  clear BF
  have BF := BFa
  clear BFa
  clear I4
  have I4 := I4d
  clear I4d
  generalize Wa0.drew = Wa0d at *
  refine wpList_copy_str rfl (.tmp 44) (.tmp 48) 25 9 rfl Tryd.underlying25 (by kernel_rfl) V 24 (H - 24) (H - 24) label rfl rfl L4 I4.row (by omega) (by rw [I4.len]; omega) ?_
  intro Wb0 Rb Tb
  have I5 := I4.turn Tb Rb (splice_len (by rw [bytesOf_length, I4.len]; omega)) hnW
  have BFb := Tb.blk BF (by omega)
  clear BF
  have BF := BFb
  clear BFb
  obtain ⟨L5, hL5⟩ : ∃ L, Aside0 (L = splice L4 24 (bytesOf label)) := ⟨_, ⟨rfl⟩⟩
  rw [← hL5.out] at I5
  clear Rb Tb I4
  go_wp2_with fail
  rw [rounds_succ]
  have k0 : Wb0.cell? ⟨F, 4, none⟩ = some (.int .i64 168) := (blk_cell BF 4).trans rfl
  have k1 : Wb0.cell? ⟨F, 5, none⟩ = some (.int .i64 40) := (blk_cell BF 5).trans rfl
  have k2 : Wb0.cell? ⟨F, 6, none⟩ = some (.int .i64 39) := (blk_cell BF 6).trans rfl
  have k3 : Wb0.cell? ⟨F, 7, none⟩ = some (.pointer (some ⟨n, 5, none⟩)) := (blk_cell BF 7).trans rfl
  go_wp2_with fail
  have Ia := I5.below (below_alloc (Below.refl _ Wb0) (.cells #[.int .i64 168, .int .i64 40, .int .i64 39, .pointer (some ⟨n, 5, none⟩)] 55))
  have BFa := blk_alloc BF (.cells #[.int .i64 168, .int .i64 40, .int .i64 39, .pointer (some ⟨n, 5, none⟩)] 55)
  have BX := blk_new Wb0 (.cells #[.int .i64 168, .int .i64 40, .int .i64 39, .pointer (some ⟨n, 5, none⟩)] 55)
  clear k0 k1 k2 k3 I5 BF
  have I5 := Ia
  have BF := BFa
  clear Ia BFa
  generalize Wb0.heap.size = X1 at *
  generalize Wb0.alloc (.cells #[.int .i64 168, .int .i64 40, .int .i64 39, .pointer (some ⟨n, 5, none⟩)] 55) = Wa1 at *
  have k0 : Wa1.cell? ⟨X1, 0, none⟩ = some (.int .i64 168) := (blk_cell BX 0).trans rfl
  have k3 : Wa1.cell? ⟨X1, 3, none⟩ = some (.pointer (some ⟨n, 5, none⟩)) := (blk_cell BX 3).trans rfl
  have ct : Wa1.cell? ⟨n, 5, none⟩ = some (.string uuid) := (blk_cell I5.box 5).trans (by rw [hcs.out]; rfl)
  have hcut168 : ∀ W : World, _ := cutV V H 168 (by omega) (by omega)
  rw [show (168 : Int).toNat = 168 from rfl] at hcut168
  go_still_tail 8, (by kernel_rfl)
  clear k0 k3 ct hcut168 BX
  rw [show ({ heap := Wa1.heap, tape := Wa1.tape, drawn := Wa1.drawn + 1, os := Wa1.os, output := Wa1.output } : World) = Wa1.drew from rfl]
  have I5d := I5.drew
  have BFa := blk_drew BF
  clear BF
  have BF := BFa
  clear BFa
  clear I5
  have I5 := I5d
  clear I5d
  generalize Wa1.drew = Wa1d at *
  refine wpList_copy_str rfl (.tmp 44) (.tmp 48) 25 9 rfl Tryd.underlying25 (by kernel_rfl) V 168 (H - 168) (H - 168) uuid rfl rfl L5 I5.row (by omega) (by rw [I5.len]; omega) ?_
  intro Wb1 Rb Tb
  have I6 := I5.turn Tb Rb (splice_len (by rw [bytesOf_length, I5.len]; omega)) hnW
  have BFb := Tb.blk BF (by omega)
  clear BF
  have BF := BFb
  clear BFb
  obtain ⟨L6, hL6⟩ : ∃ L, Aside0 (L = splice L5 168 (bytesOf uuid)) := ⟨_, ⟨rfl⟩⟩
  rw [← hL6.out] at I6
  clear Rb Tb I5
  go_wp2_with fail
  rw [rounds_succ]
  have k0 : Wb1.cell? ⟨F, 8, none⟩ = some (.int .i64 208) := (blk_cell BF 8).trans rfl
  have k1 : Wb1.cell? ⟨F, 9, none⟩ = some (.int .i64 48) := (blk_cell BF 9).trans rfl
  have k2 : Wb1.cell? ⟨F, 10, none⟩ = some (.int .i64 47) := (blk_cell BF 10).trans rfl
  have k3 : Wb1.cell? ⟨F, 11, none⟩ = some (.pointer (some ⟨n, 4, none⟩)) := (blk_cell BF 11).trans rfl
  go_wp2_with fail
  have Ia := I6.below (below_alloc (Below.refl _ Wb1) (.cells #[.int .i64 208, .int .i64 48, .int .i64 47, .pointer (some ⟨n, 4, none⟩)] 55))
  have BFa := blk_alloc BF (.cells #[.int .i64 208, .int .i64 48, .int .i64 47, .pointer (some ⟨n, 4, none⟩)] 55)
  have BX := blk_new Wb1 (.cells #[.int .i64 208, .int .i64 48, .int .i64 47, .pointer (some ⟨n, 4, none⟩)] 55)
  clear k0 k1 k2 k3 I6 BF
  have I6 := Ia
  have BF := BFa
  clear Ia BFa
  generalize Wb1.heap.size = X2 at *
  generalize Wb1.alloc (.cells #[.int .i64 208, .int .i64 48, .int .i64 47, .pointer (some ⟨n, 4, none⟩)] 55) = Wa2 at *
  have k0 : Wa2.cell? ⟨X2, 0, none⟩ = some (.int .i64 208) := (blk_cell BX 0).trans rfl
  have k3 : Wa2.cell? ⟨X2, 3, none⟩ = some (.pointer (some ⟨n, 4, none⟩)) := (blk_cell BX 3).trans rfl
  have ct : Wa2.cell? ⟨n, 4, none⟩ = some (.string sub) := (blk_cell I6.box 4).trans (by rw [hcs.out]; rfl)
  have hcut208 : ∀ W : World, _ := cutV V H 208 (by omega) (by omega)
  rw [show (208 : Int).toNat = 208 from rfl] at hcut208
  go_still_tail 8, (by kernel_rfl)
  clear k0 k3 ct hcut208 BX
  rw [show ({ heap := Wa2.heap, tape := Wa2.tape, drawn := Wa2.drawn + 1, os := Wa2.os, output := Wa2.output } : World) = Wa2.drew from rfl]
  have I6d := I6.drew
  have BFa := blk_drew BF
  clear BF
  have BF := BFa
  clear BFa
  clear I6
  have I6 := I6d
  clear I6d
  generalize Wa2.drew = Wa2d at *
  refine wpList_copy_str rfl (.tmp 44) (.tmp 48) 25 9 rfl Tryd.underlying25 (by kernel_rfl) V 208 (H - 208) (H - 208) sub rfl rfl L6 I6.row (by omega) (by rw [I6.len]; omega) ?_
  intro Wb2 Rb Tb
  have I7 := I6.turn Tb Rb (splice_len (by rw [bytesOf_length, I6.len]; omega)) hnW
  have BFb := Tb.blk BF (by omega)
  clear BF
  have BF := BFb
  clear BFb
  obtain ⟨L7, hL7⟩ : ∃ L, Aside0 (L = splice L6 208 (bytesOf sub)) := ⟨_, ⟨rfl⟩⟩
  rw [← hL7.out] at I7
  clear Rb Tb I6
  go_wp2_with fail
  rw [rounds_succ]
  have hcut72 : ∀ W : World, _ := cutV V H 72 (by omega) (by omega)
  rw [show (72 : Int).toNat = 72 from rfl] at hcut72
  go_wp2_with (first | ((with_reducible refine gate_builtin (b := .copy) (xs := #[.tmp 52, .const (.string { data := #[115, 104, 97, 50, 53, 54] })]) rfl ?_); refine wpList_copy_str rfl (.tmp 52) (.const (.string alg)) 25 9 rfl Tryd.underlying25 (by kernel_rfl) V 72 (H - 72) (H - 72) alg rfl rfl L7 I7.row (by rw [alg_size]; omega) (by rw [alg_size, I7.len]; omega) ?_; intro Wc Rc Tc; have I8 := I7.turn Tc Rc (splice_len (by rw [bytesOf_length, alg_size, I7.len]; omega)) hnW) | fail)
  obtain ⟨L8, hL8⟩ : ∃ L, Aside0 (L = splice L7 72 (bytesOf alg)) := ⟨_, ⟨rfl⟩⟩
  rw [← hL8.out] at I8
  clear Rc Tc I7 hcut72 BF
  have c6 : Wc.cell? ⟨n, 6, none⟩ = some (.string salt) := (blk_cell I8.box 6).trans (by rw [hcs.out]; rfl)
  have hcut104 : ∀ W : World, _ := cutV V H 104 (by omega) (by omega)
  rw [show (104 : Int).toNat = 104 from rfl] at hcut104
  go_still_tail 4, (by kernel_rfl)
  clear c6 hcut104
  rw [show ({ heap := Wc.heap, tape := Wc.tape, drawn := Wc.drawn + 1, os := Wc.os, output := Wc.output } : World) = Wc.drew from rfl]
  have I8d := I8.drew
  clear I8
  have I8 := I8d
  clear I8d
  generalize Wc.drew = Wcd at *
  refine wpList_copy_str rfl (.tmp 55) (.tmp 57) 25 9 rfl Tryd.underlying25 (by kernel_rfl) V 104 (H - 104) (H - 104) salt rfl rfl L8 I8.row (by rw [z4A.out]; omega) (by rw [z4A.out, I8.len]; omega) ?_
  intro We Re Te
  have I9 := I8.turn Te Re (splice_len (by rw [bytesOf_length, z4A.out, I8.len]; omega)) hnW
  obtain ⟨L9, hL9⟩ : ∃ L, Aside0 (L = splice L8 104 (bytesOf salt)) := ⟨_, ⟨rfl⟩⟩
  rw [← hL9.out] at I9
  clear Re Te I8
  go_wp2_with fail
  have hcut256 : ∀ W : World, _ := cutV V H 256 (by omega) (by omega)
  rw [show (256 : Int).toNat = 256 from rfl] at hcut256
  have hwb : IntKind.u64.wrap (beginOf sec H) = beginOf sec H := by rw [IntKind.wrap_u64]; omega
  refine wp_region_held_drew (S := fun w' => w'.heap[n]? = some (.cells cs 24 (0, 0))) (by kernel_rfl) I9.box (fun hHeld => ?_)
  refine wpAnyH_take (i := 0) (v := .slice (some ⟨V, 0, none⟩) H H) rfl (by kernel_rfl) (by kernel_rfl) (by kernel_rfl) (fun _ _ _ h => h) (Or.inl ⟨by rfl, by intro w hSw; go_simp⟩) (by assumption) ?_
  simp only [Act.put, List.setIfInBounds_toArray, List.set_cons_zero, List.set_cons_succ]
  refine wpAnyH_take (i := 1) (v := .slice (some ⟨V, 256, none⟩) (H - 256) (H - 256)) rfl (by kernel_rfl) (by kernel_rfl) (by kernel_rfl) (fun _ _ _ h => h) (Or.inl ⟨by rfl, by intro w hSw; go_simp⟩) (by assumption) ?_
  simp only [Act.put, List.setIfInBounds_toArray, List.set_cons_zero, List.set_cons_succ]
  refine wpAnyH_take (i := 2) (v := .agg cs) rfl (by kernel_rfl) (by kernel_rfl) (by kernel_rfl) (fun _ _ _ h => h) (b58.yieldsIf_load_row (by rfl) 24 (.tmp 1) rfl n rfl 24 cs (0, 0) _ (fun _ h => h) Tryd.underlying24 rfl (by rw [hsz]; kernel_rfl)) (by assumption) ?_
  simp only [Act.put, List.setIfInBounds_toArray, List.set_cons_zero, List.set_cons_succ]
  refine wpAnyH_ready (rs := [3]) (by kernel_rfl) (by simp) ?_
  refine AllReadyH.cons rfl (fun K hK => ?_) AllReadyH.nil
  go_simp
  refine (hbegA.out _).mono ?_
  rintro e Wf ⟨rfl, hbf⟩
  have I9b := I9.drew.below hbf
  clear I9
  have I9 := I9b
  clear I9b hbf
  refine hK.out _ _ I9.box (fun hHeld => ?_)
  clear hK K
  refine wpAnyH_take (i := 4) (v := .int .u64 (beginOf sec H)) rfl (by kernel_rfl) (by kernel_rfl) (by kernel_rfl) (fun _ _ _ h => h) (Or.inl ⟨by rfl, by intro w hSw; go_simp⟩) (by assumption) ?_
  simp only [Act.put, List.setIfInBounds_toArray, List.set_cons_zero, List.set_cons_succ]
  refine wpAnyH_ready (rs := [5]) (by kernel_rfl) (by simp) ?_
  refine AllReadyH.cons rfl (fun K hK => ?_) AllReadyH.nil
  go_simp
  refine (put8_call Wf V 256 (H - 256) (H - 256) L9 I9.row (by omega) (by omega) (by rw [I9.len]; omega) (beginOf sec H) hbo0 (by omega)).mono ?_
  rintro e Wg ⟨⟨vg, rfl⟩, Rg, Tg⟩
  have I10 := I9.turn Tg Rg (splice_len (by rw [be_len, I9.len]; omega)) hnW
  refine hK.out _ _ I10.box (fun hHeld => ?_)
  clear hK K hHeld hwb hcut256
  obtain ⟨L10, hL10⟩ : ∃ L, Aside0 (L = splice L9 256 (be 8 (beginOf sec H))) := ⟨_, ⟨rfl⟩⟩
  rw [← hL10.out] at I10
  clear Rg Tg I9
  refine wpAnyH_done (by kernel_rfl) ?_ _
  have c7 : Wg.cell? ⟨n, 7, none⟩ = some (.string text) := (blk_cell I10.box 7).trans (by rw [hcs.out]; rfl)
  have hcut4096 : ∀ W : World, _ := cutV V H 4096 (by omega) (by omega)
  rw [show (4096 : Int).toNat = 4096 from rfl] at hcut4096
  go_wp2_with fail
  go_still_tail 4, (by kernel_rfl)
  clear c7 hcut4096
  rw [show ({ heap := Wg.heap, tape := Wg.tape, drawn := Wg.drawn + 1, os := Wg.os, output := Wg.output } : World) = Wg.drew from rfl]
  have I10d := I10.drew
  clear I10
  have I10 := I10d
  clear I10d
  generalize Wg.drew = Wgd at *
  refine wpList_copy_str rfl (.tmp 66) (.tmp 68) 25 9 rfl Tryd.underlying25 (by kernel_rfl) V 4096 (H - 4096) (H - 4096) text rfl rfl L10 I10.row (by omega) (by rw [I10.len]; omega) ?_
  intro Wh Rh Th
  have I11 := I10.turn Th Rh (splice_len (by rw [bytesOf_length, I10.len]; omega)) hnW
  obtain ⟨L11, hL11⟩ : ∃ L, Aside0 (L = splice L10 4096 (bytesOf text)) := ⟨_, ⟨rfl⟩⟩
  rw [← hL11.out] at I11
  clear Rh Th I10
  go_wp2_with fail
  have hPA : Aside0 (L11 = packA sec H seq label sub uuid salt text) := ⟨by
    rw [hL11.out, hL10.out, hL9.out, hL8.out, hL7.out, hL6.out, hL5.out, hL4.out, hL3.out, hL2.out, hL1.out, hL0.out]
    unfold packA
    rw [Int.toNat_natCast]⟩
  clear hL11 hL10 hL9 hL8 hL7 hL6 hL5 hL4 hL3 hL2 hL1 hL0
  obtain ⟨M, hM⟩ : ∃ M, Aside0 (H = 64 * M) := ⟨H / 64, ⟨by have := b3A.out; omega⟩⟩
  have hcut448 : ∀ W : World, _ := cutV V H 448 (by omega) (by omega)
  rw [show (448 : Int).toNat = 448 from rfl] at hcut448
  simp only [Act.put, List.setIfInBounds_toArray, List.set_cons_zero, List.set_cons_succ]
  refine wp_region_held_drew (S := fun w' => True) (by kernel_rfl) trivial (fun hHeld => ?_)
  refine wpAnyH_take (i := 0) (v := .slice (some ⟨V, 0, none⟩) H H) rfl (by kernel_rfl) (by kernel_rfl) (by kernel_rfl) (fun _ _ _ h => h) (Or.inl ⟨by rfl, by intro w hSw; go_simp⟩) (by assumption) ?_
  simp only [Act.put, List.setIfInBounds_toArray, List.set_cons_zero, List.set_cons_succ]
  refine wpAnyH_take (i := 1) (v := .slice (some ⟨V, 448, none⟩) (H - 448) (H - 448)) rfl (by kernel_rfl) (by kernel_rfl) (by kernel_rfl) (fun _ _ _ h => h) (Or.inl ⟨by rfl, by intro w hSw; go_simp⟩) (by assumption) ?_
  simp only [Act.put, List.setIfInBounds_toArray, List.set_cons_zero, List.set_cons_succ]
  refine wpAnyH_take (i := 2) (v := .slice (some ⟨V, 0, none⟩) H H) rfl (by kernel_rfl) (by kernel_rfl) (by kernel_rfl) (fun _ _ _ h => h) (Or.inl ⟨by rfl, by intro w hSw; go_simp⟩) (by assumption) ?_
  simp only [Act.put, List.setIfInBounds_toArray, List.set_cons_zero, List.set_cons_succ]
  refine wpAnyH_ready (rs := [3]) (by kernel_rfl) (by simp) ?_
  refine AllReadyH.cons rfl (fun K hK => ?_) AllReadyH.nil
  go_simp
  have hsum := sumOf_call kf x Wh.drew (HTA.out.below (by rw [HN.out]; exact I11.drew.bel)) ⟨V, 0, none⟩ H L11 (by rw [I11.len]; exact Nat.le_refl _) (row_C I11.drew.row (by rw [I11.len]; omega)) M (by rw [I11.len, hM.out]) (by rw [I11.len]; omega) (by rw [I11.len]; omega) (by rw [hPA.out]; exact packA_rng _ _ _ _ _ _ _ _)
  rw [I11.len] at hsum
  refine hsum.mono ?_
  rintro e Wj ⟨ad, cd, rfl, hd1, hd2, hd3, hbj⟩
  have I12 := I11.drew.below hbj
  have hVd : V ≠ ad.block := by have := blk_lt I11.drew.row; omega
  clear hsum I11 hbj
  obtain ⟨D, hD⟩ : ∃ D, Aside0 (D = dig (taken kf (upto kf x (hole L11) M) (padOf (64 * (M : Int) * 8)))) := ⟨_, ⟨rfl⟩⟩
  rw [← hD.out] at hd3
  have hDl : Aside0 (D.length = 32) := ⟨by rw [hD.out]; exact digTo_len _ 8⟩
  refine hK.out _ _ trivial (fun hHeld => ?_)
  clear hK K
  refine wpAnyH_ready (rs := [4]) (by kernel_rfl) (by simp) ?_
  refine AllReadyH.cons rfl (fun K hK => ?_) AllReadyH.nil
  refine step_copy_bytes rfl (.tmp 71) (.tmp 73) 25 25 rfl Tryd.underlying25 (by kernel_rfl) V 448 (H - 448) (H - 448) ad cd D rfl (by rw [hDl.out]; rfl) L11 I12.row (by rw [hDl.out]; omega) (by rw [hDl.out, I12.len]; omega) (by rw [hDl.out]; exact hd3) ?_
  intro Wk Rk Tk
  have I13 := I12.turn Tk Rk (splice_len (by rw [hDl.out, I12.len]; omega)) hnW
  have hl11 : Aside0 (L11.length = H) := ⟨I12.len⟩
  clear I12 Rk Tk hd3
  refine hK.out _ _ trivial (fun hHeld => ?_)
  clear hK K
  refine wpAnyH_done (by kernel_rfl) ?_ _
  simp only [List.getElem_toArray, List.getElem_cons_zero, List.getElem_cons_succ, Act.put, List.setIfInBounds_toArray, List.set_cons_zero, List.set_cons_succ]
  go_wp2
  go_ret2
  refine ⟨V, rfl, by rw [HN.out]; omega, ?_, by rw [HN.out]; exact I13.bel⟩
  have hhl : (hole L11).length = 64 * M := by
    unfold hole
    rw [List.length_append, List.length_append, List.length_take, List.length_replicate, List.length_drop, hl11.out, ← hM.out]
    omega
  have e : D = shaOf kf x (hole (packA sec H seq label sub uuid salt text)) := by
    rw [hD.out, ← hPA.out]
    unfold shaOf
    rw [hhl, show 64 * M / 64 = M by omega]
    congr 2
  rw [← hPA.out] at e ⊢
  rw [← e]
  exact I13.row
end Go.Proofs.YtglcapkmeecknaaDoor.k07
