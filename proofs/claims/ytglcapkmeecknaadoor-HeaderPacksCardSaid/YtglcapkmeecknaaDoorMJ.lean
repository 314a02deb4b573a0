/- What the reference lays behind the bytes that it digests. cofferref08.Sum: the reference's digest of a copy's bytes. (Written by gen12.py.) (Merged by merge.py.) -/
import Derived.Test.YtglcapkmeecknaaDoorMG
import Derived.Test.YtglcapkmeecknaaDoorMF
import Derived.Test.YtglcapkmeecknaaDoorPHeaderPacksx1
import Derived.Test.YtglcapkmeecknaaDoorMN
/-! ## Laid -/
namespace Go.Proofs.YtglcapkmeecknaaDoor.laidp
open Go Go.RowKit Go.Proofs.YtglcapkmeecknaaDoor.PHeaderPacks Go.Proofs.YtglcapkmeecknaaDoor.mem Go.Proofs.YtglcapkmeecknaaDoor.p24 Go.Proofs.YtglcapkmeecknaaDoor.e61 Go.Proofs.YtglcapkmeecknaaDoorW.PrintWords Go.Proofs.YtglcapkmeecknaaDoorW.PrintMore
set_option linter.unusedVariables false
def zs (n : Nat) : Nat := (119 - n % 64) % 64
def laidOf (b : List Int) : List Int := b ++ (128 :: List.replicate (zs b.length) 0) ++ be 8 (b.length * 8)
theorem wrap_small {n : Int} (h0 : 0 ≤ n) (h1 : n < 9223372036854775808) : wrap64 n = n := by unfold wrap64; omega
theorem l1_step (k : Nat) (p : List Int) (bits : Int) (i : Nat) (hi : i < 8) (hp : p.length < 140737488355328) :
    cofferref01_laid.l1 (k + 1) p bits (i : Int) = cofferref01_laid.l1 k (p ++ [bits / (2 : Int) ^ (8 * i) % 256]) bits ((i : Int) - 1) := by
  have e1 : wrap64 (8 * (i : Int)) = 8 * (i : Int) := wrap_small (by omega) (by omega)
  have e2 : IntKind.u64.wrap (8 * (i : Int)) = 8 * (i : Int) := by rw [IntKind.wrap_u64]; omega
  have e3 : wrap64 ((i : Int) - 1) = (i : Int) - 1 := by unfold wrap64; omega
  have e4 : shr .u64 bits (8 * (i : Int)) = bits / (2 : Int) ^ (8 * i) := by
    unfold shr
    rw [show (8 * (i : Int)).toNat = 8 * i by omega, Nat.min_eq_left (by show 8 * i ≤ 64; omega)]
  simp only [cofferref01_laid.l1]
  rw [if_pos (by omega), if_neg (by omega), e1, e2, if_pos (by omega), if_pos hp, e3, e4]
theorem l1_go (k : Nat) (p : List Int) (bits : Int) (hp : p.length < 140737488355320) : cofferref01_laid.l1 (k + 9) p bits 7 = some (p ++ be 8 bits) := by
  have key : ∀ (j : Nat), j ≤ 8 → cofferref01_laid.l1 (k + 9) p bits 7 = cofferref01_laid.l1 (k + 9 - j) (p ++ (be 8 bits).take j) bits (7 - (j : Int)) := by
    intro j
    induction j with
    | zero => intro _; simp
    | succ j ih =>
      intro hj
      rw [ih (by omega)]
      have hk : k + 9 - j = (k + 9 - (j + 1)) + 1 := by omega
      have ei : (7 : Int) - (j : Int) = ((7 - j : Nat) : Int) := by omega
      have hl : ((be 8 bits).take j).length = j := by rw [List.length_take, be_len]; omega
      rw [hk, ei, l1_step _ _ _ _ (by omega) (by rw [List.length_append, hl]; omega), be_take 8 bits j (by omega), List.append_assoc]
      rw [show 8 - 1 - j = 7 - j by omega]
      congr 1
      omega
  rw [key 8 (by omega), List.take_of_length_le (by rw [be_len]; omega)]
  obtain ⟨m, hm⟩ : ∃ m, k + 9 - 8 = m + 1 := ⟨k, by omega⟩
  rw [hm]
  simp only [cofferref01_laid.l1]
  rw [if_neg (by omega)]
theorem l0_go (b : List Int) (hb : b.length < 70368744177664) : ∀ (d k j : Nat), zs b.length - j = d → j ≤ zs b.length → d + 10 < k →
    cofferref01_laid.l0 k b 64 (b ++ (128 :: List.replicate j 0)) = some (laidOf b)
  | 0, k, j, hd, hj, hk => by
    obtain ⟨k, rfl⟩ : ∃ m, k = m + 1 := ⟨k - 1, by omega⟩
    obtain ⟨k, rfl⟩ : ∃ m, k = m + 9 := ⟨k - 9, by omega⟩
    have ej : j = zs b.length := by omega
    subst ej
    have hl : (b ++ (128 :: List.replicate (zs b.length) (0 : Int))).length = b.length + 1 + zs b.length := by simp; omega
    have e8 : wrap64 (Int.tdiv 64 8) = 8 := by rw [show Int.tdiv 64 8 = 8 by decide]; exact wrap_small (by omega) (by omega)
    have et : Int.tmod (wrap64 (((b.length + 1 + zs b.length : Nat) : Int) + 8)) 64 = 0 := by
      rw [wrap_small (by omega) (by unfold zs; omega), Int.tmod_eq_emod_of_nonneg (by omega)]
      unfold zs
      omega
    have eb : IntKind.u64.wrap (IntKind.u64.wrap (b.length : Int) * 8) = (b.length : Int) * 8 := by
      rw [IntKind.wrap_u64, IntKind.wrap_u64]; omega
    have e7 : wrap64 (8 - 1) = 7 := by rw [show (8 : Int) - 1 = 7 by omega]; exact wrap_small (by omega) (by omega)
    simp only [cofferref01_laid.l0]
    rw [if_neg (by omega), hl, e8, if_pos et, eb, e7, l1_go _ _ _ (by rw [hl]; unfold zs; omega)]
    rfl
  | d + 1, k, j, hd, hj, hk => by
    obtain ⟨k, rfl⟩ : ∃ m, k = m + 1 := ⟨k - 1, by omega⟩
    have hl : (b ++ (128 :: List.replicate j (0 : Int))).length = b.length + 1 + j := by simp; omega
    have e8 : wrap64 (Int.tdiv 64 8) = 8 := by rw [show Int.tdiv 64 8 = 8 by decide]; exact wrap_small (by omega) (by omega)
    have et : ¬ Int.tmod (wrap64 (((b.length + 1 + j : Nat) : Int) + 8)) 64 = 0 := by
      unfold zs at hd hj
      rw [wrap_small (by omega) (by omega), Int.tmod_eq_emod_of_nonneg (by omega)]
      omega
    simp only [cofferref01_laid.l0]
    rw [if_neg (by omega), hl, e8, if_neg et, if_pos (by unfold zs at hj; omega)]
    have ea : b ++ (128 :: List.replicate j (0 : Int)) ++ [0] = b ++ (128 :: List.replicate (j + 1) 0) := by
      rw [List.append_assoc, List.cons_append, List.replicate_succ']
    rw [ea]
    exact l0_go b hb d k (j + 1) (by omega) (by omega) (by omega)
theorem laid_ref (b : List Int) (hb : b.length < 70368744177664) : cofferref01_laid.f 80 b 64 = some (laidOf b) := by
  unfold cofferref01_laid.f
  rw [if_pos (by simp; omega)]
  simp only [List.nil_append, Option.bind_some]
  rw [if_pos (by omega)]
  have hz : zs b.length < 64 := by unfold zs; omega
  exact l0_go b hb (zs b.length) 80 0 (by omega) (by omega) (by omega)
theorem laid_len (b : List Int) : (laidOf b).length = b.length + 9 + zs b.length := by
  unfold laidOf
  simp [be_len]
  omega
theorem laid_mod (b : List Int) : ∃ m, (laidOf b).length = 64 * m ∧ m ≤ b.length / 64 + 2 := by
  refine ⟨(b.length + 9 + zs b.length) / 64, ?_, ?_⟩
  · rw [laid_len]; unfold zs; omega
  · unfold zs; omega
theorem laid_rng (b : List Int) (h : ∀ x ∈ b, 0 ≤ x ∧ x < 256) : ∀ x ∈ laidOf b, 0 ≤ x ∧ x < 256 := by
  intro x hx
  unfold laidOf at hx
  rcases List.mem_append.1 hx with a | a
  · rcases List.mem_append.1 a with c | c
    · exact h x c
    · rcases List.mem_cons.1 c with rfl | c
      · omega
      · rw [List.eq_of_mem_replicate c]; omega
  · unfold be at a
    obtain ⟨i, _, rfl⟩ := List.mem_map.1 a
    omega
theorem padOf_eq (bits : Int) : (128 :: List.replicate 55 0) ++ be 8 bits = padOf bits := by
  apply List.ext_getElem?
  intro q
  unfold padOf
  rw [List.getElem?_map]
  rcases Nat.lt_or_ge q 64 with hq | hq
  · rw [List.getElem?_range hq]
    show _ = some (padAt bits 8 q)
    unfold padAt
    by_cases h0 : q = 0
    · subst h0; simp
    · rw [if_neg h0]
      by_cases h1 : q < 56
      · rw [List.getElem?_append_left (by simp; omega), if_neg (by omega)]
        obtain ⟨q', rfl⟩ : ∃ q', q = q' + 1 := ⟨q - 1, by omega⟩
        rw [List.getElem?_cons_succ, List.getElem?_replicate, if_pos (by omega)]
      · rw [List.getElem?_append_right (by simp; omega), if_pos (by omega)]
        have hl : (128 :: List.replicate 55 (0 : Int)).length = 56 := by simp
        rw [hl]
        unfold be
        rw [List.getElem?_map, List.getElem?_range (by omega)]
        show some (bits / (2 : Int) ^ (8 * (8 - 1 - (q - 56))) % 256) = some _
        rw [show 8 - 1 - (q - 56) = 63 - q by omega]
  · rw [List.getElem?_eq_none (by simp [be_len]; omega), List.getElem?_eq_none (by simp; omega)]
    rfl
theorem laid_mult (b : List Int) (M : Nat) (hM : b.length = 64 * M) : laidOf b = b ++ padOf (64 * (M : Int) * 8) := by
  unfold laidOf
  have hz : zs b.length = 55 := by unfold zs; omega
  rw [hz, List.append_assoc, padOf_eq, hM]
  congr 2
end Go.Proofs.YtglcapkmeecknaaDoor.laidp
/-! ## R12 -/
namespace Go.Proofs.YtglcapkmeecknaaDoor.r12
open Go Go.RowKit Go.Proofs.YtglcapkmeecknaaDoor.PHeaderPacks Go.Proofs.YtglcapkmeecknaaDoor.sha Go.Proofs.YtglcapkmeecknaaDoor.mem Go.Proofs.YtglcapkmeecknaaDoor.s28 Go.Proofs.YtglcapkmeecknaaDoor.laidp Go.Proofs.YtglcapkmeecknaaDoor.h27 Go.Proofs.YtglcapkmeecknaaDoor.e61 Go.Proofs.YtglcapkmeecknaaDoorW.PrintWords Go.Proofs.YtglcapkmeecknaaDoorW.PrintLast Go.Proofs.YtglcapkmeecknaaDoorW.PrintMore
set_option linter.unusedVariables false
set_option linter.unusedSimpArgs false
/-- The digest of any bytes. -/
def rsha (kf : Nat → BitVec 32) (x : St) (h : List Int) : List Int := dig (upto kf x (laidOf h) ((laidOf h).length / 64))
theorem rsha_mult (kf : Nat → BitVec 32) (x : St) (h : List Int) (M : Nat) (hM : h.length = 64 * M) : rsha kf x h = dig (taken kf (upto kf x h M) (padOf (64 * (M : Int) * 8))) := by
  unfold rsha
  rw [laid_mult h M hM]
  have hl : (h ++ padOf (64 * (M : Int) * 8)).length / 64 = M + 1 := by rw [List.length_append, padOf_len, hM]; omega
  rw [hl]
  show dig (taken kf (upto kf x (h ++ padOf (64 * (M : Int) * 8)) M) (((h ++ padOf (64 * (M : Int) * 8)).take (64 * M + 64)).drop (64 * M))) = _
  rw [upto_left kf x h _ M hM M (Nat.le_refl _)]
  congr 2
  rw [List.take_of_length_le (by rw [List.length_append, padOf_len, hM]; omega), ← hM, List.drop_left]
theorem hole_len (b : List Int) (h : 512 ≤ b.length) : (hole b).length = b.length := by
  unfold hole
  rw [List.length_append, List.length_append, List.length_take, List.length_replicate, List.length_drop]
  omega
theorem hole_get (b : List Int) (h : 512 ≤ b.length) (i : Nat) : (hole b)[i]? = if i < 448 then b[i]? else if i < 512 then some 0 else b[i]? := by
  unfold hole
  have hl : (b.take 448).length = 448 := by rw [List.length_take]; omega
  by_cases h1 : i < 448
  · rw [if_pos h1, List.getElem?_append_left (by omega), List.getElem?_take, if_pos h1]
  · rw [if_neg h1, List.getElem?_append_right (by omega), hl]
    by_cases h2 : i < 512
    · rw [if_pos h2, List.getElem?_append_left (show i - 448 < (List.replicate 64 (0 : Int)).length by rw [List.length_replicate]; omega), List.getElem?_replicate, if_pos (show i - 448 < 64 by omega)]
    · rw [if_neg h2, List.getElem?_append_right (show (List.replicate 64 (0 : Int)).length ≤ i - 448 by rw [List.length_replicate]; omega), List.length_replicate, List.getElem?_drop, show 512 + (i - 448 - 64) = i by omega]
theorem hole_rng (b : List Int) (h : ∀ x ∈ b, 0 ≤ x ∧ x < 256) : ∀ x ∈ hole b, 0 ≤ x ∧ x < 256 := by
  intro x hx
  unfold hole at hx
  rcases List.mem_append.1 hx with a | a
  · exact h x (List.mem_of_mem_take a)
  · rcases List.mem_append.1 a with c | c
    · rw [List.eq_of_mem_replicate c]; omega
    · exact h x (List.mem_of_mem_drop c)
theorem part_set (l : List Int) (n i : Nat) (hi : i < n) (hl : l.length = n) (x : Int) (hx : l[i]? = some x) : (l.take i ++ List.replicate (n - i) 0).set i x = l.take (i + 1) ++ List.replicate (n - (i + 1)) 0 := by
  have hti : (l.take i).length = i := by rw [List.length_take]; omega
  rw [List.set_append_right _ _ (by omega), hti, Nat.sub_self, show n - i = (n - (i + 1)) + 1 by omega, List.replicate_succ, List.set_cons_zero]
  rw [List.take_succ_eq_append_getElem (by omega), List.append_assoc]
  congr 1
  rw [List.getElem?_eq_getElem (by omega)] at hx
  rw [Option.some.inj hx]
  rfl
theorem part_zero (l : List Int) (n i : Nat) (hi : i < n) (hl : l.length = n) (hx : l[i]? = some 0) : l.take i ++ List.replicate (n - i) 0 = l.take (i + 1) ++ List.replicate (n - (i + 1)) 0 := by
  rw [← part_set l n i hi hl 0 hx]
  have hti : (l.take i).length = i := by rw [List.length_take]; omega
  rw [List.set_append_right _ _ (by omega), hti, Nat.sub_self, show n - i = (n - (i + 1)) + 1 by omega, List.replicate_succ, List.set_cons_zero]
set_option maxHeartbeats 2000000 in
set_option maxRecDepth 100000 in
theorem rsum_call (kf : Nat → BitVec 32) (x : St) (w : World) (ht : RefTab kf x w) (ad : Addr) (c : Nat) (b : List Int) (hlc : b.length ≤ c) (hC : Kd.C (Kd.int .u8) w (some ad) b.length b) (h1 : 512 ≤ b.length) (h2 : b.length ≤ 1099511627776) (hrng : ∀ x ∈ b, 0 ≤ x ∧ x < 256) :
    Calls Tryd.prog 12 #[.slice (some ad) b.length c] w fun e w' => ∃ v, e = .returned v ∧ Kd.R (Kd.int .u8) 5 w' w.heap.size (fun _ => True) v (rsha kf x (hole b)) ∧ Below w.heap.size w w' := by
  have hmk : ∀ W : World, _ := print_make_int (P := Tryd.prog) 25 5 (.int .u8 0) 1 Tryd.underlying25 n78.info5 rfl (by decide) (b.length : Int) (by omega) (by omega)
  rw [made_nums, Int.toNat_natCast] at hmk
  have hhl := Aside0.mk (hole_len b h1)
  obtain ⟨L0, hL0⟩ : ∃ L0, Aside0 (L0 = List.replicate b.length (0 : Int)) := ⟨_, ⟨rfl⟩⟩
  rw [← hL0.out] at hmk
  go_enter Tryd.func12, Tryd.ntmps12
  go_wp2
  have R0 : Row (w.alloc (.cells (nums .u8 L0).toArray 5)) w.heap.size L0 := blk_new w _
  have HB0 : Below w.heap.size w (w.alloc (.cells (nums .u8 L0).toArray 5)) := below_alloc (Below.refl _ w) _
  have SZ0 : (w.alloc (.cells (nums .u8 L0).toArray 5)).heap.size = w.heap.size + 1 := by simp
  generalize hn : w.heap.size = n at *
  have HN := Aside0.mk hn
  clear hn hmk
  generalize w.alloc (.cells (nums .u8 L0).toArray 5) = W1 at *
  go_loopw [4] (fun v4 wr => ∃ i : Nat, i ≤ b.length ∧ v4 = .int .i64 i ∧ Row wr n ((hole b).take i ++ List.replicate (b.length - i) 0) ∧ Turn n W1 wr) (fun v4 _ => b.length - (intOf v4).toNat)
  case atStart => exact ⟨0, by omega, rfl, by rw [List.take_zero, List.nil_append, Nat.sub_zero, ← hL0.out]; exact R0, Turn.refl _ _⟩
  case round =>
    obtain ⟨i, hi, rfl, HR, hT⟩ := hrel
    have HB : Below n w wr := Turn.below HB0 hT (Nat.le_refl _) (by omega)
    rcases Nat.lt_or_ge i b.length with hil | hil
    · have hlt : decide ((i : Int) < (b.length : Int)) = true := by simp; omega
      have i0 : (0 : Int) ≤ (i : Int) := by omega
      have i1 : (i : Int) < (b.length : Int) := by omega
      obtain ⟨ad', ea, hc⟩ := Kd.at_int (Kd.C_below hC (by rw [HN.out]; exact HB)) (i : Int) i0 (by omega)
      cases ea
      rw [Int.toNat_natCast] at hc
      have hrd : b[i]? = some (rd b (i : Int)) := by simp [rd, hil]
      have hrdA := Aside0.mk hrd
      have w3 : wr.cell? ⟨n, i, none⟩ = some (.int .u8 (((hole b).take i ++ List.replicate (b.length - i) 0).getD i 0)) := row_at HR i (by rw [List.length_append, List.length_take, List.length_replicate, hhl.out]; omega)
      have f3 : wr.frozen? ⟨n, i, none⟩ = false := blk_frozen HR i
      have hhg := Aside0.mk (hole_get b h1 i)
      clear hrd
      generalize rd b (i : Int) = y at *
      by_cases a1 : i < 448
      · have d1 : decide ((i : Int) < 448) = true := by simp; omega
        go_wp2
        refine ⟨⟨i + 1, by omega, by go_num, ?_, hT.setCell _ _⟩, by simp [intOf]; omega⟩
        rw [← part_set (hole b) b.length i hil hhl.out y (by rw [hhg.out, if_pos a1, hrdA.out])]
        exact row_set HR i y
      · have d1 : decide ((i : Int) < 448) = false := by simp; omega
        by_cases a2 : i < 512
        · have d2 : decide ((i : Int) ≥ 512) = false := by simp; omega
          go_wp2
          refine ⟨⟨i + 1, by omega, by go_num, ?_, hT⟩, by simp [intOf]; omega⟩
          rw [← part_zero (hole b) b.length i hil hhl.out (by rw [hhg.out, if_neg a1, if_pos a2])]
          exact HR
        · have d2 : decide ((i : Int) ≥ 512) = true := by simp; omega
          go_wp2
          refine ⟨⟨i + 1, by omega, by go_num, ?_, hT.setCell _ _⟩, by simp [intOf]; omega⟩
          rw [← part_set (hole b) b.length i hil hhl.out y (by rw [hhg.out, if_neg a1, if_neg a2, hrdA.out])]
          exact row_set HR i y
    · obtain rfl : i = b.length := by omega
      have hlt : decide ((b.length : Int) < (b.length : Int)) = false := by simp
      rw [Nat.sub_self, List.replicate_zero, List.append_nil, List.take_of_length_le (by rw [hhl.out]; omega)] at HR
      obtain ⟨m, hm1, hm2⟩ := laid_mod (hole b)
      have hcall := sum_call kf x (some ⟨n, 0, none⟩) b.length (hole b) (by rw [hhl.out]; exact Nat.le_refl _) 80 (laidOf (hole b)) (laid_ref _ (by rw [hhl.out]; omega)) m hm1 (by rw [hhl.out] at hm2; omega) (laid_rng _ (hole_rng b hrng)) wr (row_C HR (by rw [hhl.out]; omega)) (ht.below (by rw [HN.out]; exact HB))
      have hmm : (laidOf (hole b)).length / 64 = m := by rw [hm1]; omega
      rw [← hmm, hhl.out] at hcall
      clear hm1 hm2 hmm
      go_wp2_with fail
      refine hcall.mono ?_
      rintro e W2 ⟨v, rfl, hR, hb2⟩
      go_wp2
      go_ret
      exact ⟨v, rfl, Kd.R_lower hR HB.size, by rw [HN.out]; exact HB.trans (hb2.mono (by rw [← HN.out]; exact HB.size))⟩
end Go.Proofs.YtglcapkmeecknaaDoor.r12
