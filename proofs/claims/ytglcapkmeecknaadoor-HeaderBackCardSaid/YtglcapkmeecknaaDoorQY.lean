/- Plain laws on a copy's bytes: its segments; what is packed is unpacked as it was, what is unpacked is packed as it was. The walk of the law HeaderBack. (Merged by merge.py.) -/
import Derived.Test.YtglcapkmeecknaaDoorQK
import Derived.Test.YtglcapkmeecknaaDoorQU
import Derived.Test.YtglcapkmeecknaaDoorQE
import Derived.Test.YtglcapkmeecknaaDoorWGuard
/-! ## BackP -/
namespace Go.Proofs.YtglcapkmeecknaaDoor.back
open Go Go.RowKit Go.Proofs.YtglcapkmeecknaaDoor.PHeaderPacks Go.Proofs.YtglcapkmeecknaaDoor.sha Go.Proofs.YtglcapkmeecknaaDoor.mem Go.Proofs.YtglcapkmeecknaaDoor.headp Go.Proofs.YtglcapkmeecknaaDoor.m22 Go.Proofs.YtglcapkmeecknaaDoor.p24 Go.Proofs.YtglcapkmeecknaaDoor.h27 Go.Proofs.YtglcapkmeecknaaDoor.r12 Go.Proofs.YtglcapkmeecknaaDoor.s28 Go.Proofs.YtglcapkmeecknaaDoor.k07 Go.Proofs.YtglcapkmeecknaaDoor.r06 Go.Proofs.YtglcapkmeecknaaDoor.d40 Go.Proofs.YtglcapkmeecknaaDoor.packeq Go.Proofs.YtglcapkmeecknaaDoor.tk Go.Proofs.YtglcapkmeecknaaDoor.g31 Go.Proofs.YtglcapkmeecknaaDoor.g36 Go.Proofs.YtglcapkmeecknaaDoor.f29 Go.Proofs.YtglcapkmeecknaaDoor.u13 Go.Proofs.YtglcapkmeecknaaDoorW.PrintWords Go.Proofs.YtglcapkmeecknaaDoorW.PrintMore
set_option linter.unusedVariables false
set_option linter.unusedSimpArgs false
def S (L : List Int) (a n : Nat) : List Int := (L.drop a).take n
theorem S_get (L : List Int) (a n q : Nat) : (S L a n)[q]? = if q < n then L[a + q]? else none := by
  unfold S
  rw [List.getElem?_take, List.getElem?_drop]
theorem S_out {L xs : List Int} {o a n : Nat} (h : o + xs.length ≤ L.length) (hd : a + n ≤ o ∨ o + xs.length ≤ a) : S (splice L o xs) a n = S L a n := by
  apply List.ext_getElem?
  intro q
  rw [S_get, S_get]
  by_cases hq : q < n
  · rw [if_pos hq, if_pos hq, splice_get L o xs h]
    rcases hd with hd | hd
    · rw [if_pos (by omega)]
    · rw [if_neg (by omega), if_neg (by omega)]
  · rw [if_neg hq, if_neg hq]
theorem S_in {L xs : List Int} {o n : Nat} (h : o + xs.length ≤ L.length) (hn : xs.length ≤ n) (hz : S L o n = List.replicate n 0) : S (splice L o xs) o n = xs ++ List.replicate (n - xs.length) 0 := by
  apply List.ext_getElem?
  intro q
  have hz' : (S L o n)[q]? = (List.replicate n (0 : Int))[q]? := by rw [hz]
  rw [S_get] at hz'
  rw [S_get]
  by_cases hq : q < n
  · rw [if_pos hq] at hz' ⊢
    rw [splice_get L o xs h, if_neg (by omega)]
    by_cases hx : q < xs.length
    · rw [if_pos (by omega), List.getElem?_append_left hx, Nat.add_sub_cancel_left]
    · rw [if_neg (by omega), hz', List.getElem?_append_right (by omega), List.getElem?_replicate, List.getElem?_replicate, if_pos hq, if_pos (by omega)]
  · rw [if_neg hq, List.getElem?_eq_none]
    rw [List.length_append, List.length_replicate]
    omega
theorem S_zero (H a n : Nat) (h : a + n ≤ H) : S (List.replicate H 0) a n = List.replicate n 0 := by
  unfold S
  rw [List.drop_replicate, List.take_replicate]
  congr 1
  omega
theorem S_len {L : List Int} {a n : Nat} (h : a + n ≤ L.length) : (S L a n).length = n := by
  unfold S
  rw [List.length_take, List.length_drop]
  omega
theorem seg_S (b : List Int) (lo hi : Nat) : seg b lo hi = S b lo (hi - lo) := by
  unfold seg S
  rw [List.drop_take]
theorem drop_step (L : List Int) (a n : Nat) : L.drop a = S L a n ++ L.drop (a + n) := by
  unfold S
  rw [← List.drop_drop]
  exact (List.take_append_drop n (L.drop a)).symm
theorem eq_step {L M : List Int} (a n : Nat) (h : S L a n = S M a n) (h' : L.drop (a + n) = M.drop (a + n)) : L.drop a = M.drop a := by
  rw [drop_step L a n, drop_step M a n, h, h']
theorem Byt.S {L : List Int} (h : Byt L) (a n : Nat) : Byt (S L a n) := (h.drop a).take n
/-- Pieces laid down one after the other. -/
def lay : List (Nat × List Int) → List Int → List Int
  | [], L => L
  | p :: ps, L => lay ps (splice L p.1 p.2)
theorem lay_len {H : Nat} : ∀ (ps : List (Nat × List Int)) (L : List Int), L.length = H → (∀ p ∈ ps, p.1 + p.2.length ≤ H) → (lay ps L).length = H
  | [], L, hL, _ => hL
  | p :: ps, L, hL, h => lay_len ps _ (by have := h p List.mem_cons_self; rw [splice_len (by omega)]; exact hL) (fun q hq => h q (List.mem_cons_of_mem _ hq))
theorem lay_out {H a n : Nat} : ∀ (ps : List (Nat × List Int)) (L : List Int), L.length = H → (∀ p ∈ ps, p.1 + p.2.length ≤ H ∧ (a + n ≤ p.1 ∨ p.1 + p.2.length ≤ a)) → S (lay ps L) a n = S L a n
  | [], L, hL, _ => rfl
  | p :: ps, L, hL, h => by
    have hp := h p List.mem_cons_self
    show S (lay ps (splice L p.1 p.2)) a n = S L a n
    rw [lay_out ps _ (by rw [splice_len (by omega)]; exact hL) (fun q hq => h q (List.mem_cons_of_mem _ hq))]
    exact S_out (by omega) hp.2
theorem lay_append : ∀ (ps qs : List (Nat × List Int)) (L : List Int), lay (ps ++ qs) L = lay qs (lay ps L)
  | [], _, _ => rfl
  | p :: ps, qs, L => lay_append ps qs _
theorem lay_at {H a n : Nat} (ps qs : List (Nat × List Int)) (xs : List Int) (hn : xs.length ≤ n) (hH : a + n ≤ H)
    (h1 : ∀ p ∈ ps, p.1 + p.2.length ≤ H ∧ (a + n ≤ p.1 ∨ p.1 + p.2.length ≤ a)) (h2 : ∀ p ∈ qs, p.1 + p.2.length ≤ H ∧ (a + n ≤ p.1 ∨ p.1 + p.2.length ≤ a)) :
    S (lay (ps ++ (a, xs) :: qs) (List.replicate H 0)) a n = xs ++ List.replicate (n - xs.length) 0 := by
  have l0 : (List.replicate H (0 : Int)).length = H := List.length_replicate
  have l1 : (lay ps (List.replicate H 0)).length = H := lay_len ps _ l0 (fun p hp => (h1 p hp).1)
  rw [lay_append]
  show S (lay qs (splice (lay ps (List.replicate H 0)) a xs)) a n = _
  rw [lay_out qs _ (by rw [splice_len (by omega)]; exact l1) h2]
  refine S_in (by omega) hn ?_
  rw [lay_out ps _ l0 h1]
  exact S_zero H a n hH
/-- Numbers, there and back. -/
theorem num_be8 (v : Int) (h0 : 0 ≤ v) (h1 : v < 18446744073709551616) : num (be 8 v) = v := by
  have e : be 8 v = [v / 72057594037927936 % 256, v / 281474976710656 % 256, v / 1099511627776 % 256, v / 4294967296 % 256, v / 16777216 % 256, v / 65536 % 256, v / 256 % 256, v / 1 % 256] := rfl
  rw [e]
  simp only [num, List.foldl_cons, List.foldl_nil]
  omega
theorem be_num8 (l : List Int) (hb : Byt l) (hl : l.length = 8) : be 8 (num l) = l := by
  match l, hl with
  | [x0, x1, x2, x3, x4, x5, x6, x7], _ =>
    obtain ⟨a0, b0⟩ := hb x0 (by simp)
    obtain ⟨a1, b1⟩ := hb x1 (by simp)
    obtain ⟨a2, b2⟩ := hb x2 (by simp)
    obtain ⟨a3, b3⟩ := hb x3 (by simp)
    obtain ⟨a4, b4⟩ := hb x4 (by simp)
    obtain ⟨a5, b5⟩ := hb x5 (by simp)
    obtain ⟨a6, b6⟩ := hb x6 (by simp)
    obtain ⟨a7, b7⟩ := hb x7 (by simp)
    have e : ∀ v : Int, be 8 v = [v / 72057594037927936 % 256, v / 281474976710656 % 256, v / 1099511627776 % 256, v / 4294967296 % 256, v / 16777216 % 256, v / 65536 % 256, v / 256 % 256, v / 1 % 256] := fun v => rfl
    rw [e]
    simp only [num, List.foldl_cons, List.foldl_nil]
    have c0 : ((((((((0 * 256 + x0) * 256 + x1) * 256 + x2) * 256 + x3) * 256 + x4) * 256 + x5) * 256 + x6) * 256 + x7) / 72057594037927936 % 256 = x0 := by omega
    have c1 : ((((((((0 * 256 + x0) * 256 + x1) * 256 + x2) * 256 + x3) * 256 + x4) * 256 + x5) * 256 + x6) * 256 + x7) / 281474976710656 % 256 = x1 := by omega
    have c2 : ((((((((0 * 256 + x0) * 256 + x1) * 256 + x2) * 256 + x3) * 256 + x4) * 256 + x5) * 256 + x6) * 256 + x7) / 1099511627776 % 256 = x2 := by omega
    have c3 : ((((((((0 * 256 + x0) * 256 + x1) * 256 + x2) * 256 + x3) * 256 + x4) * 256 + x5) * 256 + x6) * 256 + x7) / 4294967296 % 256 = x3 := by omega
    have c4 : ((((((((0 * 256 + x0) * 256 + x1) * 256 + x2) * 256 + x3) * 256 + x4) * 256 + x5) * 256 + x6) * 256 + x7) / 16777216 % 256 = x4 := by omega
    have c5 : ((((((((0 * 256 + x0) * 256 + x1) * 256 + x2) * 256 + x3) * 256 + x4) * 256 + x5) * 256 + x6) * 256 + x7) / 65536 % 256 = x5 := by omega
    have c6 : ((((((((0 * 256 + x0) * 256 + x1) * 256 + x2) * 256 + x3) * 256 + x4) * 256 + x5) * 256 + x6) * 256 + x7) / 256 % 256 = x6 := by omega
    have c7 : ((((((((0 * 256 + x0) * 256 + x1) * 256 + x2) * 256 + x3) * 256 + x4) * 256 + x5) * 256 + x6) * 256 + x7) / 1 % 256 = x7 := by omega
    rw [c0, c1, c2, c3, c4, c5, c6, c7]
theorem be_num2 (l : List Int) (hb : Byt l) (hl : l.length = 2) : be 2 (num l) = l := by
  match l, hl with
  | [x0, x1], _ =>
    obtain ⟨a0, b0⟩ := hb x0 (by simp)
    obtain ⟨a1, b1⟩ := hb x1 (by simp)
    have e : ∀ v : Int, be 2 v = [v / 256 % 256, v / 1 % 256] := fun v => rfl
    rw [e]
    simp only [num, List.foldl_cons, List.foldl_nil]
    have c0 : ((0 * 256 + x0) * 256 + x1) / 256 % 256 = x0 := by omega
    have c1 : ((0 * 256 + x0) * 256 + x1) / 1 % 256 = x1 := by omega
    rw [c0, c1]
/-- Texts, there and back. -/
theorem str_bytes (s : ByteArray) : strOfNums (bytesOf s) = s := by
  obtain ⟨⟨l⟩⟩ := s
  unfold strOfNums bytesOf
  rw [List.map_map]
  have e : ((fun n : Int => UInt8.ofNat n.toNat) ∘ fun b : UInt8 => (b.toNat : Int)) = id := by
    funext b
    simp
  rw [e, List.map_id]
theorem of_toList {a b : ByteArray} (h : a.toList = b.toList) : a = b := by
  rw [ByteArray.toList_eq, ByteArray.toList_eq] at h
  obtain ⟨⟨x⟩⟩ := a
  obtain ⟨⟨y⟩⟩ := b
  simp only at h
  rw [h]
theorem has0_iff (s : ByteArray) : has0 s = (bytesOf s).contains 0 := by
  unfold has0 bytesOf
  induction s.data.toList with
  | nil => rfl
  | cons x l ih =>
    rw [List.map_cons, List.contains_cons, List.contains_cons, ih]
    congr 1
    by_cases hx : x = 0
    · subst hx; rfl
    · have h1 : ¬ x.toNat = 0 := fun h => hx (UInt8.toNat_inj.mp h)
      have e1 : ((0 : UInt8) == x) = false := beq_eq_false_iff_ne.mpr (fun h => hx h.symm)
      have e2 : ((0 : Int) == (x.toNat : Int)) = false := beq_eq_false_iff_ne.mpr (fun h => h1 (by omega))
      rw [e1, e2]
theorem fz_join : ∀ (l : List Int) (k : Nat), l.contains 0 = false → fz (l ++ List.replicate (k + 1) 0) = l.length
  | [], k, _ => by
    rw [List.nil_append, List.replicate_succ, fz_cons, if_pos rfl]
    rfl
  | x :: l, k, h => by
    rw [List.contains_cons, Bool.or_eq_false_iff] at h
    have hx : ¬ x = 0 := fun e => by rw [e] at h; exact absurd h.1 (by decide)
    rw [List.cons_append, fz_cons, if_neg hx, fz_join l k h.2]
    rfl
theorem tk_join (t : ByteArray) (k : Nat) (h : has0 t = false) (hk : 1 ≤ k) : tkB (bytesOf t ++ List.replicate k 0) = true ∧ tkS (bytesOf t ++ List.replicate k 0) = t := by
  obtain ⟨k, rfl⟩ : ∃ m, k = m + 1 := ⟨k - 1, by omega⟩
  rw [has0_iff] at h
  have hf := fz_join (bytesOf t) k h
  unfold tkB tkS
  rw [hf, List.take_left, List.drop_left, str_bytes]
  refine ⟨?_, rfl⟩
  rw [Bool.and_eq_true]
  refine ⟨decide_eq_true (by rw [List.length_append, List.length_replicate]; omega), ?_⟩
  rw [List.all_eq_true]
  intro y hy
  rw [(List.mem_replicate.1 hy).2]
  rfl
theorem tk_split (s : List Int) (hb : Byt s) (h : tkB s = true) : s = bytesOf (tkS s) ++ List.replicate (s.length - (tkS s).size) 0 ∧ (tkS s).size < s.length ∧ has0 (tkS s) = false := by
  unfold tkB at h
  rw [Bool.and_eq_true] at h
  have h1 : fz s < s.length := of_decide_eq_true h.1
  have hbt : bytesOf (tkS s) = s.take (fz s) := bytes_str (hb.take _)
  have hsz : (tkS s).size = fz s := by
    rw [← bytesOf_length, hbt, List.length_take]
    omega
  refine ⟨?_, by omega, ?_⟩
  · rw [hbt, hsz]
    have hd : s.drop (fz s) = List.replicate (s.length - fz s) 0 := by
      apply List.eq_replicate_iff.2
      refine ⟨by rw [List.length_drop], fun y hy => ?_⟩
      have := List.all_eq_true.1 h.2 y hy
      exact eq_of_beq this
    rw [← hd, List.take_append_drop]
  · rw [has0_iff, hbt]
    rw [Bool.eq_false_iff]
    intro hc
    have hm : (0 : Int) ∈ s.take (fz s) := List.contains_iff_mem.1 hc
    obtain ⟨j, hj, he⟩ := List.getElem_of_mem hm
    rw [List.length_take] at hj
    have hn := fz_ne s j (by omega)
    apply hn
    rw [List.getElem_take] at he
    rw [rd_nat, List.getElem?_eq_getElem (by omega), he]
    rfl
theorem zs_replicate (n : Nat) : zs (List.replicate n 0) = true := by
  unfold zs
  rw [List.all_eq_true]
  intro y hy
  rw [(List.mem_replicate.1 hy).2]
  rfl
theorem zs_eq (l : List Int) (h : zs l = true) : l = List.replicate l.length 0 := by
  unfold zs at h
  apply List.eq_replicate_iff.2
  exact ⟨rfl, fun y hy => eq_of_beq (List.all_eq_true.1 h y hy)⟩
theorem hole_splice (L D : List Int) (hD : D.length = 32) (hL : 512 ≤ L.length) : hole (splice L 448 D) = hole L := by
  have h1 : (splice L 448 D).take 448 = L.take 448 := by
    have h := S_out (L := L) (xs := D) (o := 448) (a := 0) (n := 448) (by omega) (.inl (by omega))
    simpa [S] using h
  have h2 : (splice L 448 D).drop 512 = L.drop 512 := by
    apply List.ext_getElem?
    intro q
    rw [List.getElem?_drop, List.getElem?_drop, splice_get L 448 D (by omega), if_neg (by omega), if_neg (by omega)]
  unfold hole
  rw [h1, h2]
theorem sha_rsha (kf : Nat → BitVec 32) (x : St) (b : List Int) (M : Nat) (h : b.length = 64 * M) : rsha kf x b = shaOf kf x b := by
  rw [rsha_mult kf x b M h]
  unfold shaOf
  rw [h, show 64 * M / 64 = M by omega, show (((64 * M : Nat) : Int)) = 64 * (M : Int) by omega]
/-- A copy's segments. -/
structure Segs (sec : Bool) (head seq : Int) (label sub uuid salt text : ByteArray) (D P : List Int) : Prop where
  len : P.length = head.toNat
  s0 : S P 0 6 = bytesOf (magicB sec)
  s6 : S P 6 2 = be 2 2
  s8 : S P 8 8 = be 8 head
  s16 : S P 16 8 = be 8 seq
  s24 : S P 24 48 = bytesOf label ++ List.replicate (48 - (bytesOf label).length) 0
  s72 : S P 72 32 = bytesOf alg ++ List.replicate (32 - (bytesOf alg).length) 0
  s104 : S P 104 64 = bytesOf salt
  s168 : S P 168 40 = bytesOf uuid ++ List.replicate (40 - (bytesOf uuid).length) 0
  s208 : S P 208 48 = bytesOf sub ++ List.replicate (48 - (bytesOf sub).length) 0
  s256 : S P 256 8 = be 8 (beginOf sec head)
  s448 : S P 448 32 = D
  s4096 : S P 4096 (head.toNat - 4096) = bytesOf text ++ List.replicate ((head.toNat - 4096) - (bytesOf text).length) 0
  s264 : S P 264 184 = List.replicate 184 0
  s480 : S P 480 3616 = List.replicate 3616 0
theorem packed_segs (kf : Nat → BitVec 32) (x : St) (sec : Bool) (head seq : Int) (label sub uuid salt text : ByteArray) (hE : mayE head seq label sub uuid salt text = 0) :
    Segs sec head seq label sub uuid salt text (shaOf kf x (hole (packA sec head seq label sub uuid salt text))) (packed kf x sec head seq label sub uuid salt text) := by
  obtain ⟨z1, z2, z3, z4, z5, z6, z7, z8⟩ := may_zero hE
  obtain ⟨b1, b2, b3⟩ := isHd_bd z1
  have u0 : (bytesOf (magicB sec)).length = 6 := by rw [bytesOf_length, magicB_size]
  have u1 : (bytesOf label).length ≤ 47 := by rw [bytesOf_length]; exact z5
  have u2 : (bytesOf uuid).length ≤ 39 := by rw [bytesOf_length]; exact z6
  have u3 : (bytesOf sub).length ≤ 47 := by rw [bytesOf_length]; exact z7
  have u4 : (bytesOf salt).length = 64 := by rw [bytesOf_length]; exact z4
  have u5 : (bytesOf alg).length = 6 := by rw [bytesOf_length, alg_size]
  have u6 : ((bytesOf text).length : Int) ≤ head - 4097 := by rw [bytesOf_length]; exact z8
  have hlen := (packed_len kf x sec head seq label sub uuid salt text).2 hE
  have uD : (shaOf kf x (hole (packA sec head seq label sub uuid salt text))).length = 32 := shaOf_len _ _ _
  have hP : packed kf x sec head seq label sub uuid salt text = lay ([(0, bytesOf (magicB sec)), (6, be 2 2), (8, be 8 head), (16, be 8 seq), (24, bytesOf label), (168, bytesOf uuid), (208, bytesOf sub), (72, bytesOf alg), (104, bytesOf salt), (256, be 8 (beginOf sec head)), (4096, bytesOf text), (448, shaOf kf x (hole (packA sec head seq label sub uuid salt text)))]) (List.replicate head.toNat 0) := by
    unfold packed
    rw [if_pos hE]
    rfl
  generalize shaOf kf x (hole (packA sec head seq label sub uuid salt text)) = D at *
  refine ⟨hlen, ?_, ?_, ?_, ?_, ?_, ?_, ?_, ?_, ?_, ?_, ?_, ?_, ?_, ?_⟩
  all_goals rw [hP]
  · have h := lay_at (H := head.toNat) (a := 0) (n := 6) [] [(6, be 2 2), (8, be 8 head), (16, be 8 seq), (24, bytesOf label), (168, bytesOf uuid), (208, bytesOf sub), (72, bytesOf alg), (104, bytesOf salt), (256, be 8 (beginOf sec head)), (4096, bytesOf text), (448, D)] (bytesOf (magicB sec)) (by (try simp only [be_len]); omega) (by omega) (by intro p hp; cases hp) (by intro p hp; simp only [List.mem_cons, List.not_mem_nil, or_false] at hp; rcases hp with rfl | rfl | rfl | rfl | rfl | rfl | rfl | rfl | rfl | rfl | rfl <;> (dsimp only; (try simp only [be_len]); omega))
    rw [show 6 - (bytesOf (magicB sec)).length = 0 by first | omega | (simp only [be_len]; done) | (simp only [be_len]; omega), List.replicate_zero, List.append_nil] at h
    exact h
  · have h := lay_at (H := head.toNat) (a := 6) (n := 2) [(0, bytesOf (magicB sec))] [(8, be 8 head), (16, be 8 seq), (24, bytesOf label), (168, bytesOf uuid), (208, bytesOf sub), (72, bytesOf alg), (104, bytesOf salt), (256, be 8 (beginOf sec head)), (4096, bytesOf text), (448, D)] (be 2 2) (by (try simp only [be_len]); omega) (by omega) (by intro p hp; simp only [List.mem_cons, List.not_mem_nil, or_false] at hp; rcases hp with rfl <;> (dsimp only; (try simp only [be_len]); omega)) (by intro p hp; simp only [List.mem_cons, List.not_mem_nil, or_false] at hp; rcases hp with rfl | rfl | rfl | rfl | rfl | rfl | rfl | rfl | rfl | rfl <;> (dsimp only; (try simp only [be_len]); omega))
    rw [show 2 - (be 2 2).length = 0 by first | omega | (simp only [be_len]; done) | (simp only [be_len]; omega), List.replicate_zero, List.append_nil] at h
    exact h
  · have h := lay_at (H := head.toNat) (a := 8) (n := 8) [(0, bytesOf (magicB sec)), (6, be 2 2)] [(16, be 8 seq), (24, bytesOf label), (168, bytesOf uuid), (208, bytesOf sub), (72, bytesOf alg), (104, bytesOf salt), (256, be 8 (beginOf sec head)), (4096, bytesOf text), (448, D)] (be 8 head) (by (try simp only [be_len]); omega) (by omega) (by intro p hp; simp only [List.mem_cons, List.not_mem_nil, or_false] at hp; rcases hp with rfl | rfl <;> (dsimp only; (try simp only [be_len]); omega)) (by intro p hp; simp only [List.mem_cons, List.not_mem_nil, or_false] at hp; rcases hp with rfl | rfl | rfl | rfl | rfl | rfl | rfl | rfl | rfl <;> (dsimp only; (try simp only [be_len]); omega))
    rw [show 8 - (be 8 head).length = 0 by first | omega | (simp only [be_len]; done) | (simp only [be_len]; omega), List.replicate_zero, List.append_nil] at h
    exact h
  · have h := lay_at (H := head.toNat) (a := 16) (n := 8) [(0, bytesOf (magicB sec)), (6, be 2 2), (8, be 8 head)] [(24, bytesOf label), (168, bytesOf uuid), (208, bytesOf sub), (72, bytesOf alg), (104, bytesOf salt), (256, be 8 (beginOf sec head)), (4096, bytesOf text), (448, D)] (be 8 seq) (by (try simp only [be_len]); omega) (by omega) (by intro p hp; simp only [List.mem_cons, List.not_mem_nil, or_false] at hp; rcases hp with rfl | rfl | rfl <;> (dsimp only; (try simp only [be_len]); omega)) (by intro p hp; simp only [List.mem_cons, List.not_mem_nil, or_false] at hp; rcases hp with rfl | rfl | rfl | rfl | rfl | rfl | rfl | rfl <;> (dsimp only; (try simp only [be_len]); omega))
    rw [show 8 - (be 8 seq).length = 0 by first | omega | (simp only [be_len]; done) | (simp only [be_len]; omega), List.replicate_zero, List.append_nil] at h
    exact h
  · exact lay_at (H := head.toNat) (a := 24) (n := 48) [(0, bytesOf (magicB sec)), (6, be 2 2), (8, be 8 head), (16, be 8 seq)] [(168, bytesOf uuid), (208, bytesOf sub), (72, bytesOf alg), (104, bytesOf salt), (256, be 8 (beginOf sec head)), (4096, bytesOf text), (448, D)] (bytesOf label) (by (try simp only [be_len]); omega) (by omega) (by intro p hp; simp only [List.mem_cons, List.not_mem_nil, or_false] at hp; rcases hp with rfl | rfl | rfl | rfl <;> (dsimp only; (try simp only [be_len]); omega)) (by intro p hp; simp only [List.mem_cons, List.not_mem_nil, or_false] at hp; rcases hp with rfl | rfl | rfl | rfl | rfl | rfl | rfl <;> (dsimp only; (try simp only [be_len]); omega))
  · exact lay_at (H := head.toNat) (a := 72) (n := 32) [(0, bytesOf (magicB sec)), (6, be 2 2), (8, be 8 head), (16, be 8 seq), (24, bytesOf label), (168, bytesOf uuid), (208, bytesOf sub)] [(104, bytesOf salt), (256, be 8 (beginOf sec head)), (4096, bytesOf text), (448, D)] (bytesOf alg) (by (try simp only [be_len]); omega) (by omega) (by intro p hp; simp only [List.mem_cons, List.not_mem_nil, or_false] at hp; rcases hp with rfl | rfl | rfl | rfl | rfl | rfl | rfl <;> (dsimp only; (try simp only [be_len]); omega)) (by intro p hp; simp only [List.mem_cons, List.not_mem_nil, or_false] at hp; rcases hp with rfl | rfl | rfl | rfl <;> (dsimp only; (try simp only [be_len]); omega))
  · have h := lay_at (H := head.toNat) (a := 104) (n := 64) [(0, bytesOf (magicB sec)), (6, be 2 2), (8, be 8 head), (16, be 8 seq), (24, bytesOf label), (168, bytesOf uuid), (208, bytesOf sub), (72, bytesOf alg)] [(256, be 8 (beginOf sec head)), (4096, bytesOf text), (448, D)] (bytesOf salt) (by (try simp only [be_len]); omega) (by omega) (by intro p hp; simp only [List.mem_cons, List.not_mem_nil, or_false] at hp; rcases hp with rfl | rfl | rfl | rfl | rfl | rfl | rfl | rfl <;> (dsimp only; (try simp only [be_len]); omega)) (by intro p hp; simp only [List.mem_cons, List.not_mem_nil, or_false] at hp; rcases hp with rfl | rfl | rfl <;> (dsimp only; (try simp only [be_len]); omega))
    rw [show 64 - (bytesOf salt).length = 0 by first | omega | (simp only [be_len]; done) | (simp only [be_len]; omega), List.replicate_zero, List.append_nil] at h
    exact h
  · exact lay_at (H := head.toNat) (a := 168) (n := 40) [(0, bytesOf (magicB sec)), (6, be 2 2), (8, be 8 head), (16, be 8 seq), (24, bytesOf label)] [(208, bytesOf sub), (72, bytesOf alg), (104, bytesOf salt), (256, be 8 (beginOf sec head)), (4096, bytesOf text), (448, D)] (bytesOf uuid) (by (try simp only [be_len]); omega) (by omega) (by intro p hp; simp only [List.mem_cons, List.not_mem_nil, or_false] at hp; rcases hp with rfl | rfl | rfl | rfl | rfl <;> (dsimp only; (try simp only [be_len]); omega)) (by intro p hp; simp only [List.mem_cons, List.not_mem_nil, or_false] at hp; rcases hp with rfl | rfl | rfl | rfl | rfl | rfl <;> (dsimp only; (try simp only [be_len]); omega))
  · exact lay_at (H := head.toNat) (a := 208) (n := 48) [(0, bytesOf (magicB sec)), (6, be 2 2), (8, be 8 head), (16, be 8 seq), (24, bytesOf label), (168, bytesOf uuid)] [(72, bytesOf alg), (104, bytesOf salt), (256, be 8 (beginOf sec head)), (4096, bytesOf text), (448, D)] (bytesOf sub) (by (try simp only [be_len]); omega) (by omega) (by intro p hp; simp only [List.mem_cons, List.not_mem_nil, or_false] at hp; rcases hp with rfl | rfl | rfl | rfl | rfl | rfl <;> (dsimp only; (try simp only [be_len]); omega)) (by intro p hp; simp only [List.mem_cons, List.not_mem_nil, or_false] at hp; rcases hp with rfl | rfl | rfl | rfl | rfl <;> (dsimp only; (try simp only [be_len]); omega))
  · have h := lay_at (H := head.toNat) (a := 256) (n := 8) [(0, bytesOf (magicB sec)), (6, be 2 2), (8, be 8 head), (16, be 8 seq), (24, bytesOf label), (168, bytesOf uuid), (208, bytesOf sub), (72, bytesOf alg), (104, bytesOf salt)] [(4096, bytesOf text), (448, D)] (be 8 (beginOf sec head)) (by (try simp only [be_len]); omega) (by omega) (by intro p hp; simp only [List.mem_cons, List.not_mem_nil, or_false] at hp; rcases hp with rfl | rfl | rfl | rfl | rfl | rfl | rfl | rfl | rfl <;> (dsimp only; (try simp only [be_len]); omega)) (by intro p hp; simp only [List.mem_cons, List.not_mem_nil, or_false] at hp; rcases hp with rfl | rfl <;> (dsimp only; (try simp only [be_len]); omega))
    rw [show 8 - (be 8 (beginOf sec head)).length = 0 by first | omega | (simp only [be_len]; done) | (simp only [be_len]; omega), List.replicate_zero, List.append_nil] at h
    exact h
  · have h := lay_at (H := head.toNat) (a := 448) (n := 32) [(0, bytesOf (magicB sec)), (6, be 2 2), (8, be 8 head), (16, be 8 seq), (24, bytesOf label), (168, bytesOf uuid), (208, bytesOf sub), (72, bytesOf alg), (104, bytesOf salt), (256, be 8 (beginOf sec head)), (4096, bytesOf text)] [] (D) (by (try simp only [be_len]); omega) (by omega) (by intro p hp; simp only [List.mem_cons, List.not_mem_nil, or_false] at hp; rcases hp with rfl | rfl | rfl | rfl | rfl | rfl | rfl | rfl | rfl | rfl | rfl <;> (dsimp only; (try simp only [be_len]); omega)) (by intro p hp; cases hp)
    rw [show 32 - (D).length = 0 by first | omega | (simp only [be_len]; done) | (simp only [be_len]; omega), List.replicate_zero, List.append_nil] at h
    exact h
  · exact lay_at (H := head.toNat) (a := 4096) (n := (head.toNat - 4096)) [(0, bytesOf (magicB sec)), (6, be 2 2), (8, be 8 head), (16, be 8 seq), (24, bytesOf label), (168, bytesOf uuid), (208, bytesOf sub), (72, bytesOf alg), (104, bytesOf salt), (256, be 8 (beginOf sec head))] [(448, D)] (bytesOf text) (by (try simp only [be_len]); omega) (by omega) (by intro p hp; simp only [List.mem_cons, List.not_mem_nil, or_false] at hp; rcases hp with rfl | rfl | rfl | rfl | rfl | rfl | rfl | rfl | rfl | rfl <;> (dsimp only; (try simp only [be_len]); omega)) (by intro p hp; simp only [List.mem_cons, List.not_mem_nil, or_false] at hp; rcases hp with rfl <;> (dsimp only; (try simp only [be_len]); omega))
  · rw [lay_out (H := head.toNat) (a := 264) (n := 184) _ _ List.length_replicate (by intro p hp; simp only [List.mem_cons, List.not_mem_nil, or_false] at hp; rcases hp with rfl | rfl | rfl | rfl | rfl | rfl | rfl | rfl | rfl | rfl | rfl | rfl <;> (dsimp only; (try simp only [be_len]); omega))]
    exact S_zero _ _ _ (by omega)
  · rw [lay_out (H := head.toNat) (a := 480) (n := 3616) _ _ List.length_replicate (by intro p hp; simp only [List.mem_cons, List.not_mem_nil, or_false] at hp; rcases hp with rfl | rfl | rfl | rfl | rfl | rfl | rfl | rfl | rfl | rfl | rfl | rfl <;> (dsimp only; (try simp only [be_len]); omega))]
    exact S_zero _ _ _ (by omega)
theorem magic_ne (sec : Bool) : (magicB sec).toList ≠ (magicB (!sec)).toList := by
  intro h
  have h2 := of_toList h
  cases sec <;> exact absurd h2 (by decide)
theorem take_S (L : List Int) (n : Nat) : L.take n = S L 0 n := by simp [S]
/-- What is packed is unpacked as it was, and as its own copy alone. -/
theorem unpack_packed (kf : Nat → BitVec 32) (x : St) (sec : Bool) (head seq : Int) (label sub uuid salt text : ByteArray) (hq0 : 0 ≤ seq) (hE : mayE head seq label sub uuid salt text = 0) :
    unE kf x sec (packed kf x sec head seq label sub uuid salt text) = 0 ∧ unV kf x sec (packed kf x sec head seq label sub uuid salt text) = #[.bool sec, .int .i64 head, .int .u64 seq, .string label, .string sub, .string uuid, .string salt, .string text] ∧
      unE kf x (!sec) (packed kf x sec head seq label sub uuid salt text) = 81 := by
  obtain ⟨z1, z2, z3, z4, z5, z6, z7, z8⟩ := may_zero hE
  obtain ⟨w1, w2, w3, w4⟩ := may_zero' hE
  obtain ⟨b1, b2, b3⟩ := isHd_bd z1
  have hS := packed_segs kf x sec head seq label sub uuid salt text hE
  have hHole : rsha kf x (hole (packed kf x sec head seq label sub uuid salt text)) = shaOf kf x (hole (packA sec head seq label sub uuid salt text)) := by
    have hA := packA_len (sec := sec) hE
    unfold packed
    rw [if_pos hE, hole_splice _ _ (shaOf_len _ _ _) (by omega)]
    exact sha_rsha kf x _ (head.toNat / 64) (by rw [hole_len _ (by omega), hA]; omega)
  generalize packed kf x sec head seq label sub uuid salt text = P at *
  generalize shaOf kf x (hole (packA sec head seq label sub uuid salt text)) = D at *
  have h0 : ∀ t : ByteArray, ∀ m : Int, badT t m = false → has0 t = false := fun t m h => by unfold badT at h; exact (Bool.or_eq_false_iff.1 h).2
  have hl := hS.len
  have lP : (P.length : Int) = head := by omega
  have t1 := tk_join label (48 - (bytesOf label).length) (h0 _ _ w1) (by rw [bytesOf_length]; omega)
  have t2 := tk_join uuid (40 - (bytesOf uuid).length) (h0 _ _ w2) (by rw [bytesOf_length]; omega)
  have t3 := tk_join sub (48 - (bytesOf sub).length) (h0 _ _ w3) (by rw [bytesOf_length]; omega)
  have t4 := tk_join text (head.toNat - 4096 - (bytesOf text).length) (h0 _ _ w4) (by rw [bytesOf_length]; omega)
  have t5 := tk_join alg (32 - (bytesOf alg).length) (by decide) (by rw [bytesOf_length, alg_size]; omega)
  have hd : P.drop 4096 = S P 4096 (head.toNat - 4096) := by
    unfold S
    rw [List.take_of_length_le (by rw [List.length_drop]; omega)]
  have n8 : numAt P 8 8 = head := by
    show num (S P 8 8) = head
    rw [hS.s8]
    exact num_be8 head (by omega) (by omega)
  have n16 : numAt P 16 8 = seq := by
    show num (S P 16 8) = seq
    rw [hS.s16]
    exact num_be8 seq (by omega) (by omega)
  have n256 : numAt P 256 8 = if sec then (P.length : Int) else 0 := by
    show num (S P 256 8) = _
    rw [hS.s256, lP]
    unfold beginOf
    cases sec
    · exact num_be8 0 (by omega) (by omega)
    · exact num_be8 head (by omega) (by omega)
  have n6 : numAt P 6 2 = 2 := by
    show num (S P 6 2) = 2
    rw [hS.s6]
    rfl
  have m0 : strOfNums (P.take 6) = magicB sec := by rw [take_S, hS.s0, str_bytes]
  have f0 : frE sec P = 0 := by
    unfold frE
    rw [m0, if_neg (fun h => h rfl), if_neg (fun h => h n6), n8, if_neg (by rw [z1]; decide)]
  have f1 : frE (!sec) P = 81 := by
    unfold frE
    rw [m0, if_pos (magic_ne sec)]
  have fH : frH sec P = head := by
    unfold frH
    rw [if_pos f0, n8]
  have ok : okF sec P = true := by
    unfold okF
    rw [n16, decide_eq_true n256]
    simp only [seg_S]
    rw [hS.s24, hS.s168, hS.s208, hS.s72, hS.s264, hS.s480, t1.1, t2.1, t3.1, t5.1, t5.2, zs_replicate, zs_replicate, decide_eq_true (show 1 ≤ seq by omega), decide_eq_true z3, decide_eq_true (show alg.toList = sha256B.toList from rfl)]
    rfl
  have e0 : unE kf x sec P = 0 := by
    unfold unE
    rw [if_neg (by omega), if_neg (fun h => h f0), if_neg (fun h => h (by rw [fH, lP])), if_neg (fun h => h (by rw [hHole, seg_S, hS.s448])), if_neg (by rw [ok]; decide), hd, hS.s4096, if_neg (by rw [t4.1]; decide)]
  refine ⟨e0, ?_, ?_⟩
  · unfold unV
    rw [if_pos e0]
    unfold fullV
    rw [n16, hd]
    simp only [seg_S]
    rw [hS.s24, hS.s168, hS.s208, hS.s104, hS.s4096, t1.2, t2.2, t3.2, t4.2, str_bytes, lP]
  · unfold unE
    rw [if_neg (by omega), if_pos (by rw [f1]; decide), f1]
/-- What is unpacked is packed as it was. -/
theorem packed_unpack (kf : Nat → BitVec 32) (x : St) (sec : Bool) (b : List Int) (hb : Byt b) (h : unE kf x sec b = 0) :
    mayE b.length (numAt b 16 8) (tkS (S b 24 48)) (tkS (S b 208 48)) (tkS (S b 168 40)) (strOfNums (S b 104 64)) (tkS (b.drop 4096)) = 0 ∧
      packed kf x sec b.length (numAt b 16 8) (tkS (S b 24 48)) (tkS (S b 208 48)) (tkS (S b 168 40)) (strOfNums (S b 104 64)) (tkS (b.drop 4096)) = b ∧
      unV kf x sec b = #[.bool sec, .int .i64 b.length, .int .u64 (numAt b 16 8), .string (tkS (S b 24 48)), .string (tkS (S b 208 48)), .string (tkS (S b 168 40)), .string (strOfNums (S b 104 64)), .string (tkS (b.drop 4096))] := by
  have hV : unV kf x sec b = fullV sec b := by unfold unV; rw [if_pos h]
  unfold unE at h
  by_cases c1 : b.length < 4096
  · rw [if_pos c1] at h; omega
  rw [if_neg c1] at h
  by_cases c2 : frE sec b = 0
  rotate_left
  · rw [if_pos c2] at h; exact absurd h c2
  rw [if_neg (fun k => k c2)] at h
  by_cases c3 : frH sec b = b.length
  rotate_left
  · rw [if_pos c3] at h; omega
  rw [if_neg (fun k => k c3)] at h
  by_cases c4 : (strOfNums (seg b 448 480)).toList = (strOfNums (rsha kf x (hole b))).toList
  rotate_left
  · rw [if_pos c4] at h; omega
  rw [if_neg (fun k => k c4)] at h
  by_cases c5 : okF sec b = false
  · rw [if_pos c5] at h; omega
  rw [if_neg c5] at h
  by_cases c6 : tkB (b.drop 4096) = false
  · rw [if_pos c6] at h; omega
  clear h
  rw [Bool.not_eq_false] at c5 c6
  obtain ⟨hX, hlo, hhi, M, hM⟩ := front_ok sec b c2 c3
  unfold okF at c5
  simp only [Bool.and_eq_true, decide_eq_true_eq, seg_S] at c5
  obtain ⟨⟨⟨⟨⟨⟨⟨⟨⟨q1, q2⟩, q3⟩, k1⟩, k2⟩, k3⟩, k4⟩, q4⟩, zz1⟩, zz2⟩ := c5
  have S1 := tk_split _ (Byt.S hb 24 48) k1
  have S2 := tk_split _ (Byt.S hb 168 40) k2
  have S3 := tk_split _ (Byt.S hb 208 48) k3
  have S4 := tk_split _ (Byt.S hb 72 32) k4
  have S5 := tk_split _ (hb.drop 4096) c6
  rw [S_len (by omega)] at S1 S2 S3 S4
  rw [List.length_drop] at S5
  have hsalt : (strOfNums (S b 104 64)).size = 64 := by rw [strOfNums_size, S_len (by omega)]
  have hd1 : isHd (b.length : Int) = true := by
    rw [← hX]
    unfold frE at c2
    by_cases d1 : (strOfNums (b.take 6)).toList ≠ (magicB sec).toList
    · rw [if_pos d1] at c2; omega
    · rw [if_neg d1] at c2
      by_cases d2 : numAt b 6 2 ≠ 2
      · rw [if_pos d2] at c2; omega
      · rw [if_neg d2] at c2
        by_cases d3 : isHd (numAt b 8 8) = false
        · rw [if_pos d3] at c2; omega
        · simpa using d3
  have hmag : S b 0 6 = bytesOf (magicB sec) := by
    unfold frE at c2
    by_cases d1 : (strOfNums (b.take 6)).toList ≠ (magicB sec).toList
    · rw [if_pos d1] at c2; omega
    · have e := of_toList (Classical.not_not.1 d1)
      rw [← e, take_S]
      exact (bytes_str (Byt.S hb 0 6)).symm
  have hver : S b 6 2 = be 2 2 := by
    unfold frE at c2
    by_cases d1 : (strOfNums (b.take 6)).toList ≠ (magicB sec).toList
    · rw [if_pos d1] at c2; omega
    · rw [if_neg d1] at c2
      by_cases d2 : numAt b 6 2 ≠ 2
      · rw [if_pos d2] at c2; omega
      · have e := be_num2 (S b 6 2) (Byt.S hb 6 2) (S_len (by omega))
        rw [← e]
        exact congrArg (be 2) (Classical.not_not.1 d2)
  have h8 : S b 8 8 = be 8 (b.length : Int) := by
    rw [← be_num8 (S b 8 8) (Byt.S hb 8 8) (S_len (by omega))]
    exact congrArg (be 8) hX
  have h16 : S b 16 8 = be 8 (numAt b 16 8) := (be_num8 (S b 16 8) (Byt.S hb 16 8) (S_len (by omega))).symm
  have h256 : S b 256 8 = be 8 (beginOf sec b.length) := by
    rw [← be_num8 (S b 256 8) (Byt.S hb 256 8) (S_len (by omega))]
    exact congrArg (be 8) q3
  have h104 : S b 104 64 = bytesOf (strOfNums (S b 104 64)) := (bytes_str (Byt.S hb 104 64)).symm
  have halg : tkS (S b 72 32) = alg := of_toList q4
  rw [halg] at S4
  have hE : mayE b.length (numAt b 16 8) (tkS (S b 24 48)) (tkS (S b 208 48)) (tkS (S b 168 40)) (strOfNums (S b 104 64)) (tkS (b.drop 4096)) = 0 := by
    have bt : ∀ (t : ByteArray) (m : Int), (t.size : Int) ≤ m → has0 t = false → badT t m = false := fun t m h1 h2 => by
      unfold badT
      rw [h2, decide_eq_false (by omega)]
      rfl
    have e1 := bt _ 47 (by have := S1.2.1; omega) S1.2.2
    have e2 := bt _ 39 (by have := S2.2.1; omega) S2.2.2
    have e3 := bt _ 47 (by have := S3.2.1; omega) S3.2.2
    have e4 := bt _ ((b.length : Int) - 4097) (by have := S5.2.1; omega) S5.2.2
    unfold mayE
    rw [hd1, if_neg (by decide), if_neg (by rw [hsalt]; omega), e1, e2, e3, e4, if_neg (by decide), if_neg (by decide)]
  refine ⟨hE, ?_, ?_⟩
  · have hS := packed_segs kf x sec b.length (numAt b 16 8) (tkS (S b 24 48)) (tkS (S b 208 48)) (tkS (S b 168 40)) (strOfNums (S b 104 64)) (tkS (b.drop 4096)) hE
    have hA := packA_len (sec := sec) hE
    have hPA : packed kf x sec b.length (numAt b 16 8) (tkS (S b 24 48)) (tkS (S b 208 48)) (tkS (S b 168 40)) (strOfNums (S b 104 64)) (tkS (b.drop 4096)) = splice (packA sec b.length (numAt b 16 8) (tkS (S b 24 48)) (tkS (S b 208 48)) (tkS (S b 168 40)) (strOfNums (S b 104 64)) (tkS (b.drop 4096))) 448 (shaOf kf x (hole (packA sec b.length (numAt b 16 8) (tkS (S b 24 48)) (tkS (S b 208 48)) (tkS (S b 168 40)) (strOfNums (S b 104 64)) (tkS (b.drop 4096))))) := by
      unfold packed
      rw [if_pos hE]
    have hhole : hole (packed kf x sec b.length (numAt b 16 8) (tkS (S b 24 48)) (tkS (S b 208 48)) (tkS (S b 168 40)) (strOfNums (S b 104 64)) (tkS (b.drop 4096))) = hole (packA sec b.length (numAt b 16 8) (tkS (S b 24 48)) (tkS (S b 208 48)) (tkS (S b 168 40)) (strOfNums (S b 104 64)) (tkS (b.drop 4096))) := by
      rw [hPA]
      exact hole_splice _ _ (shaOf_len _ _ _) (by omega)
    generalize packed kf x sec b.length (numAt b 16 8) (tkS (S b 24 48)) (tkS (S b 208 48)) (tkS (S b 168 40)) (strOfNums (S b 104 64)) (tkS (b.drop 4096)) = P at *
    generalize packA sec b.length (numAt b 16 8) (tkS (S b 24 48)) (tkS (S b 208 48)) (tkS (S b 168 40)) (strOfNums (S b 104 64)) (tkS (b.drop 4096)) = Q at *
    clear hPA
    have lP := hS.len
    have g0 : S P 0 6 = S b 0 6 := by rw [hS.s0, hmag]
    have g6 : S P 6 2 = S b 6 2 := by rw [hS.s6, hver]
    have g8 : S P 8 8 = S b 8 8 := by rw [hS.s8, h8]
    have g16 : S P 16 8 = S b 16 8 := by rw [hS.s16, h16]
    have g24 : S P 24 48 = S b 24 48 := by rw [hS.s24, bytesOf_length]; exact S1.1.symm
    have g72 : S P 72 32 = S b 72 32 := by rw [hS.s72, bytesOf_length]; exact S4.1.symm
    have g104 : S P 104 64 = S b 104 64 := hS.s104.trans h104.symm
    have g168 : S P 168 40 = S b 168 40 := by rw [hS.s168, bytesOf_length]; exact S2.1.symm
    have g208 : S P 208 48 = S b 208 48 := by rw [hS.s208, bytesOf_length]; exact S3.1.symm
    have g256 : S P 256 8 = S b 256 8 := by rw [hS.s256, h256]
    have g264 : S P 264 184 = S b 264 184 := by
      have e := zs_eq _ zz1
      rw [S_len (by omega)] at e
      rw [hS.s264]
      exact e.symm
    have g480 : S P 480 3616 = S b 480 3616 := by
      have e := zs_eq _ zz2
      rw [S_len (by omega)] at e
      rw [hS.s480]
      exact e.symm
    have g4096 : P.drop 4096 = b.drop 4096 := by
      have e : P.drop 4096 = S P 4096 ((b.length : Int).toNat - 4096) := by
        unfold S
        rw [List.take_of_length_le (by rw [List.length_drop]; omega)]
      rw [e, hS.s4096, bytesOf_length, Int.toNat_natCast]
      exact S5.1.symm
    have d480 : P.drop 480 = b.drop 480 := eq_step 480 3616 g480 g4096
    have d512 : P.drop 512 = b.drop 512 := by
      have e := congrArg (List.drop 32) d480
      rw [List.drop_drop, List.drop_drop] at e
      exact e
    have up : ∀ L : List Int, L.take 448 = S L 0 6 ++ (S L 6 2 ++ (S L 8 8 ++ (S L 16 8 ++ (S L 24 48 ++ (S L 72 32 ++ (S L 104 64 ++ (S L 168 40 ++ (S L 208 48 ++ (S L 256 8 ++ S L 264 184))))))))) := by
      intro L
      have st : ∀ a n m, S L a (n + m) = S L a n ++ S L (a + n) m := by
        intro a n m
        unfold S
        rw [List.take_add, List.drop_drop]
      rw [take_S, ← st 256 8 184, ← st 208 48 192, ← st 168 40 240, ← st 104 64 280, ← st 72 32 344, ← st 24 48 376, ← st 16 8 424, ← st 8 8 432, ← st 6 2 440, ← st 0 6 442]
    have t448 : P.take 448 = b.take 448 := by
      rw [up P, up b, g0, g6, g8, g16, g24, g72, g104, g168, g208, g256, g264]
    have hh : hole P = hole b := by
      unfold hole
      rw [t448, d512]
    have g448 : S P 448 32 = S b 448 32 := by
      rw [hS.s448, ← hhole, hh, ← sha_rsha kf x _ M (by rw [hole_len _ (by omega), hM])]
      have e := of_toList c4
      rw [seg_S] at e
      have e2 := congrArg bytesOf e
      rw [bytes_str (Byt.S hb 448 32), bytes_str (xs := rsha kf x (hole b)) (fun y hy => r06.dig_rng _ y hy)] at e2
      exact e2.symm
    have d448 : P.drop 448 = b.drop 448 := eq_step 448 32 g448 d480
    rw [← List.take_append_drop 448 P, t448, d448, List.take_append_drop]
  · rw [hV]
    unfold fullV
    simp only [seg_S]
end Go.Proofs.YtglcapkmeecknaaDoor.back
/-! ## L05 -/
namespace Go.Proofs.YtglcapkmeecknaaDoor.l05
open Go Go.RowKit Go.Proofs.YtglcapkmeecknaaDoor.d40 Go.Proofs.YtglcapkmeecknaaDoor.s28 Go.Proofs.YtglcapkmeecknaaDoor.u13 Go.Proofs.YtglcapkmeecknaaDoor.tk Go.Proofs.YtglcapkmeecknaaDoor.g31 Go.Proofs.YtglcapkmeecknaaDoor.g36 Go.Proofs.YtglcapkmeecknaaDoor.f29 Go.Proofs.YtglcapkmeecknaaDoor.p24 Go.Proofs.YtglcapkmeecknaaDoor.PHeaderPacks Go.Proofs.YtglcapkmeecknaaDoor.sha Go.Proofs.YtglcapkmeecknaaDoor.mem Go.Proofs.YtglcapkmeecknaaDoor.r12 Go.Proofs.YtglcapkmeecknaaDoor.h27 Go.Proofs.YtglcapkmeecknaaDoor.m22 Go.Proofs.YtglcapkmeecknaaDoor.k07 Go.Proofs.YtglcapkmeecknaaDoor.headp Go.Proofs.YtglcapkmeecknaaDoor.packeq Go.Proofs.YtglcapkmeecknaaDoor.back Go.Proofs.YtglcapkmeecknaaDoor.eqv Go.Proofs.YtglcapkmeecknaaDoorW.PrintWords Go.Proofs.YtglcapkmeecknaaDoorW.PrintLast Go.Proofs.YtglcapkmeecknaaDoorW.PrintMore
set_option linter.unusedVariables false
set_option linter.unusedSimpArgs false
attribute [local go_sem high] eqS24
def salt0 : ByteArray := strOfNums (List.replicate 64 0)
theorem one_ok : mayE 16384 1 ⟨#[]⟩ ⟨#[]⟩ ⟨#[]⟩ salt0 ⟨#[123, 125]⟩ = 0 := by kernel_rfl
def oneB (kf : Nat → BitVec 32) (x : St) : List Int := packed kf x false 16384 1 ⟨#[]⟩ ⟨#[]⟩ ⟨#[]⟩ salt0 ⟨#[123, 125]⟩
theorem one_len (kf : Nat → BitVec 32) (x : St) : (oneB kf x).length = 16384 := (packed_len kf x false 16384 1 ⟨#[]⟩ ⟨#[]⟩ ⟨#[]⟩ salt0 ⟨#[123, 125]⟩).2 one_ok
theorem one_at (kf : Nat → BitVec 32) (x : St) : (oneB kf x)[4096]? = some 123 ∧ (oneB kf x)[4098]? = some 0 := by
  have h := (packed_segs kf x false 16384 1 ⟨#[]⟩ ⟨#[]⟩ ⟨#[]⟩ salt0 ⟨#[123, 125]⟩ one_ok).s4096
  have e : ((16384 : Int).toNat - 4096) = 12288 := by decide
  have eb : bytesOf ⟨#[123, 125]⟩ = [123, 125] := by decide
  rw [e, eb] at h
  have h0 : (S (oneB kf x) 4096 12288)[0]? = ([(123 : Int), 125] ++ List.replicate (12288 - [(123 : Int), 125].length) 0)[0]? := by unfold oneB; rw [h]
  have h2 : (S (oneB kf x) 4096 12288)[2]? = ([(123 : Int), 125] ++ List.replicate (12288 - [(123 : Int), 125].length) 0)[2]? := by unfold oneB; rw [h]
  rw [S_get, if_pos (by omega)] at h0 h2
  refine ⟨h0, ?_⟩
  rw [List.getElem?_append_right (by simp), List.getElem?_replicate, if_pos (by simp)] at h2
  exact h2
theorem short_call (kf : Nat → BitVec 32) (x : St) (sec : Bool) (w : World) (A0 : Option Addr) (c : Nat) : Calls Tryd.prog 13 #[.slice A0 0 c, .bool sec] w fun e w' => e = .returned (.tuple #[.agg (unV kf x sec []), .int .i64 (unE kf x sec [])]) ∧ Below w.heap.size w w' := by
  have hE : unE kf x sec [] = 5 := by unfold unE; rw [if_pos (by decide)]
  have hV : unV kf x sec [] = zero8 := by unfold unV; rw [hE, if_neg (by decide)]
  rw [hE, hV]
  have HBz : Below w.heap.size w ((w.alloc (.cells zero8 24)).alloc (.cells zero8 24)) := below_alloc (below_alloc (Below.refl _ w) _) _
  have B4z : ((w.alloc (.cells zero8 24)).alloc (.cells zero8 24)).heap[w.heap.size]? = some (.cells zero8 24 (0, 0)) := blk_alloc (blk_new w _) _
  go_enter Tryd.func13, Tryd.ntmps13
  go_wp2_with fail
  exact bodyPost_ret (results_ct Tryd.results13 _ _ w.heap.size 24 zero8 (0, 0) _ rfl B4z Tryd.underlying24 rfl (by kernel_rfl)) rfl ⟨rfl, HBz⟩
theorem spot_none {w : World} {A : Option Addr} {b : List Int} (h : Kd.C (Kd.int .u8) w A b.length b) : b = [] ∨ ∃ g o, A = some ⟨g, o, none⟩ := by
  rcases Nat.eq_zero_or_pos b.length with h0 | h0
  · exact .inl (List.eq_nil_of_length_eq_zero h0)
  · obtain ⟨ad, rfl, hx⟩ := Kd.at_int h (0 : Int) (by omega) (by omega)
    refine .inr ⟨ad.block, ad.off, ?_⟩
    have e : ad.add (0 : Int).toNat = ad := by simp [Addr.add]
    rw [e] at hx
    obtain ⟨g, o, sp⟩ := ad
    cases sp with
    | none => rfl
    | some k =>
      exfalso
      unfold World.cell? at hx
      split at hx
      · simp at hx
      · cases hx
theorem any_call (kf : Nat → BitVec 32) (x : St) (sec : Bool) (w : World) (A : Option Addr) (c : Nat) (b : List Int) (hlc : b.length ≤ c) (hb : Byt b) (hl : b.length ≤ 140737488355328) (hC : Kd.C (Kd.int .u8) w A b.length b) (hm : Mags w) (hT : Lib.Utf8Tabs 6 7 w) (hD : DigTab kf x w) :
    Calls Tryd.prog 13 #[.slice A b.length c, .bool sec] w fun e w' => e = .returned (.tuple #[.agg (unV kf x sec b), .int .i64 (unE kf x sec b)]) ∧ Below w.heap.size w w' := by
  rcases spot_none hC with rfl | ⟨g, o, rfl⟩
  · exact short_call kf x sec w A c
  · exact unpack_call kf x sec w g o c b hlc hb hl ⟨hC, hm, hT, hD⟩
theorem raw_ok (kf : Nat → BitVec 32) (x : St) (b : List Int) (hb : Byt b) (h : unE kf x false b = 0) : ∃ (z1 z2 : Int) (z3 z4 z5 z6 z7 : ByteArray), unV kf x false b = #[.bool false, .int .i64 z1, .int .u64 z2, .string z3, .string z4, .string z5, .string z6, .string z7] ∧ mayE z1 z2 z3 z4 z5 z6 z7 = 0 ∧ packed kf x false z1 z2 z3 z4 z5 z6 z7 = b ∧ -9223372036854775808 ≤ z1 ∧ z1 ≤ 9223372036854775807 ∧ 0 ≤ z2 := by
  obtain ⟨h1, h2, h3⟩ := packed_unpack kf x false b hb h
  obtain ⟨b1, b2, _⟩ := isHd_bd (may_zero h1).1
  have hq := (num_lt64 (b.drop 16) (hb.drop 16) 8 (Nat.le_refl _) (by rw [List.length_drop]; omega)).1
  exact ⟨_, _, _, _, _, _, _, h3, h1, h2, by omega, by omega, hq⟩
set_option maxHeartbeats 1000000 in
set_option maxRecDepth 100000 in
theorem back_call (kf : Nat → BitVec 32) (x : St) (y0 : Bool) (y1 y2 : Int) (y3 y4 y5 y6 y7 : ByteArray) (hh0 : -9223372036854775808 ≤ y1) (hh1 : y1 ≤ 9223372036854775807) (hq0 : 0 ≤ y2) (w : World) (A0 : Option Addr) (c0 : Nat) (b0 : List Int) (hc0 : b0.length ≤ c0) (hb0 : Byt b0) (hl : b0.length ≤ 140737488355328) (hC : Kd.C (Kd.int .u8) w A0 b0.length b0)
    (hm : Mags w) (hT : Lib.Utf8Tabs 6 7 w) (hD : DigTab kf x w) :
    Calls Tryd.prog 5 #[.agg #[.bool y0, .int .i64 y1, .int .u64 y2, .string y3, .string y4, .string y5, .string y6, .string y7], .slice A0 b0.length c0] w fun e w' => e = .returned (.bool true) ∧ Below w.heap.size w w' := by
  have HC := Aside0.mk hC
  have HM := Aside0.mk hm
  have HT := Aside0.mk hT
  have HD := Aside0.mk hD
  have HB0 := Aside0.mk hb0
  have HL := Aside0.mk hl
  have HC0 := Aside0.mk hc0
  have HH := Aside0.mk (And.intro hh0 (And.intro hh1 hq0))
  clear hC hm hT hD hb0 hl hc0 hh0 hh1 hq0
  have hmk : ∀ W : World, _ := print_make_int (P := Tryd.prog) 25 5 (.int .u8 0) 1 Tryd.underlying25 n78.info5 rfl (by decide) 64 (by omega) (by decide)
  rw [show (64 : Int).toNat = 64 from rfl, made_nums] at hmk
  generalize hZ : (nums .u8 (List.replicate 64 0)).toArray = Z at *
  have hcv : (convert 25 9 (.slice (some ⟨w.heap.size + 2, 0, none⟩) 64 64)).run Tryd.prog (((w.alloc (.cells #[.bool y0, .int .i64 y1, .int .u64 y2, .string y3, .string y4, .string y5, .string y6, .string y7] 24)).alloc (.cells #[.bool false, .int .i64 16384, .int .u64 1, .string ⟨#[]⟩, .string ⟨#[]⟩, .string ⟨#[]⟩, .string ⟨#[]⟩, .string ⟨#[]⟩] 24)).alloc (.cells Z 5)) = .ok (.string salt0) (((w.alloc (.cells #[.bool y0, .int .i64 y1, .int .u64 y2, .string y3, .string y4, .string y5, .string y6, .string y7] 24)).alloc (.cells #[.bool false, .int .i64 16384, .int .u64 1, .string ⟨#[]⟩, .string ⟨#[]⟩, .string ⟨#[]⟩, .string ⟨#[]⟩, .string ⟨#[]⟩] 24)).alloc (.cells Z 5)) := by
    have hz := blk_new ((w.alloc (.cells #[.bool y0, .int .i64 y1, .int .u64 y2, .string y3, .string y4, .string y5, .string y6, .string y7] 24)).alloc (.cells #[.bool false, .int .i64 16384, .int .u64 1, .string ⟨#[]⟩, .string ⟨#[]⟩, .string ⟨#[]⟩, .string ⟨#[]⟩, .string ⟨#[]⟩] 24)) (.cells Z 5)
    rw [World.size_alloc, World.size_alloc, ← hZ] at hz
    rw [← hZ]
    exact str_ (row_C (L := List.replicate 64 0) hz (by simp))
  clear hZ
  go_enter Tryd.func5, Tryd.ntmps5
  go_upto_region 6 with (fail)
  have hBd : Below w.heap.size w (((w.alloc (.cells #[.bool y0, .int .i64 y1, .int .u64 y2, .string y3, .string y4, .string y5, .string y6, .string y7] 24)).alloc (.cells #[.bool false, .int .i64 16384, .int .u64 1, .string ⟨#[]⟩, .string ⟨#[]⟩, .string ⟨#[]⟩, .string salt0, .string ⟨#[123, 125]⟩] 24)).alloc (.cells Z 5)) := below_alloc (below_alloc (below_alloc (Below.refl _ w) _) _) _
  have hN : (((w.alloc (.cells #[.bool y0, .int .i64 y1, .int .u64 y2, .string y3, .string y4, .string y5, .string y6, .string y7] 24)).alloc (.cells #[.bool false, .int .i64 16384, .int .u64 1, .string ⟨#[]⟩, .string ⟨#[]⟩, .string ⟨#[]⟩, .string salt0, .string ⟨#[123, 125]⟩] 24)).alloc (.cells Z 5)).heap[w.heap.size]? = some (.cells #[.bool y0, .int .i64 y1, .int .u64 y2, .string y3, .string y4, .string y5, .string y6, .string y7] 24 (0, 0)) := blk_alloc (blk_alloc (blk_new w _) _) _
  have h5 : (((w.alloc (.cells #[.bool y0, .int .i64 y1, .int .u64 y2, .string y3, .string y4, .string y5, .string y6, .string y7] 24)).alloc (.cells #[.bool false, .int .i64 16384, .int .u64 1, .string ⟨#[]⟩, .string ⟨#[]⟩, .string ⟨#[]⟩, .string salt0, .string ⟨#[123, 125]⟩] 24)).alloc (.cells Z 5)).heap[w.heap.size + 1]? = some (.cells #[.bool false, .int .i64 16384, .int .u64 1, .string ⟨#[]⟩, .string ⟨#[]⟩, .string ⟨#[]⟩, .string salt0, .string ⟨#[123, 125]⟩] 24 (0, 0)) := by
    have h := blk_new (w.alloc (.cells #[.bool y0, .int .i64 y1, .int .u64 y2, .string y3, .string y4, .string y5, .string y6, .string y7] 24)) (.cells #[.bool false, .int .i64 16384, .int .u64 1, .string ⟨#[]⟩, .string ⟨#[]⟩, .string ⟨#[]⟩, .string salt0, .string ⟨#[123, 125]⟩] 24)
    rw [World.size_alloc] at h
    exact blk_alloc h _
  clear hmk hcv
  generalize (((w.alloc (.cells #[.bool y0, .int .i64 y1, .int .u64 y2, .string y3, .string y4, .string y5, .string y6, .string y7] 24)).alloc (.cells #[.bool false, .int .i64 16384, .int .u64 1, .string ⟨#[]⟩, .string ⟨#[]⟩, .string ⟨#[]⟩, .string salt0, .string ⟨#[123, 125]⟩] 24)).alloc (.cells Z 5)) = W0 at *
  have HBd := Aside0.mk hBd
  have HN := Aside0.mk hN
  have hp := pack_call kf x false 16384 1 ⟨#[]⟩ ⟨#[]⟩ ⟨#[]⟩ salt0 ⟨#[123, 125]⟩ (by omega) (by omega) (by omega) W0 (HD.out.below hBd) ⟨(HM.out.below hBd).m0, (HM.out.below hBd).m1⟩
  rw [one_ok] at hp
  have HP := Aside0.mk hp
  clear hp hBd hN
  go_wp2_with (first | ((with_reducible refine gate_ (.load 24 (.tmp 5)) rfl ?_); refine wpList_load_row rfl 24 (.tmp 5) rfl (w.heap.size + 1) rfl 24 #[.bool false, .int .i64 16384, .int .u64 1, .string ⟨#[]⟩, .string ⟨#[]⟩, .string ⟨#[]⟩, .string salt0, .string ⟨#[123, 125]⟩] (0, 0) _ h5 Tryd.underlying24 rfl (by kernel_rfl) ?_) | fail)
  refine HP.out.mono ?_
  rintro e W1 ⟨v, rfl, hR, hb1⟩
  obtain ⟨g1, rfl, hrow⟩ : ∃ g1, v = .slice (some ⟨g1, 0, none⟩) 16384 16384 ∧ Row W1 g1 (oneB kf x) := by
    have hl := one_len kf x
    rcases hR with ⟨_, hn⟩ | ⟨g1, hv, _, hrow⟩
    · unfold oneB at hl
      rw [hn] at hl
      simp at hl
    · refine ⟨g1, ?_, hrow⟩
      rw [hv]
      unfold oneB at hl
      rw [hl]
  have k1 : W1.cell? ⟨g1, 4096, none⟩ = some (.int .u8 123) := by
    have h := row_at hrow 4096 (by rw [one_len]; omega)
    rw [List.getD_eq_getElem?_getD, (one_at kf x).1] at h
    exact h
  have k2 : W1.cell? ⟨g1, 4098, none⟩ = some (.int .u8 0) := by
    have h := row_at hrow 4098 (by rw [one_len]; omega)
    rw [List.getD_eq_getElem?_getD, (one_at kf x).2] at h
    exact h
  have HB1 := Aside0.mk (HBd.out.trans (hb1.mono HBd.out.size))
  have HN1 := Aside0.mk (blk_below HN.out hb1)
  have HG1 := Aside0.mk (blk_lt hrow)
  clear hR hrow hb1 HP h5 HBd HN
  go_upto_if 44 with (first | (go_at_call 8; refine (l03.num_call 0 _).mono ?_; rintro e W2 ⟨rfl, hb2⟩; have k1' : W2.cell? ⟨g1, 4096, none⟩ = some (.int .u8 123) := (hb2.cell HG1.out).trans k1; have k2' : W2.cell? ⟨g1, 4098, none⟩ = some (.int .u8 0) := (hb2.cell HG1.out).trans k2; have HB2 := Aside0.mk (HB1.out.trans (hb2.mono HB1.out.size)); have HN2 := Aside0.mk (blk_below HN1.out hb2); clear k1 k2 hb2 HB1 HN1) | fail)
  clear k1' k2' HG1
  have hp := pack_call kf x y0 y1 y2 y3 y4 y5 y6 y7 HH.out.1 HH.out.2.1 HH.out.2.2 W2 (HD.out.below HB2.out) ⟨(HM.out.below HB2.out).m0, (HM.out.below HB2.out).m1⟩
  have hlen := packed_len kf x y0 y1 y2 y3 y4 y5 y6 y7
  have hun := unpack_packed kf x y0 y1 y2 y3 y4 y5 y6 y7 HH.out.2.2
  have hE0 : mayE y1 y2 y3 y4 y5 y6 y7 = 0 → 16384 ≤ y1 ∧ y1 ≤ 4194304 := fun h => by
    obtain ⟨b1, b2, _⟩ := isHd_bd (may_zero h).1
    exact ⟨b1, b2⟩
  have hnil : mayE y1 y2 y3 y4 y5 y6 y7 ≠ 0 → packed kf x y0 y1 y2 y3 y4 y5 y6 y7 = [] := fun h => by unfold packed; rw [if_neg h]
  have hrng : Byt (packed kf x y0 y1 y2 y3 y4 y5 y6 y7) := by
    unfold packed
    split
    · exact rng_splice (packA_rng _ _ _ _ _ _ _ _) (fun y hy => r06.dig_rng _ y hy)
    · intro y hy
      simp at hy
  generalize packed kf x y0 y1 y2 y3 y4 y5 y6 y7 = P at *
  generalize mayE y1 y2 y3 y4 y5 y6 y7 = E at *
  have HP := Aside0.mk hp
  have HLEN := Aside0.mk hlen
  have HUN := Aside0.mk hun
  have HE0 := Aside0.mk hE0
  have HNIL := Aside0.mk hnil
  have HRNG := Aside0.mk hrng
  clear hp hlen hun hE0 hnil hrng
  go_wp2_with (first | ((with_reducible refine gate_ (.load 24 (.tmp 2)) rfl ?_); refine wpList_load_row rfl 24 (.tmp 2) rfl w.heap.size rfl 24 #[.bool y0, .int .i64 y1, .int .u64 y2, .string y3, .string y4, .string y5, .string y6, .string y7] (0, 0) _ HN2.out Tryd.underlying24 rfl (by kernel_rfl) ?_) | fail)
  refine HP.out.mono ?_
  rintro e W3 ⟨v, rfl, hR, hb3⟩
  have HR := Aside0.mk hR
  have HB3 := Aside0.mk (HB2.out.trans (hb3.mono HB2.out.size))
  have HN3 := Aside0.mk (blk_below HN2.out hb3)
  clear hR hb3 HP HB2 HN2
  go_upto_if 52 with (first | (go_at_call 8; refine (l03.num_call E _).mono ?_; rintro e W4 ⟨rfl, hb4⟩; have HR4 := Aside0.mk (HR.out.below hb4); have HB4 := Aside0.mk (HB3.out.trans (hb4.mono HB3.out.size)); have HN4 := Aside0.mk (blk_below HN3.out hb4); clear hb4 HR HB3 HN3) | fail)
  go_cut [6] (fun v6 wx => Below w.heap.size w wx)
  case first =>
    by_cases hE : E = 0
    · subst hE
      obtain ⟨n1, n2⟩ := HE0.out rfl
      have hl := HLEN.out.2 rfl
      obtain ⟨u1, u2, u3⟩ := HUN.out rfl
      obtain ⟨g3, rfl, hrow⟩ : ∃ g3, v = .slice (some ⟨g3, 0, none⟩) P.length P.length ∧ Row W4 g3 P := by
        rcases HR4.out with ⟨_, hn⟩ | ⟨g3, hv, _, hrow⟩
        · rw [hn] at hl
          simp at hl
          omega
        · exact ⟨g3, hv, hrow⟩
      have hEnv : Env kf x g3 0 P W4 := ⟨row_C hrow (by omega), HM.out.below HB4.out, Utf8Tabs_below HT.out HB4.out, HD.out.below HB4.out⟩
      have HU1 := Aside0.mk (unpack_call kf x y0 W4 g3 0 P.length P (Nat.le_refl _) HRNG.out (by omega) hEnv)
      have HU2 := Aside0.mk (fun W (hW : Below W4.heap.size W4 W) => unpack_call kf x (!y0) W g3 0 P.length P (Nat.le_refl _) HRNG.out (by omega) (hEnv.below hW))
      rw [u1, u2] at HU1
      rw [u3] at HU2
      obtain ⟨z0, z1, z2, z3, z4, z5, z6, z7, hV⟩ := unV_form kf x (!y0) P
      rw [hV] at HU2
      have f0 : W4.cell? ⟨w.heap.size, 0, none⟩ = some (.bool y0) := (blk_cell HN4.out 0).trans rfl
      clear hl u1 u2 u3 hrow hEnv hV n1 n2
      go_wp2_with fail
      refine HU1.out.mono ?_
      rintro e W5 ⟨rfl, hb5⟩
      have HN5 := Aside0.mk (blk_below HN4.out hb5)
      have HW5 := Aside0.mk hb5
      have f1 : (W5.alloc (.cells #[.bool y0, .int .i64 y1, .int .u64 y2, .string y3, .string y4, .string y5, .string y6, .string y7] 24)).cell? ⟨w.heap.size, 0, none⟩ = some (.bool y0) := (blk_cell (blk_alloc HN5.out _) 0).trans rfl
      clear hb5 f0 HU1 HN4
      go_wp2_with fail
      refine (HU2.out _ (below_alloc HW5.out _)).mono ?_
      rintro e W6 ⟨rfl, hb6⟩
      have K8 := Aside0.mk (blk_below (blk_new W5 (.cells #[.bool y0, .int .i64 y1, .int .u64 y2, .string y3, .string y4, .string y5, .string y6, .string y7] 24)) hb6)
      have HN6 := Aside0.mk (blk_below (blk_alloc HN5.out (.cells #[.bool y0, .int .i64 y1, .int .u64 y2, .string y3, .string y4, .string y5, .string y6, .string y7] 24)) hb6)
      have HW6 := Aside0.mk ((below_alloc HW5.out (.cells #[.bool y0, .int .i64 y1, .int .u64 y2, .string y3, .string y4, .string y5, .string y6, .string y7] 24)).trans (hb6.mono (below_alloc HW5.out _).size))
      clear hb6 f1 HU2 HN5 HW5
      generalize W5.heap.size = g8 at *
      go_wp2_with fail
      refine (l03.num_call 0 _).mono ?_
      rintro e W7 ⟨rfl, hb7⟩
      have K87 := Aside0.mk (blk_below (blk_alloc K8.out _) hb7)
      have HN7 := Aside0.mk (blk_below (blk_alloc HN6.out _) hb7)
      have HW7 := Aside0.mk ((below_alloc HW6.out _).trans (hb7.mono (below_alloc HW6.out _).size))
      clear hb7 K8 HN6 HW6
      go_wp2_with (first | ((with_reducible refine gate_ (.load 24 (.tmp 8)) rfl ?_); refine gate_guard (by rfl) ?_; refine wpList_load_row rfl 24 (.tmp 8) rfl g8 rfl 24 #[.bool y0, .int .i64 y1, .int .u64 y2, .string y3, .string y4, .string y5, .string y6, .string y7] (0, 0) _ K87.out Tryd.underlying24 rfl (by kernel_rfl) ?_) | ((with_reducible refine gate_ (.load 24 (.tmp 2)) rfl ?_); refine gate_guard (by rfl) ?_; refine wpList_load_row rfl 24 (.tmp 2) rfl w.heap.size rfl 24 #[.bool y0, .int .i64 y1, .int .u64 y2, .string y3, .string y4, .string y5, .string y6, .string y7] (0, 0) _ HN7.out Tryd.underlying24 rfl (by kernel_rfl) ?_) | (go_at_call 8; refine (l03.num_call 81 _).mono ?_; rintro e W8 ⟨rfl, hb8⟩; have HW8 := Aside0.mk (HW7.out.trans (hb8.mono HW7.out.size)); clear hb8 HW7) | fail)
      go_meet
      exact HB4.out.trans (HW8.out.mono HB4.out.size)
    · have hB := HNIL.out hE
      have he : (E == 0) = false := beq_eq_false_iff_ne.mpr hE
      have hR4 := HR4.out
      rw [hB] at hR4
      rcases hR4 with ⟨rfl, _⟩ | ⟨g3, rfl, _, _⟩
      · clear hB hE
        go_wp2_with fail
        go_meet
        exact HB4.out
      · clear hB hE
        go_wp2_with fail
        go_meet
        exact HB4.out
  case rest =>
    have HBc := Aside0.mk hcut
    have hraw := any_call kf x false wc A0 c0 b0 HC0.out HB0.out HL.out (Kd.C_below HC.out hcut) (HM.out.below hcut) (Utf8Tabs_below HT.out hcut) (HD.out.below hcut)
    clear hcut HR4 HB4 HN4 HLEN HUN HE0 HNIL HRNG
    by_cases hE : unE kf x false b0 = 0
    · obtain ⟨z1, z2, z3, z4, z5, z6, z7, hV, q1, q2, q3, q4, q5⟩ := raw_ok kf x b0 HB0.out hE
      rw [hV, hE] at hraw
      have HRAW := Aside0.mk hraw
      have Q1 := Aside0.mk q1
      have Q2 := Aside0.mk q2
      clear hraw hV hE q1 q2
      go_wp2_with fail
      refine HRAW.out.mono ?_
      rintro e W1 ⟨rfl, hb1⟩
      have HB1 := Aside0.mk (HBc.out.trans (hb1.mono HBc.out.size))
      clear hb1 HRAW HBc
      go_wp2_with fail
      refine (l03.num_call 0 _).mono ?_
      rintro e W2 ⟨rfl, hb2⟩
      have K2 := Aside0.mk (blk_below (blk_new W1 (.cells #[.bool false, .int .i64 z1, .int .u64 z2, .string z3, .string z4, .string z5, .string z6, .string z7] 24)) hb2)
      have HB2 := Aside0.mk ((below_alloc HB1.out _).trans (hb2.mono (below_alloc HB1.out _).size))
      clear hb2 HB1
      generalize W1.heap.size = g1 at *
      have hp := pack_call kf x false z1 z2 z3 z4 z5 z6 z7 q3 q4 q5 W2 (HD.out.below HB2.out) ⟨(HM.out.below HB2.out).m0, (HM.out.below HB2.out).m1⟩
      rw [Q1.out, Q2.out] at hp
      have HP := Aside0.mk hp
      clear hp
      go_wp2_with (first | ((with_reducible refine gate_ (.load 24 (.tmp 12)) rfl ?_); refine wpList_load_row rfl 24 (.tmp 12) rfl g1 rfl 24 #[.bool false, .int .i64 z1, .int .u64 z2, .string z3, .string z4, .string z5, .string z6, .string z7] (0, 0) _ K2.out Tryd.underlying24 rfl (by kernel_rfl) ?_) | fail)
      refine HP.out.mono ?_
      rintro e W3 ⟨v, rfl, hR, hb3⟩
      have HB3 := Aside0.mk (HB2.out.trans (hb3.mono HB2.out.size))
      have HR := Aside0.mk hR
      clear hb3 HB2 hR HP K2
      go_wp2_with fail
      refine (l03.num_call 0 _).mono ?_
      rintro e W4 ⟨rfl, hb4⟩
      obtain ⟨A, c, rfl, h1, h2⟩ := (HR.out.below hb4).reads (by have := HL.out; omega)
      have hB4 := HB3.out.trans (hb4.mono HB3.out.size)
      have HS := Aside0.mk (PHeaderPacks.cofferbook_SameBytes.calls _ A c b0 A0 c0 b0 true W4 h2 h1 (Kd.C_below HC.out hB4) HC0.out (l03.same_self b0 (by have := HL.out; omega)))
      have HB4 := Aside0.mk hB4
      clear hb4 h1 h2 hB4 HB3 HR
      go_wp2_with (first | (go_at_call 9; refine HS.out.mono ?_; rintro e W5 ⟨rfl, hd5⟩; have HB5 := Aside0.mk (HB4.out.trans (hd5.below.mono HB4.out.size)); clear hd5 HS HB4) | fail)
      go_ret
      exact ⟨rfl, HB5.out⟩
    · have hV : unV kf x false b0 = zero8 := by unfold unV; rw [if_neg hE]
      rw [hV] at hraw
      have he : (unE kf x false b0 != 0) = true := bne_iff_ne.mpr hE
      generalize unE kf x false b0 = E' at *
      have HRAW := Aside0.mk hraw
      clear hraw hV hE
      go_wp2_with fail
      refine HRAW.out.mono ?_
      rintro e W1 ⟨rfl, hb1⟩
      have HB1 := Aside0.mk (HBc.out.trans (hb1.mono HBc.out.size))
      clear hb1 HRAW HBc
      go_wp2_with fail
      refine (l03.num_call E' _).mono ?_
      rintro e W2 ⟨rfl, hb2⟩
      have K2 := Aside0.mk (blk_below (blk_new W1 (.cells zero8 24)) hb2)
      have HB2 := Aside0.mk ((below_alloc HB1.out _).trans (hb2.mono (below_alloc HB1.out _).size))
      clear hb2 HB1
      generalize W1.heap.size = g1 at *
      go_wp2_with (first | ((with_reducible refine gate_ (.load 24 (.tmp 12)) rfl ?_); refine wpList_load_row rfl 24 (.tmp 12) rfl g1 rfl 24 zero8 (0, 0) _ K2.out Tryd.underlying24 rfl (by kernel_rfl) ?_) | fail)
      go_ret
      exact ⟨rfl, HB2.out⟩
end Go.Proofs.YtglcapkmeecknaaDoor.l05
