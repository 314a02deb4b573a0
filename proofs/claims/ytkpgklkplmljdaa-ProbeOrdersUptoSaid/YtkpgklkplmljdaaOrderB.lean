import Derived.Test.YtkpgklkplmljdaaOrderPlain
import Derived.Test.YtkpgklkplmljdaaOrderA
import Derived.Sort.OwnSortedInts
namespace Go.Proofs.Ytkpgklkplmljdaa.PProbeOrders
open Go.RowKit Go.Proofs.YtkpgklkplmljdaaW.PrintWords Go.Proofs.YtkpgklkplmljdaaW.PrintLast Go.Proofs.YtkpgklkplmljdaaW.PrintMore
attribute [local go_sem] max2_int min2_int max_two min_two max_three min_three max_four min_four
set_option linter.unusedVariables false
set_option linter.unusedSimpArgs false

theorem ordSort_sorted (l : List Int) : (ordSort l).Pairwise (fun x y => x ≤ y) := by
  have h := List.pairwise_mergeSort (le := fun x y : Int => decide (x ≤ y)) (by intro a b c h1 h2; simp at *; omega) (by intro a b; simp; omega) l
  exact h.imp (by intro a b hab; simpa using hab)
theorem ordSort_eq {l t : List Int} (hp : t.Perm l) (hs : t.Pairwise (fun x y => x ≤ y)) : t = ordSort l := by
  refine List.Perm.eq_of_pairwise (le := fun x y : Int => x ≤ y) (fun a b _ _ h1 h2 => by omega) hs (ordSort_sorted l) (hp.trans (List.mergeSort_perm l _).symm)
/-- What the insertion leaves. -/
theorem inserted {pre post : List Int} {y : Int} (l : List Int) (hs : ordSort l = pre ++ post) (h1 : ∀ z ∈ post, y < z) (h2 : ∀ z ∈ pre, z ≤ y) : pre ++ y :: post = ordSort (l ++ [y]) := by
  have hso := ordSort_sorted l
  rw [hs, List.pairwise_append] at hso
  refine ordSort_eq ?_ ?_
  · have hp : (pre ++ post).Perm l := hs ▸ List.mergeSort_perm l _
    exact (List.perm_middle).trans ((List.Perm.cons y hp).trans (List.perm_append_singleton y l).symm)
  · rw [List.pairwise_append]
    refine ⟨hso.1, List.pairwise_cons.2 ⟨fun z hz => by have := h1 z hz; omega, hso.2.1⟩, fun z hz u hu => ?_⟩
    rcases List.mem_cons.1 hu with rfl | hu
    · exact h2 z hz
    · exact hso.2.2 z hz u hu
theorem last_le {pre : List Int} {z y : Int} {post l : List Int} (hs : ordSort l = (pre ++ [z]) ++ post) (hz : z ≤ y) : ∀ u ∈ pre ++ [z], u ≤ y := by
  have hso := ordSort_sorted l
  rw [hs, List.pairwise_append, List.pairwise_append] at hso
  intro u hu
  rcases List.mem_append.1 hu with hu | hu
  · have := hso.1.2.2 u hu z (by simp); omega
  · simp at hu; omega

theorem rd_mid {u v : List Int} {z : Int} {K : Nat} (hK : K = u.length) : rdOf 0 (u ++ z :: v) (K : Int) = z := by
  subst hK; simp [rdOf]
theorem swap_mid {u v : List Int} {z y : Int} {K : Nat} (hK : K = u.length) : ((u ++ z :: y :: v).set (K + 1) z).set K y = u ++ y :: z :: v := by
  subst hK; simp [List.set_append]

theorem wrapK (K : Nat) (h : K < 9223372036854775808) : IntKind.i64.wrap (K : Int) = (K : Int) :=
  (i64_w _).trans (by unfold wrap64; omega)

set_option maxHeartbeats 8000000 in
set_option maxRecDepth 100000 in
theorem cofferref15_Order.calls (a0_0 : ByteArray) (a0_1 : ByteArray) (a0_2 : ByteArray) (a0_3 : ByteArray) (a0_4 : Int) (a0_5 : Int) (a0_6 : Int) (a0_7 : Int) (a0_8 : Int) (a0_9 : ByteArray) (a0_10 : ByteArray) (A0_11 : Option Addr) (c0_11 : Nat) (l0_11 : List (S45)) (A0_12 : Option Addr) (c0_12 : Nat) (l0_12 : List (S99)) (A0_13 : Option Addr) (c0_13 : Nat) (l0_13 : List (S101)) (a0_14 : Bool) (a0_15 : Int) (a0_16 : Int) (a0_17 : Bool) (a0_18 : Int) (a0_19 : Int) (a0_20 : Int) (a0_21 : Int) (a0_22 : Int) (a0_23 : Bool) (a0_24 : Int) (a0_25 : ByteArray) (A0_26 : Option Addr) (c0_26 : Nat) (l0_26 : List (S103)) (r : List Int) (w : World) (hr0_11 : Kd.C k45 w A0_11 l0_11.length l0_11) (hc0_11 : l0_11.length ≤ c0_11) (hr0_12 : Kd.C k99 w A0_12 l0_12.length l0_12) (hc0_12 : l0_12.length ≤ c0_12) (hr0_13 : Kd.C k101 w A0_13 l0_13.length l0_13) (hc0_13 : l0_13.length ≤ c0_13) (hr0_26 : Kd.C k103 w A0_26 l0_26.length l0_26) (hc0_26 : l0_26.length ≤ c0_26) (h : cofferref15_Order.f a0_0 a0_1 a0_2 a0_3 a0_4 a0_5 a0_6 a0_7 a0_8 a0_9 a0_10 l0_11 l0_12 l0_13 a0_14 a0_15 a0_16 a0_17 a0_18 a0_19 a0_20 a0_21 a0_22 a0_23 a0_24 a0_25 l0_26 = some r) :
    Calls Try.prog 9 #[.agg #[.string a0_0, .string a0_1, .string a0_2, .string a0_3, .int .i64 a0_4, .int .u64 a0_5, .int .i64 a0_6, .int .i64 a0_7, .int .i64 a0_8, .string a0_9, .string a0_10, .slice A0_11 l0_11.length c0_11, .slice A0_12 l0_12.length c0_12, .slice A0_13 l0_13.length c0_13, .bool a0_14, .int .u64 a0_15, .int .u64 a0_16, .bool a0_17, .int .i64 a0_18, .int .u64 a0_19, .int .u64 a0_20, .int .i64 a0_21, .int .i64 a0_22, .bool a0_23, .int .u64 a0_24, .string a0_25, .slice A0_26 l0_26.length c0_26]] w fun e w' => ∃ v0_ : Value, e = .returned (v0_) ∧ Kd.R (Kd.int .i64) 3 w' w.heap.size (fun _ => True) v0_ r ∧ Below w.heap.size w w' := by
  unfold cofferref15_Order.f at h
  split at h
  case isFalse => cases h
  case isTrue hlen =>
  injection h with h
  subst h
  have hu39 := Try.underlying39
  have hu45 := Try.underlying45
  clear hr0_12 hr0_13 hr0_26 hc0_12 hc0_13 hc0_26
  go_enter Try.func9, Try.ntmps9
  go_wp2_with fail
  go_loopw [3, 4] (fun v3 v4 w' => ∃ q : Nat, q ≤ 2 ∧ v4 = .int .i64 q ∧ Kd.R (Kd.int .i64) 3 w' w.heap.size (fun k_ => k_ ≠ w.heap.size) v3 (ordAt q l0_11) ∧ w'.cell? ⟨w.heap.size, 11, none⟩ = some (.slice A0_11 l0_11.length c0_11) ∧ w.heap.size < w'.heap.size ∧ Below w.heap.size w w') (fun _ v4 _ => (intOf v4).toNat)
  case atStart => exact ⟨2, Nat.le_refl _, rfl, Kd.R_nil _ _ _ _ _, by simp, by simp, ((Below.refl _ w).alloc (Nat.le_refl _) _)⟩
  case round =>
    obtain ⟨q, hq, rfl, HO, hm, hsz, HB⟩ := hrel
    rcases Nat.eq_zero_or_pos q with rfl | hq0
    · have hgt : decide ((1 : Int) ≤ ((0 : Nat) : Int)) = false := by simp
      obtain ⟨Ao, co, rfl⟩ := Kd.R_slice HO
      go_wp2
      go_ret
      exact ⟨_, rfl, Kd.R_mono HO (fun _ _ => trivial), HB⟩
    · have hgt : decide ((1 : Int) ≤ (q : Int)) = true := by simp; omega
      obtain ⟨Ao, co, rfl⟩ := Kd.R_slice HO
      go_wp2_with fail
      go_loopw [3, 6] (fun v3 v6 w' => ∃ k : Nat, k ≤ l0_11.length ∧ v6 = .int .i64 k ∧ Kd.R (Kd.int .i64) 3 w' w.heap.size (fun k_ => k_ ≠ w.heap.size) v3 (ordAt q l0_11 ++ ordSort (ordSel q (l0_11.take k))) ∧ w'.cell? ⟨w.heap.size, 11, none⟩ = some (.slice A0_11 l0_11.length c0_11) ∧ w.heap.size < w'.heap.size ∧ Below w.heap.size w w') (fun _ v6 _ => l0_11.length - (intOf v6).toNat)
      case atStart => exact ⟨0, Nat.zero_le _, rfl, by simpa [ordSel, ordSort] using HO, by simpa using hm, hsz, HB⟩
      case round =>
        clear HO hm hsz HB
        obtain ⟨k, hk, rfl, HO, hm, hsz, HB⟩ := hrel
        rcases Nat.lt_or_ge k l0_11.length with hkl | hkl
        · have hlt : decide ((k : Int) < (l0_11.length : Int)) = true := by simp; omega
          obtain ⟨ad, e11, c0, c1, c2, c3, c4, c5, c6, c7, c8⟩ := at_T45 hr0_11 k (by omega) (by omega)
          cases e11
          simp only [Int.toNat_natCast] at c0 c1 c2 c3 c4 c5 c6 c7 c8
          replace c0 := (HB.cell (World.block_lt_of_cell? w _ c0)).trans c0
          replace c1 := (HB.cell (World.block_lt_of_cell? w _ c1)).trans c1
          generalize hy : rd_T45 l0_11 k = y at *
          have hs := sel_snoc q l0_11 k hkl
          rw [hy] at hs
          have hl8 : ((ordAt q l0_11 ++ ordSort (ordSel q (l0_11.take k))).length + 1) * 8 ≤ 140737488355328 := by
            have h1 := ordAt_le q l0_11
            have h2 := sel_le q l0_11 k
            simp only [List.length_append, ordSort, List.length_mergeSort]
            omega
          cases hc : (y.f1 == (q : Int))
          · have hc' : (y.f1 != (q : Int)) = true := by simp [bne, hc]
            rw [hc] at hs
            obtain ⟨Ao2, co2, rfl⟩ := Kd.R_slice HO
            go_wp2_with fail
            refine ⟨⟨k + 1, by omega, by go_num, ?_, hm, hsz, HB⟩, by simp [intOf]; omega⟩
            rw [hs]
            simpa using HO
          · have hc' : (y.f1 != (q : Int)) = false := by simp [bne, hc]
            rw [hc] at hs
            generalize ha : ordAt q l0_11 = a at *
            generalize hsl : ordSel q (l0_11.take k) = sl at *
            have hbn : a.length + sl.length ≤ 17592186044416 := by simp only [List.length_append, ordSort, List.length_mergeSort] at hl8; omega
            have hlen_s : (ordSort sl).length = sl.length := by simp [ordSort]
            go_wp2_with ((with_reducible refine gate_builtin (b := .append) (xs := #[.tmp 30, .tmp 37]) rfl ?_); at_builtin; refine Kd.R_append (Kd.int .i64) (w0 := w) w.heap.size rfl (.tmp 30) (.tmp 37) 40 3 (.int .i64 0) 8 rfl Try.underlying40 info3 rfl (by decide) (by omega) u3 (a ++ ordSort sl) y.f0 [.int .i64 y.f0] (fun k_ => k_ ≠ w.heap.size) (fun _ => False) rfl rfl ?aP (fun _ hk => hk.elim) ?aF HO HB HB.size hl8 ?_; (case aP => exact rfl); (case aF => intro k_ hk_; omega); intro v1 w1 ho hb hg hat; have hm1 := hg.cell hm (fun e => HO.1 _ e.symm rfl); have hsz1 : w.heap.size < w1.heap.size := Nat.lt_of_lt_of_le hsz hg.size; clear HO HB hm hsz hg hat hl8 c0 c1 c2 c3 c4 c5 c6 c7 c8; obtain ⟨g, co3, rfl, hgb, hgl, _⟩ := Kd.R_form ho (by simp; omega); generalize hn0 : (a ++ ordSort sl ++ [y.f0]).length = n0 at ho ⊢)
            have hn1 : n0 = a.length + sl.length + 1 := by rw [← hn0]; simp [hlen_s]; omega
            go_loopw [7] (fun v7 w' => ∃ (pre post : List Int), ordSort sl = pre ++ post ∧ (∀ z ∈ post, y.f0 < z) ∧ v7 = .int .i64 ((a.length + pre.length : Nat) : Int) ∧ Kd.R (Kd.int .i64) 3 w' w.heap.size (fun k_ => k_ ≠ w.heap.size) (.slice (some ⟨g, 0, none⟩) n0 co3) (a ++ (pre ++ y.f0 :: post)) ∧ w'.cell? ⟨w.heap.size, 11, none⟩ = some (.slice (some ad) l0_11.length c0_11) ∧ w.heap.size < w'.heap.size ∧ Below w.heap.size w w') (fun v7 _ => (intOf v7).toNat)
            case atStart =>
              refine ⟨ordSort sl, [], by simp, by simp, ?_, by simpa [List.append_assoc] using ho, hm1, hsz1, hb⟩
              rw [hlen_s, hn1, show (((a.length + sl.length + 1 : Nat) : Int) - 1) = ((a.length + sl.length : Nat) : Int) by omega, ← i64_w, wrapK _ (by omega)]
            case round =>
              clear ho hm1 hsz1 hb
              obtain ⟨pre, post, hpp, hpost, rfl, HO, hm, hsz, HB⟩ := hrel
              have hn3 : pre.length + post.length = sl.length := by rw [← hlen_s, hpp, List.length_append]
              have hcc : pre = [] ∨ ∃ p z, pre = p ++ [z] := by rcases List.eq_nil_or_concat pre with h_ | ⟨p, z, h_⟩; exact .inl h_; exact .inr ⟨p, z, by rw [h_, List.concat_eq_append]⟩
              rcases hcc with rfl | ⟨pre', z, rfl⟩
              · have hgt2 : decide ((a.length : Int) < ((a.length + ([] : List Int).length : Nat) : Int)) = false := by simp
                go_wp2_with fail
                repeat (go_quiet (fail); try go_wp2_with fail)
                have hnew : [] ++ y.f0 :: post = ordSort (ordSel q (l0_11.take (k + 1))) := by rw [hs]; exact inserted sl hpp hpost (by simp)
                refine ⟨⟨k + 1, by omega, by go_num, by rw [← hnew]; exact Kd.R_drewN HO _, hm, hsz, pw_below_drewN HB _⟩, by simp [intOf]; omega⟩
              · rw [List.length_append, List.length_singleton] at hn3
                obtain ⟨K, hK⟩ : ∃ K, K = a.length + pre'.length := ⟨_, rfl⟩
                have hK1 : a.length + (pre' ++ [z]).length = K + 1 := by simp [hK]; omega
                rw [hK1]
                have e1 : a ++ ((pre' ++ [z]) ++ y.f0 :: post) = (a ++ pre') ++ z :: (y.f0 :: post) := by simp
                have e2 : a ++ ((pre' ++ [z]) ++ y.f0 :: post) = (a ++ pre' ++ [z]) ++ y.f0 :: post := by simp
                have k1 := Kd.R_celln 0 HO ((K + 1 : Nat) : Int) (by omega) (by omega)
                have k0 := Kd.R_celln 0 HO ((K : Nat) : Int) (by omega) (by omega)
                rw [e2, rd_mid (by simp [hK]; omega)] at k1
                rw [e1, rd_mid (by simp [hK])] at k0
                obtain ⟨k1, f1⟩ := k1
                obtain ⟨k0, f0⟩ := k0
                obtain ⟨x7, hx7⟩ : ∃ x : Int, ((K + 1 : Nat) : Int) = x := ⟨_, rfl⟩
                obtain ⟨j, hj⟩ : ∃ x : Int, ((K : Nat) : Int) = x := ⟨_, rfl⟩
                rw [hx7] at k1 f1 ⊢
                rw [hj] at k0 f0
                have hw1 : IntKind.i64.wrap (x7 - 1) = j := by rw [← hx7, ← hj, show ((K + 1 : Nat) : Int) - 1 = (K : Int) by omega]; exact wrapK K (by omega)
                have hw2 : wrap64 (x7 - 1) = j := (i64_w _).symm.trans hw1
                have p1 : (0 ≤ x7) = True := eq_true (by omega)
                have q1 : (x7 < (n0 : Int)) = True := eq_true (by omega)
                have p0 : (0 ≤ j) = True := eq_true (by omega)
                have q0 : (j < (n0 : Int)) = True := eq_true (by omega)
                have hgt2 : decide ((a.length : Int) < x7) = true := by simp; omega
                cases hyz : decide (y.f0 < z)
                · go_wp2_with fail
                  repeat (go_quiet (fail); try go_wp2_with fail)
                  have hnew : (pre' ++ [z]) ++ y.f0 :: post = ordSort (ordSel q (l0_11.take (k + 1))) := by rw [hs]; exact inserted sl hpp hpost (last_le hpp (by simpa using hyz))
                  refine ⟨⟨k + 1, by omega, by go_num, by rw [← hnew]; exact Kd.R_drewN HO _, hm, hsz, pw_below_drewN HB _⟩, by simp [intOf]; omega⟩
                · go_wp2_with fail
                  repeat (go_quiet (fail); try go_wp2_with fail)
                  have hyz' : y.f0 < z := by simpa using hyz
                  have gne : g ≠ w.heap.size := HO.1 g rfl
                  have gb : w.heap.size ≤ g := own_base (Kd.own_of_R HO) g rfl
                  have P1 := Kd.R_putg (Kd.R_drewN HO nq) x7 z
                  have P2 := Kd.R_putg P1.1 j y.f0
                  have hxs : ((a ++ ((pre' ++ [z]) ++ y.f0 :: post)).set x7.toNat z).set j.toNat y.f0 = a ++ (pre' ++ y.f0 :: (z :: post)) := by
                    rw [← hx7, ← hj, Int.toNat_natCast, Int.toNat_natCast, e1, swap_mid (by simp [hK])]
                    simp
                  refine ⟨⟨pre', z :: post, by rw [hpp]; simp, ?_, by rw [← hj, hK], by rw [← hxs]; exact P2.1, P2.2.cell (P1.2.cell hm (by simpa using Ne.symm gne)) (by simpa using Ne.symm gne), by simpa using hsz, below_set (below_set (pw_below_drewN HB _) gb) gb⟩, by rw [← hx7, ← hj]; simp [intOf]⟩
                  intro u hu
                  rcases List.mem_cons.1 hu with rfl | hu
                  · exact hyz'
                  · exact hpost u hu
        · obtain rfl : k = l0_11.length := by omega
          have hlt : decide ((l0_11.length : Int) < (l0_11.length : Int)) = false := by simp
          rw [List.take_length] at HO
          have eq_ := ordAt_next q (by omega) l0_11
          rw [List.take_left, List.drop_left] at eq_
          rw [← eq_] at HO
          go_wp2_with fail
          refine ⟨⟨q - 1, by omega, by congr 1; omega, HO, hm, hsz, HB⟩, by simp [intOf]; omega⟩
end Go.Proofs.Ytkpgklkplmljdaa.PProbeOrders
