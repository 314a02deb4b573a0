import Derived.Test.YtkpgklkplmljdaaOrderPlain
import Derived.Test.YtkpgklkplmljdaaShelf2
import Derived.Test.YtkpgklkplmljdaaOrderTail
import Derived.Sort.OwnSortedInts
namespace Go.Proofs.Ytkpgklkplmljdaa.PProbeOrders
open Go.RowKit Go.Proofs.YtkpgklkplmljdaaW.PrintWords Go.Proofs.YtkpgklkplmljdaaW.PrintLast Go.Proofs.YtkpgklkplmljdaaW.PrintMore
attribute [local go_sem] max2_int min2_int max_two min_two max_three min_three max_four min_four
set_option linter.unusedVariables false
set_option linter.unusedSimpArgs false
theorem sel_snoc (p : Int) (l : List S45) (k : Nat) (hk : k < l.length) : ordSel p (l.take (k + 1)) = ordSel p (l.take k) ++ (if ((rd_T45 l k).f1 == p) = true then [(rd_T45 l k).f0] else []) := by
  unfold ordSel rd_T45
  rw [List.take_succ_eq_append_getElem hk, List.filter_append, List.map_append]
  congr 1
  have e : l.getD ((k : Nat) : Int).toNat z45 = l[k] := by simp [hk]
  rw [e]
  by_cases h : (l[k].f1 == p) = true <;> simp_all
theorem sel_le (p : Int) (l : List S45) (k : Nat) : (ordSel p (l.take k)).length ≤ l.length := by
  unfold ordSel
  rw [List.length_map]
  exact Nat.le_trans (List.length_filter_le _ _) (by simp; omega)

theorem ordAt_le (q : Nat) (l : List S45) : (ordAt q l).length ≤ 2 * l.length := by
  have h : ∀ p, (ordSel p l).length ≤ l.length := fun p => by unfold ordSel; rw [List.length_map]; exact List.length_filter_le _ _
  unfold ordAt ordered ordSort
  have h1 := h 1; have h2 := h 2
  split
  · simp
  · split <;> simp <;> omega
theorem ordAt_next (q : Nat) (hq : q = 2 ∨ q = 1) (l : List S45) : ordAt (q - 1) l = (ordAt q l ++ ordSel q l).take (ordAt q l).length ++ ordSort ((ordAt q l ++ ordSel q l).drop (ordAt q l).length) := by
  rw [List.take_left, List.drop_left]
  rcases hq with rfl | rfl <;> simp [ordAt, ordered]


theorem sort_tail {w : World} {base : Nat} {ok : Nat → Prop} {Ao p : Option Addr} {co cap : Nat} {a b : List Int} (HO : Kd.R (Kd.int .i64) 3 w base ok (.slice Ao (a.length + b.length) co) (a ++ b)) (hlen : b.length < 4611686018427387904)
    (hp : b ≠ [] → p = Ao.map (fun x => x.add a.length)) :
    Calls Try.prog 15 #[.slice p b.length cap] w fun e w' => e = .returned (.tuple #[]) ∧ Kd.R (Kd.int .i64) 3 w' base ok (.slice Ao (a.length + b.length) co) (a ++ ordSort b) ∧ w.grownBy w' (Value.slice Ao (a.length + b.length) co).ownBlock := by
  have ho := Kd.own_of_R HO
  rw [List.length_append] at ho
  by_cases hb : b = []
  · subst hb
    refine (Try.slices_Sort_int_none p cap w).mono ?_
    rintro e w' ⟨rfl, rfl⟩
    refine ⟨rfl, by simpa [ordSort] using HO, ⟨rfl, rfl, rfl, Nat.le_refl _, fun _ _ _ => rfl⟩⟩
  · have hp' := hp hb
    have hbl : 0 < b.length := List.length_pos_iff.mpr hb
    obtain ⟨g, rfl⟩ : ∃ g, Ao = some ⟨g, 0, none⟩ := by
      obtain ⟨_, ⟨h0, h1⟩ | ⟨g', cap', cur, hv, _⟩⟩ := ho
      · omega
      · cases hv; exact ⟨_, rfl⟩
    have ho' : w.ownsRow base 3 1 (.slice (some ⟨g, 0, none⟩) (a ++ b).length co) (a ++ b).length (encs (Value.int .i64) (a ++ b)) := by rw [List.length_append]; exact ho
    have hgs : g < w.heap.size := own_lt ho' g rfl
    have hH := tail_holds (n := a.length) ho' (by simp)
    rw [List.drop_left] at hH
    have e1 : p = some ⟨g, a.length, none⟩ := by rw [hp']; simp [Addr.add]; intro h; simp [h]
    subst e1
    refine (Try.slices_Sort_int g a.length cap b w hH hgs hlen).mono ?_
    rintro e w' ⟨rfl, m, os, rfl⟩
    have hs := tail_sorted (n := a.length) (m := m) (os := os) (ts := ordSort b) ho' (by simp) (by simp [ordSort])
    rw [List.take_left] at hs
    have e2 : (a ++ ordSort b).length = a.length + b.length := by simp [ordSort]
    refine ⟨rfl, ?_, tail_grown _⟩
    rw [e2] at hs
    exact Kd.R_of_own (by rw [e2]; exact hs) HO.1

set_option maxHeartbeats 8000000 in
set_option maxRecDepth 100000 in
theorem probe_Order.calls (a0_0 : ByteArray) (a0_1 : ByteArray) (a0_2 : ByteArray) (a0_3 : ByteArray) (a0_4 : Int) (a0_5 : Int) (a0_6 : Int) (a0_7 : Int) (a0_8 : Int) (a0_9 : ByteArray) (a0_10 : ByteArray) (A0_11 : Option Addr) (c0_11 : Nat) (l0_11 : List (S45)) (A0_12 : Option Addr) (c0_12 : Nat) (l0_12 : List (S99)) (A0_13 : Option Addr) (c0_13 : Nat) (l0_13 : List (S101)) (a0_14 : Bool) (a0_15 : Int) (a0_16 : Int) (a0_17 : Bool) (a0_18 : Int) (a0_19 : Int) (a0_20 : Int) (a0_21 : Int) (a0_22 : Int) (a0_23 : Bool) (a0_24 : Int) (a0_25 : ByteArray) (A0_26 : Option Addr) (c0_26 : Nat) (l0_26 : List (S103)) (r : List Int) (w : World) (hr0_11 : Kd.C k45 w A0_11 l0_11.length l0_11) (hc0_11 : l0_11.length ≤ c0_11) (hr0_12 : Kd.C k99 w A0_12 l0_12.length l0_12) (hc0_12 : l0_12.length ≤ c0_12) (hr0_13 : Kd.C k101 w A0_13 l0_13.length l0_13) (hc0_13 : l0_13.length ≤ c0_13) (hr0_26 : Kd.C k103 w A0_26 l0_26.length l0_26) (hc0_26 : l0_26.length ≤ c0_26) (h : probe_Order.f a0_0 a0_1 a0_2 a0_3 a0_4 a0_5 a0_6 a0_7 a0_8 a0_9 a0_10 l0_11 l0_12 l0_13 a0_14 a0_15 a0_16 a0_17 a0_18 a0_19 a0_20 a0_21 a0_22 a0_23 a0_24 a0_25 l0_26 = some r) :
    Calls Try.prog 8 #[.agg #[.string a0_0, .string a0_1, .string a0_2, .string a0_3, .int .i64 a0_4, .int .u64 a0_5, .int .i64 a0_6, .int .i64 a0_7, .int .i64 a0_8, .string a0_9, .string a0_10, .slice A0_11 l0_11.length c0_11, .slice A0_12 l0_12.length c0_12, .slice A0_13 l0_13.length c0_13, .bool a0_14, .int .u64 a0_15, .int .u64 a0_16, .bool a0_17, .int .i64 a0_18, .int .u64 a0_19, .int .u64 a0_20, .int .i64 a0_21, .int .i64 a0_22, .bool a0_23, .int .u64 a0_24, .string a0_25, .slice A0_26 l0_26.length c0_26]] w fun e w' => ∃ v0_ : Value, e = .returned (v0_) ∧ Kd.R (Kd.int .i64) 3 w' w.heap.size (fun _ => True) v0_ r ∧ Below w.heap.size w w' := by
  unfold probe_Order.f at h
  split at h
  case isFalse => cases h
  case isTrue hlen =>
  injection h with h
  subst h
  have hu39 := Try.underlying39
  have hu45 := Try.underlying45
  clear hr0_12 hr0_13 hr0_26 hc0_12 hc0_13 hc0_26
  go_enter Try.func8, Try.ntmps8
  go_wp2_with fail
  go_loopw [3, 4] (fun v3 v4 w' => ∃ q : Nat, q ≤ 2 ∧ v4 = .int .i64 q ∧ Kd.R (Kd.int .i64) 3 w' w.heap.size (fun k_ => k_ ≠ w.heap.size) v3 (ordAt q l0_11) ∧ w'.cell? ⟨w.heap.size, 11, none⟩ = some (.slice A0_11 l0_11.length c0_11) ∧ w.heap.size < w'.heap.size ∧ Below w.heap.size w w') (fun _ v4 _ => (intOf v4).toNat)
  case atStart => exact ⟨2, Nat.le_refl _, rfl, Kd.R_nil _ _ _ _ _, by simp, by simp, ((Below.refl _ w).alloc (Nat.le_refl _) _)⟩
  case round =>
    obtain ⟨q, hq, rfl, HO, hm, hsz, HB⟩ := hrel
    rcases Nat.eq_zero_or_pos q with rfl | hq0
    · have hgt : decide ((0 : Int) < ((0 : Nat) : Int)) = false := by simp
      obtain ⟨Ao, co, rfl⟩ := Kd.R_slice HO
      go_wp2
      go_ret
      exact ⟨_, rfl, Kd.R_mono HO (fun _ _ => trivial), HB⟩
    · have hgt : decide ((0 : Int) < (q : Int)) = true := by simp; omega
      obtain ⟨Ao, co, rfl⟩ := Kd.R_slice HO
      go_wp2_with fail
      go_loopw [3, 17] (fun v3 v17 w' => ∃ k : Nat, k ≤ l0_11.length ∧ v17 = .int .i64 k ∧ Kd.R (Kd.int .i64) 3 w' w.heap.size (fun k_ => k_ ≠ w.heap.size) v3 (ordAt q l0_11 ++ ordSel q (l0_11.take k)) ∧ w'.cell? ⟨w.heap.size, 11, none⟩ = some (.slice A0_11 l0_11.length c0_11) ∧ w.heap.size < w'.heap.size ∧ Below w.heap.size w w') (fun _ v17 _ => l0_11.length - (intOf v17).toNat)
      case atStart => exact ⟨0, Nat.zero_le _, rfl, by simpa [ordSel] using HO, by simpa using hm, hsz, HB⟩
      case round =>
        clear HO hm hsz HB
        obtain ⟨k, hk, rfl, HO, hm, hsz, HB⟩ := hrel
        rcases Nat.lt_or_ge k l0_11.length with hkl | hkl
        · have hlt : decide ((k : Int) < (l0_11.length : Int)) = true := by simp; omega
          obtain ⟨ad, e11, c0, c1, c2, c3, c4, c5, c6, c7, c8⟩ := at_T45 hr0_11 k (by omega) (by omega)
          cases e11
          simp only [Int.toNat_natCast] at c0 c1 c2 c3 c4 c5 c6 c7 c8
          replace c0 := (HB.cell (World.block_lt_of_cell? w _ c0)).trans c0
          replace c1 := (HB.cell (World.block_lt_of_cell? w _ c1)).trans c1
          replace c2 := (HB.cell (World.block_lt_of_cell? w _ c2)).trans c2
          replace c3 := (HB.cell (World.block_lt_of_cell? w _ c3)).trans c3
          replace c4 := (HB.cell (World.block_lt_of_cell? w _ c4)).trans c4
          replace c5 := (HB.cell (World.block_lt_of_cell? w _ c5)).trans c5
          replace c6 := (HB.cell (World.block_lt_of_cell? w _ c6)).trans c6
          replace c7 := (HB.cell (World.block_lt_of_cell? w _ c7)).trans c7
          replace c8 := (HB.cell (World.block_lt_of_cell? w _ c8)).trans c8
          generalize hy : rd_T45 l0_11 k = y at *
          have hs := sel_snoc q l0_11 k hkl
          rw [hy] at hs
          have hl8 : ((ordAt q l0_11 ++ ordSel q (l0_11.take k)).length + 1) * 8 ≤ 140737488355328 := by
            have h1 := ordAt_le q l0_11
            have h2 := sel_le q l0_11 k
            rw [List.length_append]
            omega
          have hmb : ∀ (os : Obj), (wr.alloc os).cell? ⟨w.heap.size, 11, none⟩ = some (.slice (some ad) l0_11.length c0_11) := fun os => by
            rw [World.cell?_alloc_some _ _ _ (by rw [hm]; rfl)]; exact hm
          cases hc : (y.f1 == (q : Int))
          · rw [hc] at hs
            go_wp2_with fail
            refine ⟨⟨k + 1, by omega, by go_num, ?_, hmb _, by simp; omega, HB.alloc (Nat.le_of_lt hsz) _⟩, by simp [intOf]; omega⟩
            rw [hs]
            simpa using Kd.R_alloc HO _
          · rw [hc] at hs
            go_wp2_with ((with_reducible refine gate_builtin (b := .append) (xs := #[.tmp 25, .tmp 28]) rfl ?_); at_builtin; refine Kd.R_append (Kd.int .i64) (w0 := w) w.heap.size rfl (.tmp 25) (.tmp 28) 40 3 (.int .i64 0) 8 rfl Try.underlying40 info3 rfl (by decide) (by omega) u3 (ordAt q l0_11 ++ ordSel q (l0_11.take k)) y.f0 [.int .i64 y.f0] (fun k_ => k_ ≠ w.heap.size) (fun _ => False) rfl ?hx ?aP (fun _ hk => hk.elim) ?aF ?aO ?aB ?aS hl8 ?_; (case hx => show Value.slice (some ⟨wr.heap.size + 1, 0, none⟩) 1 1 = Value.slice (some ⟨(wr.alloc _).heap.size, 0, none⟩) 1 1; simp); (case aP => exact rfl); (case aF => intro k_ hk_; simp at hk_; omega); (case aO => exact Kd.R_alloc HO _); (case aB => exact HB.alloc (Nat.le_of_lt hsz) _); (case aS => simp; omega); intro v1 w1 ho hb hg hat)
            refine ⟨⟨k + 1, by omega, by go_num, ?_, hg.cell (hmb _) (fun e => HO.1 _ e.symm rfl), ?_, hb⟩, by simp [intOf]; omega⟩
            · rw [hs]; simpa [List.append_assoc] using ho
            · have := hg.size; simp at this; omega
        · obtain rfl : k = l0_11.length := by omega
          have hlt : decide ((l0_11.length : Int) < (l0_11.length : Int)) = false := by simp
          rw [List.take_length] at HO
          obtain ⟨Ao2, co2, rfl⟩ := Kd.R_slice HO
          have hl2 : (ordSel q l0_11).length < 4611686018427387904 := by have := sel_le q l0_11 l0_11.length; rw [List.take_length] at this; omega
          have HO' := HO
          rw [List.length_append] at HO'
          have hcap := own_le (Kd.own_of_R HO')
          go_wp2_with fail
          case inl heq =>
            refine (sort_tail HO' hl2 ?hp).mono ?_
            case hp => intro hb; exfalso; have := List.length_pos_iff.mpr hb; omega
            rintro e w2 ⟨rfl, hR, hg⟩
            go_wp2
            have eq_ := ordAt_next q (by omega) l0_11
            rw [List.take_left, List.drop_left] at eq_
            refine ⟨⟨q - 1, by omega, by congr 1; omega, by rw [eq_]; first | exact hR | (have hc2 : co2 = (ordAt q l0_11).length := (by omega); rw [hc2] at hR; exact hR), hg.cell hm (fun e => HO'.1 _ e.symm rfl), by have := hg.size; omega, pw_below_grown HB _ HB.size hg (own_base (Kd.own_of_R HO'))⟩, by simp [intOf]; omega⟩
          case inr heq =>
            refine (sort_tail HO' hl2 (fun _ => rfl)).mono ?_
            rintro e w2 ⟨rfl, hR, hg⟩
            go_wp2
            have eq_ := ordAt_next q (by omega) l0_11
            rw [List.take_left, List.drop_left] at eq_
            refine ⟨⟨q - 1, by omega, by congr 1; omega, by rw [eq_]; first | exact hR | (have hc2 : co2 = (ordAt q l0_11).length := (by omega); rw [hc2] at hR; exact hR), hg.cell hm (fun e => HO'.1 _ e.symm rfl), by have := hg.size; omega, pw_below_grown HB _ HB.size hg (own_base (Kd.own_of_R HO'))⟩, by simp [intOf]; omega⟩
end Go.Proofs.Ytkpgklkplmljdaa.PProbeOrders
