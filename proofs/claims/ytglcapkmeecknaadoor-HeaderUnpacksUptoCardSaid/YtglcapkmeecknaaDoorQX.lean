/- The walk of cofferbook.Bytes: all that lies in the block of its result. (A printed walk, turned by bytesfull.py.) The walk of cofferbook.WholeBytes: the marks behind a slice are whole; what Bytes lays. The walk of the law HeaderUnpacks. (Merged by merge.py.) -/
import Derived.Test.YtglcapkmeecknaaDoorPHeaderUnpacksx0
import Derived.Test.YtglcapkmeecknaaDoorQB
import Derived.Test.YtglcapkmeecknaaDoorQK
import Derived.Test.YtglcapkmeecknaaDoorQV
import Derived.Test.YtglcapkmeecknaaDoorQE
/-! ## BytesF -/
namespace Go.Proofs.YtglcapkmeecknaaDoor.bytesf
open Go.RowKit Go.Proofs.YtglcapkmeecknaaDoorW.PrintWords Go.Proofs.YtglcapkmeecknaaDoorW.PrintLast Go.Proofs.YtglcapkmeecknaaDoorW.PrintMore Go.Proofs.YtglcapkmeecknaaDoor.PHeaderUnpacks
attribute [local go_sem] max2_int min2_int max_two min_two max_three min_three max_four min_four
set_option linter.unusedVariables false
set_option linter.unusedSimpArgs false
def full_Bytes.l0 : Nat → List Int → List Int → Int → Option (List Int)
  | 0, _, _, _ => none
  | k + 1, x0, x3, x4 => if x4 < 70 then (if x3.length < 140737488355328 then (full_Bytes.l0 k x0 (x3 ++ [(wrap64 (181 + x4)) % 256]) (wrap64 (x4 + 1))) else (none)) else (if 0 ≤ (x0.length : Int) then (if (x0.length : Int) ≤ (x3.length : Int) then (some x3) else (none)) else (none))
def full_Bytes.f (k : Nat) (l0 : List Int) : Option (List Int) := if ([] : List Int).length + l0.length < 140737488355328 then (full_Bytes.l0 k l0 (([] : List Int) ++ l0) 0) else (none)
set_option maxHeartbeats 8000000 in
set_option maxRecDepth 100000 in
theorem full_Bytes.calls (k : Nat) (A0 : Option Addr) (c0 : Nat) (l0 : List Int) (r : List Int) (w : World) (hr0 : Kd.C (Kd.int .u8) w A0 l0.length l0) (hc0 : l0.length ≤ c0) (h : full_Bytes.f k l0 = some r) :
    Calls Tryd.prog 11 #[.slice A0 l0.length c0] w fun e w' => ∃ (A : Option Addr) (c : Nat), e = .returned (.slice A l0.length c) ∧ Kd.R (Kd.int .u8) 5 w' w.heap.size (fun _ => True) (.slice A r.length c) r ∧ l0.length ≤ r.length ∧ Below w.heap.size w w' := by
  have HR0 := Aside0.mk hr0
  have HC0 := Aside0.mk hc0
  clear hr0 hc0
  have HB := Aside0.mk (Below.refl w.heap.size w)
  have H : (if ([] : List Int).length + l0.length < 140737488355328 then (full_Bytes.l0 k l0 (([] : List Int) ++ l0) 0) else (none)) = some r := h
  clear h
  by_cases c2 : ([] : List Int).length + l0.length < 140737488355328
  · rw [if_pos c2] at H
    have LMc2 := Aside0.mk c2
    clear c2
    obtain ⟨y101, hy101⟩ : ∃ y_ : List Int, y_ = (([] : List Int) ++ l0) := ⟨_, rfl⟩
    replace H : (full_Bytes.l0 k l0 y101 0) = some r := by first | (rw [hy101]; with_reducible exact H) | (have H2_ := (Option.bind_some _ _).symm.trans H; rw [hy101]; with_reducible exact H2_) | (have H2_ := (Option.bind_some _ _).symm.trans H; with_reducible exact H2_) | with_reducible exact H | (rw [hy101]; exact H) | exact H
    have Ny101 := Aside0.mk hy101
    clear hy101
    have H' := Aside0.mk H
    clear H
    go_enter Tryd.func11, Tryd.ntmps11
    go_wp2_with (first | ((with_reducible refine gate_builtin (b := .append) (xs := #[.tmp 6, .tmp 7]) rfl ?_); at_builtin; refine Kd.R_append_rows (Kd.int .u8) (w0 := w) w.heap.size rfl (.tmp 6) (.tmp 7) 25 5 (.int .u8 0) 1 rfl Tryd.underlying25 info5 rfl (by decide) (by omega) (.slice none 0 0) ([] : List Int) l0 _ _ _ (fun _ => True) (fun _ => False) rfl rfl ?aO ?aR (fun _ _ h => h) (fun _ h => h.elim) ?aF ?aB ?aS ?aL ?_; (case aR => repeat (first | exact HR0.out | (with_reducible refine Kd.C_alloc ?_ _) | (with_reducible refine Kd.C_drewN ?_ _) | (with_reducible refine Kd.C_drew ?_))); (case aB => exact (by repeat (first | (with_reducible first | exact HB.out | apply below_alloc | apply pw_below_drewN | apply below_drew1) | exact HB.out))); (case aF => exact (fun _ _ => trivial)); (case aO => exact ((Kd.R_nil _ _ _ _ (fun _ => True)))); (case aS => exact (below_size (by repeat (first | (with_reducible first | exact HB.out | apply below_alloc | apply pw_below_drewN | apply below_drew1) | exact HB.out)))); (case aL => have := LMc2.out; omega); intro v102 w3 ho hb hg hat; rw [← Ny101.out] at ho; have n0_ := Aside0.mk (hb); have n1_ := Aside0.mk (ho); clear HB; have HB := n0_; have HO103 := n1_; clear n0_ n1_; clear ho hb hg hat))
    go_loopg [3, 4] k (fun kq v3 v4 w' => ∃ (x3_1 : List Int) (x4_1 : Int), v4 = .int .i64 x4_1 ∧ Aside0 (full_Bytes.l0 kq l0 x3_1 x4_1 = some r) ∧ Aside0 (kq ≤ k) ∧ Aside0 (Kd.R (Kd.int .u8) 5 w' w.heap.size (fun _ => True) v3 x3_1) ∧ Aside0 (Below w.heap.size w w'))
    case atStart => exact ⟨(y101), (0), (by first | rfl | (simp; done) | (simp [*]; done)), H', ⟨Nat.le_refl _⟩, ⟨by (with_reducible repeat (first | apply Kd.R_alloc | apply Kd.R_drewN | apply Kd.R_drew)); exact HO103.out⟩, ⟨by repeat (first | (with_reducible first | exact HB.out | apply below_alloc | apply pw_below_drewN | apply below_drew1) | exact HB.out)⟩⟩
    case round =>
      clear H'
      try clear c1
      try clear c2
      try clear p2
      obtain ⟨x3_1, x4_1, rfl, HA, HK1, HO_3, HB⟩ := hrel
      cases gk with
      | zero => exact absurd HA.out (by simp [full_Bytes.l0])
      | succ k1 =>
        have H := HA.out
        clear HA
        simp only [full_Bytes.l0] at H
        by_cases c4 : x4_1 < 70
        · rw [if_pos c4] at H
          have c4b0 : decide (x4_1 < 70) = true := decide_eq_true c4
          clear c4
          by_cases c5 : x3_1.length < 140737488355328
          · rw [if_pos c5] at H
            have LMc5 := Aside0.mk c5
            clear c5
            obtain ⟨y104, hy104⟩ : ∃ y_ : List Int, y_ = (x3_1 ++ [(wrap64 (181 + x4_1)) % 256]) := ⟨_, rfl⟩
            replace H : (full_Bytes.l0 k1 l0 y104 (wrap64 (x4_1 + 1))) = some r := by first | (rw [hy104]; with_reducible exact H) | (have H2_ := (Option.bind_some _ _).symm.trans H; rw [hy104]; with_reducible exact H2_) | (have H2_ := (Option.bind_some _ _).symm.trans H; with_reducible exact H2_) | with_reducible exact H | (rw [hy104]; exact H) | exact H
            have Ny104 := Aside0.mk hy104
            clear hy104
            have H' := Aside0.mk H
            clear H
            go_wp2_with (first | ((with_reducible refine gate_builtin (b := .append) (xs := #[.tmp 13, .tmp 17]) rfl ?_); at_builtin; refine Kd.R_append (Kd.int .u8) (w0 := w) w.heap.size rfl (.tmp 13) (.tmp 17) 25 5 (.int .u8 0) 1 rfl Tryd.underlying25 info5 rfl (by decide) (by omega) u3 x3_1 ((wrap64 (181 + x4_1)) % 256) [.int .u8 ((wrap64 (181 + x4_1)) % 256)] (fun _ => True) (fun _ => False) rfl rfl ?aP (fun _ hk => hk.elim) ?aF ?aO ?aB ?aS ?aL ?_; (case aP => exact rfl); (case aB => exact (by repeat (first | (with_reducible first | exact HB.out | apply below_alloc | apply pw_below_drewN | apply below_drew1) | exact HB.out))); (case aF => exact (fun _ _ => trivial)); (case aO => exact (by (with_reducible repeat (first | apply Kd.R_alloc | apply Kd.R_drewN | apply Kd.R_drew)); exact HO_3.out)); (case aS => exact (below_size (by repeat (first | (with_reducible first | exact HB.out | apply below_alloc | apply pw_below_drewN | apply below_drew1) | exact HB.out)))); (case aL => have := LMc5.out; omega); intro v105 w6 ho hb hg hat; rw [← Ny104.out] at ho; have n0_ := Aside0.mk (hb); have n1_ := Aside0.mk (ho); clear HB; clear HO_3; have HB := n0_; have HO106 := n1_; clear n0_ n1_; clear ho hb hg hat))
            go_roundg k1
            case measure => have := HK1.out; omega
            case rel => exact ⟨(y104), (wrap64 (x4_1 + 1)), (by first | rfl | (simp; done) | (simp [*]; done)), H', ⟨by have := HK1.out; omega⟩, ⟨by (with_reducible repeat (first | apply Kd.R_alloc | apply Kd.R_drewN | apply Kd.R_drew)); exact HO106.out⟩, ⟨by repeat (first | (with_reducible first | exact HB.out | apply below_alloc | apply pw_below_drewN | apply below_drew1) | exact HB.out)⟩⟩
          · rw [if_neg c5] at H
            exact absurd H (by simp)
        · rw [if_neg c4] at H
          have c4b0 : decide (x4_1 < 70) = false := decide_eq_false c4
          clear c4
          by_cases c7 : 0 ≤ (l0.length : Int)
          · rw [if_pos c7] at H
            have c7b0 := eq_true c7
            have c7b1 : decide (0 ≤ (l0.length : Int)) = true := decide_eq_true c7
            clear c7
            by_cases c8 : (l0.length : Int) ≤ (x3_1.length : Int)
            · rw [if_pos c8] at H
              have c8b0 := eq_true c8
              have c8b1 : decide ((l0.length : Int) ≤ (x3_1.length : Int)) = true := decide_eq_true c8
              clear c8
              obtain rfl := Option.some.inj H
              obtain ⟨Ao9, co9, eo9⟩ := Kd.R_slice HO_3.out
              subst eo9
              have q10 : ((l0.length : Int) : Int) ≤ ((x3_1.length : Int) : Int) := of_decide_eq_true (by first | (with_reducible assumption) | assumption)
              obtain ⟨i010, hi010, _, hsz10, _⟩ := info_parts info5
              have hcut10 := cut_to (P := Tryd.prog) 25 5 .i64 Tryd.underlying25 hi010 Ao9 x3_1.length co9 (l0.length : Int) (of_decide_eq_true (by first | (with_reducible assumption) | assumption)) q10 (Kd.R_reads' HO_3.out).2.1
              have hle : l0.length ≤ x3_1.length := by omega
              have HLE := Aside0.mk hle
              clear hle hi010 hsz10
              replace q10 := eq_true q10
              go_wp2
              go_ret
              exact ⟨Ao9, co9, rfl, by (with_reducible repeat (first | apply Kd.R_alloc | apply Kd.R_drewN | apply Kd.R_drew)); exact HO_3.out, HLE.out, by repeat (first | (with_reducible first | exact HB.out | apply below_alloc | apply pw_below_drewN | apply below_drew1) | exact HB.out)⟩
            · rw [if_neg c8] at H
              exact absurd H (by simp)
          · rw [if_neg c7] at H
            exact absurd H (by simp)
  · rw [if_neg c2] at H
    exact absurd H (by simp)


end Go.Proofs.YtglcapkmeecknaaDoor.bytesf
/-! ## W15 -/
namespace Go.Proofs.YtglcapkmeecknaaDoor.w15
open Go Go.RowKit Go.Proofs.YtglcapkmeecknaaDoor.tk Go.Proofs.YtglcapkmeecknaaDoor.g31 Go.Proofs.YtglcapkmeecknaaDoor.g36 Go.Proofs.YtglcapkmeecknaaDoor.bytesf Go.Proofs.YtglcapkmeecknaaDoor.PHeaderPacks Go.Proofs.YtglcapkmeecknaaDoorW.PrintWords Go.Proofs.YtglcapkmeecknaaDoorW.PrintLast Go.Proofs.YtglcapkmeecknaaDoorW.PrintMore
set_option linter.unusedVariables false
set_option linter.unusedSimpArgs false
/-- The marks. -/
def marks (i : Nat) : List Int := (List.range i).map fun (j : Nat) => (181 + (j : Int)) % 256
theorem marks_succ (i : Nat) : marks (i + 1) = marks i ++ [(181 + (i : Int)) % 256] := by
  unfold marks
  rw [List.range_succ, List.map_append]
  rfl
theorem marks_len (i : Nat) : (marks i).length = i := by simp [marks]
theorem bytes_go (l : List Int) (hl : l.length ≤ 1099511627776) : ∀ (d k i : Nat), 70 - i = d → i ≤ 70 → d < k → full_Bytes.l0 k l (l ++ marks i) (i : Int) = some (l ++ marks 70)
  | 0, k, i, hd, hi, hk => by
    obtain ⟨k, rfl⟩ : ∃ m, k = m + 1 := ⟨k - 1, by omega⟩
    obtain rfl : i = 70 := by omega
    simp only [full_Bytes.l0]
    rw [if_neg (by omega), if_pos (by omega), if_pos (by rw [List.length_append]; omega)]
  | d + 1, k, i, hd, hi, hk => by
    obtain ⟨k, rfl⟩ : ∃ m, k = m + 1 := ⟨k - 1, by omega⟩
    simp only [full_Bytes.l0]
    have e1 : wrap64 (181 + (i : Int)) = 181 + (i : Int) := by unfold wrap64; omega
    have e2 : wrap64 ((i : Int) + 1) = ((i + 1 : Nat) : Int) := by unfold wrap64; omega
    rw [if_pos (by omega), if_pos (by rw [List.length_append, marks_len]; omega), e1, e2, List.append_assoc, ← marks_succ]
    exact bytes_go l hl d k (i + 1) (by omega) (by omega) (by omega)
theorem bytes_full (l : List Int) (hl : l.length ≤ 1099511627776) : full_Bytes.f 72 l = some (l ++ marks 70) := by
  unfold full_Bytes.f
  rw [if_pos (by simp; omega), List.nil_append]
  have h := bytes_go l hl 70 72 0 (by omega) (by omega) (by omega)
  simpa [marks] using h
theorem marks_at (b : List Int) (i : Nat) (h : i < 70) : rd (b ++ marks 70) ((b.length + i : Nat) : Int) = (181 + (i : Int)) % 256 := by
  rw [rd_nat, List.getElem?_append_right (by omega), Nat.add_sub_cancel_left]
  unfold marks
  rw [List.getElem?_map, List.getElem?_range h]
  rfl
set_option maxHeartbeats 1000000 in
set_option maxRecDepth 100000 in
theorem whole_call (w : World) (g c c' : Nat) (A' : Option Addr) (b : List Int) (hl : b.length ≤ 4194304) (hc : b.length + 70 ≤ c) (hc' : b.length ≤ c') (hC : Kd.C (Kd.int .u8) w (some ⟨g, 0, none⟩) (b ++ marks 70).length (b ++ marks 70)) (hC' : Kd.C (Kd.int .u8) w A' b.length b) :
    Calls Tryd.prog 15 #[.slice (some ⟨g, 0, none⟩) b.length c, .slice A' b.length c'] w fun e w' => e = .returned (.bool true) ∧ Below w.heap.size w w' := by
  obtain ⟨i5, hi5, hz5, hs5, hb5⟩ := info_parts n78.info5
  have hlen : (b ++ marks 70).length = b.length + 70 := by rw [List.length_append, marks_len]
  have hCb : Kd.C (Kd.int .u8) w (some ⟨g, 0, none⟩) b.length b := by
    have h := Kd.C_take (k := Kd.int .u8) hC (m := b.length) (by rw [hlen]; omega)
    rw [List.take_left] at h
    exact h
  have hsame : Calls Tryd.prog 9 #[.slice (some ⟨g, 0, none⟩) b.length c, .slice A' b.length c'] w fun e w' => e = .returned (.bool true) ∧ Below w.heap.size w w' :=
    (PHeaderPacks.cofferbook_SameBytes.calls _ (some ⟨g, 0, none⟩) c b A' c' b true w hCb (by omega) hC' hc' (l03.same_self b (by omega))).mono fun e w' ⟨he, hd⟩ => ⟨he, hd.below⟩
  have HSAME := Aside0.mk hsame
  clear hsame hCb hC'
  have hwn : wrap64 ((b.length : Int) + 70) = (b.length : Int) + 70 := by unfold wrap64; omega
  go_enter Tryd.func15, Tryd.ntmps15
  go_wp2_with (first | (go_at_call 9; refine HSAME.out.mono ?_; rintro e W1 ⟨rfl, hb1⟩) | fail)
  have HA := Aside0.mk hwn
  clear hwn
  go_loopw [7] (fun v7 wr => ∃ i : Nat, i ≤ 70 ∧ v7 = .int .i64 i ∧ wr = W1) (fun v7 _ => 70 - (intOf v7).toNat)
  case atStart => exact ⟨0, by omega, rfl, rfl⟩
  case round =>
    obtain ⟨i, hi, rfl, hwr⟩ := hrel
    rw [hwr]
    clear hwr
    rcases Nat.lt_or_ge i 70 with hil | hil
    · have hlt : decide ((i : Int) < 70) = true := by simp; omega
      have hwa : wrap64 ((b.length : Int) + (i : Int)) = ((b.length + i : Nat) : Int) := by unfold wrap64; omega
      have hwb : wrap64 (181 + (i : Int)) = 181 + (i : Int) := by unfold wrap64; omega
      have i0 : (0 : Int) ≤ ((b.length + i : Nat) : Int) := by omega
      have i1 : ((b.length + i : Nat) : Int) < (b.length : Int) + 70 := by omega
      obtain ⟨ad', ea, hx⟩ := Kd.at_int (Kd.C_below hC hb1) ((b.length + i : Nat) : Int) i0 (by rw [hlen]; omega)
      cases ea
      rw [Int.toNat_natCast, marks_at b i hil, add_plain] at hx
      go_wp2
      exact ⟨⟨i + 1, by omega, by go_num, trivial⟩, by simp [intOf]; omega⟩
    · obtain rfl : i = 70 := by omega
      have hlt : decide (((70 : Nat) : Int) < 70) = false := rfl
      go_wp2
      go_ret
      exact ⟨rfl, hb1⟩
end Go.Proofs.YtglcapkmeecknaaDoor.w15
/-! ## L04 -/
namespace Go.Proofs.YtglcapkmeecknaaDoor.l04
open Go Go.RowKit Go.Proofs.YtglcapkmeecknaaDoor.eqv Go.Proofs.YtglcapkmeecknaaDoor.d40 Go.Proofs.YtglcapkmeecknaaDoor.s28 Go.Proofs.YtglcapkmeecknaaDoor.u13 Go.Proofs.YtglcapkmeecknaaDoor.u14 Go.Proofs.YtglcapkmeecknaaDoor.w15 Go.Proofs.YtglcapkmeecknaaDoor.bytesf Go.Proofs.YtglcapkmeecknaaDoor.tk Go.Proofs.YtglcapkmeecknaaDoor.g31 Go.Proofs.YtglcapkmeecknaaDoor.g36 Go.Proofs.YtglcapkmeecknaaDoor.f29 Go.Proofs.YtglcapkmeecknaaDoor.p24 Go.Proofs.YtglcapkmeecknaaDoor.PHeaderPacks Go.Proofs.YtglcapkmeecknaaDoor.sha Go.Proofs.YtglcapkmeecknaaDoor.mem Go.Proofs.YtglcapkmeecknaaDoor.r12 Go.Proofs.YtglcapkmeecknaaDoor.h27 Go.Proofs.YtglcapkmeecknaaDoorW.PrintWords Go.Proofs.YtglcapkmeecknaaDoorW.PrintLast Go.Proofs.YtglcapkmeecknaaDoorW.PrintMore
set_option linter.unusedVariables false
set_option linter.unusedSimpArgs false
theorem Byt.set {b : List Int} (h : Byt b) (i : Nat) (x : Int) (hx : 0 ≤ x ∧ x < 256) : Byt (b.set i x) := by
  intro y hy
  rcases List.mem_or_eq_of_mem_set hy with h1 | h1
  · exact h y h1
  · rw [h1]; exact hx
/-- The block of a slice that Bytes has made. -/
def Own (w : World) (lo g c : Nat) (b : List Int) : Prop := lo ≤ g ∧ b.length + 70 ≤ c ∧ w.ownsRow lo 5 1 (.slice (some ⟨g, 0, none⟩) (b.length + 70) c) (b.length + 70) (nums .u8 (b ++ marks 70))
theorem own_form {w : World} {base n : Nat} {v : Value} {xs : List Value} (h : w.ownsRow base 5 1 v n xs) (hn : 0 < n) : ∃ g cap, v = .slice (some ⟨g, 0, none⟩) n cap ∧ base ≤ g ∧ n ≤ cap := by
  rcases h.2 with ⟨rfl, h1⟩ | ⟨g, cap, cur, rfl, hg, hh, hc, _⟩
  · have := h.1
    simp at this
    omega
  · exact ⟨g, cap, rfl, hg, hc⟩
theorem own_below_ {w w1 : World} {base n : Nat} {v : Value} {xs : List Value} (h : w.ownsRow base 5 1 v n xs) (hb : Below w.heap.size w w1) : w1.ownsRow base 5 1 v n xs := own_move h (fun k hk => hb.block k (own_lt h k hk))
theorem own_other {w : World} {base n c g' : Nat} {g : Nat} {xs : List Value} (h : w.ownsRow base 5 1 (.slice (some ⟨g, 0, none⟩) n c) n xs) (hne : g ≠ g') (i : Nat) (u : Value) : (w.setCell ⟨g', i, none⟩ u).ownsRow base 5 1 (.slice (some ⟨g, 0, none⟩) n c) n xs :=
  own_move h (fun k hk => Below.heap_setCell w ⟨g', i, none⟩ u k (by
    have : g = k := by simpa [Value.ownBlock] using hk
    rw [← this]
    exact hne))
theorem wrap448 (i j : Nat) (h : i < 32) (hj : j = 448 + i) : wrap64 (448 + (i : Int)) = (j : Int) := by unfold wrap64; omega
theorem was_form {w : World} {lo c : Nat} {A : Option Addr} {b : List Int} (h : Kd.R (Kd.int .u8) 5 w lo (fun _ => True) (.slice A b.length c) b) : b = [] ∨ ∃ g, A = some ⟨g, 0, none⟩ := by
  rcases Nat.eq_zero_or_pos b.length with h0 | h0
  · exact .inl (List.eq_nil_of_length_eq_zero h0)
  · obtain ⟨g, cap, hv, _, _⟩ := own_form (Kd.own_of_R h) h0
    injection hv with h1 _ _
    exact .inr ⟨g, h1⟩
attribute [local go_sem high] eqS24
theorem rshort_call (kf : Nat → BitVec 32) (x : St) (sec : Bool) (w : World) (A0 : Option Addr) (c : Nat) : Calls Tryd.prog 14 #[.slice A0 0 c, .bool sec] w fun e w' => e = .returned (.tuple #[.agg (unV kf x sec []), .int .i64 (unE kf x sec [])]) ∧ Below w.heap.size w w' := by
  have HBz : Below w.heap.size w ((w.alloc (.cells zero8 24)).alloc (.cells zero8 24)) := below_alloc (below_alloc (Below.refl _ w) _) _
  have B4z : ((w.alloc (.cells zero8 24)).alloc (.cells zero8 24)).heap[w.heap.size]? = some (.cells zero8 24 (0, 0)) := blk_alloc (blk_new w _) _
  have hE : unE kf x sec [] = 5 := by unfold unE; rw [if_pos (by decide)]
  have hV : unV kf x sec [] = zero8 := by unfold unV; rw [hE, if_neg (by decide)]
  rw [hE, hV]
  go_enter Tryd.func14, Tryd.ntmps14
  go_wp2_with fail
  exact bodyPost_ret (results_ct Tryd.results14 _ _ w.heap.size 24 zero8 (0, 0) _ rfl B4z Tryd.underlying24 rfl (by kernel_rfl)) rfl ⟨rfl, HBz⟩
theorem was_call (kf : Nat → BitVec 32) (x : St) (sec : Bool) (w : World) (A : Option Addr) (c : Nat) (b : List Int) (hlc : b.length ≤ c) (hb : Byt b) (hl : b.length ≤ 140737488355328) (hf : b = [] ∨ ∃ g, A = some ⟨g, 0, none⟩) (hC : Kd.C (Kd.int .u8) w A b.length b) (hT : RefTab kf x w) :
    Calls Tryd.prog 14 #[.slice A b.length c, .bool sec] w fun e w' => e = .returned (.tuple #[.agg (unV kf x sec b), .int .i64 (unE kf x sec b)]) ∧ Below w.heap.size w w' := by
  rcases hf with rfl | ⟨g, rfl⟩
  · exact rshort_call kf x sec w A c
  · exact runpack_call kf x sec w g 0 c b hlc hb hl ⟨hC, hT⟩
set_option maxHeartbeats 4000000 in
set_option maxRecDepth 100000 in
theorem unpacks_call (kf : Nat → BitVec 32) (x : St) (fixed : Bool) (w : World) (A0 : Option Addr) (c0 : Nat) (b0 : List Int) (hc0 : b0.length ≤ c0) (hb0 : Byt b0) (hl : b0.length ≤ 1048576) (hC : Kd.C (Kd.int .u8) w A0 b0.length b0)
    (hm : Mags w) (hT : Lib.Utf8Tabs 6 7 w) (hD : DigTab kf x w) (hR : RefTab kf x w) :
    Calls Tryd.prog 4 #[.slice A0 b0.length c0, .bool fixed] w fun e w' => e = .returned (.bool true) ∧ Below w.heap.size w w' := by
  have hB11 := bytesf.full_Bytes.calls 72 A0 c0 b0 _ w hC hc0 (bytes_full b0 (by omega))
  have HB11 := Aside0.mk hB11
  clear hB11
  go_enter Tryd.func4, Tryd.ntmps4
  go_upto_region 2 with (first | (go_at_call 11; refine HB11.out.mono ?_; rintro e W1 ⟨A1, c1, rfl, hR1, hle, hb1⟩) | fail)
  have hO1 := Kd.own_of_R hR1
  have hmlen : (b0 ++ marks 70).length = b0.length + 70 := by rw [List.length_append, marks_len]
  rw [hmlen] at hO1
  obtain ⟨g, cap, hv, hg, hcap⟩ := own_form hO1 (by omega)
  injection hv with hvA hvn hvc
  subst hvA hvc
  have HO1 := Aside0.mk hO1
  have HB := hb1
  clear hO1 hR1 hle hb1 hmlen HB11
  go_cut [21] (fun v21 wx => v21 = .bool (fixed && decide (512 ≤ b0.length)) ∧ wx = W1)
  case first =>
    cases fixed
    · go_wp2_with fail
      go_meet
      exact ⟨rfl, rfl⟩
    · have hge : decide ((b0.length : Int) ≥ 512) = decide (512 ≤ b0.length) := by
        by_cases h : 512 ≤ b0.length
        · rw [decide_eq_true h, decide_eq_true (by omega)]
        · rw [decide_eq_false h, decide_eq_false (by omega)]
      go_wp2_with fail
      go_meet
      exact ⟨by rw [← hge]; rfl, rfl⟩
  case rest =>
    obtain ⟨rfl, rfl⟩ := hcut
    go_upto_if 21 with (fail)
    go_cut [5] (fun v5 wx => v5 = .slice (some ⟨g, 0, none⟩) b0.length c1 ∧ ∃ b : List Int, b.length = b0.length ∧ Byt b ∧ wx.ownsRow w.heap.size 5 1 (.slice (some ⟨g, 0, none⟩) (b.length + 70) c1) (b.length + 70) (nums .u8 (b ++ marks 70)) ∧ Below w.heap.size w wx)
    case first =>
      by_cases hq : (fixed && decide (512 ≤ b0.length)) = true
      · rw [hq]
        have h5 : 512 ≤ b0.length := of_decide_eq_true (Bool.and_eq_true _ _ ▸ hq).2
        obtain ⟨ad0, eA, _⟩ := Kd.at_int hC (0 : Int) (by omega) (by omega)
        subst eA
        have HSUM := Aside0.mk (rsum_call kf x wc (hR.below HB) ad0 c0 b0 hc0 (Kd.C_below hC HB) h5 (by omega) hb0)
        have hgl : g < wc.heap.size := own_lt HO1.out g (by simp [Value.ownBlock])
        clear hq
        go_wp2_with (first | (go_at_call 12; refine HSUM.out.mono ?_; rintro e W2 ⟨v, rfl, hRD, hb2⟩; have hOD := Kd.own_of_R hRD; have hDl : (rsha kf x (hole b0)).length = 32 := digTo_len _ 8; rw [hDl] at hOD; obtain ⟨gd, cd, rfl, hgd, hcd⟩ := own_form hOD (by omega); have HOD := Aside0.mk hOD; have HB2 := HB.trans (hb2.mono HB.size); have hO2 := own_below_ HO1.out hb2; clear hOD hRD hb2) | fail)
        have hDr : Byt (rsha kf x (hole b0)) := fun y hy => r06.dig_rng _ y hy
        have hDl : (rsha kf x (hole b0)).length = 32 := digTo_len _ 8
        generalize rsha kf x (hole b0) = D at *
        have hgd2 : g ≠ gd := by omega
        go_loopw [7] (fun v7 wr => ∃ i : Nat, i ≤ 32 ∧ v7 = .int .i64 i ∧ ∃ b : List Int, b.length = b0.length ∧ Byt b ∧ wr.ownsRow w.heap.size 5 1 (.slice (some ⟨g, 0, none⟩) (b.length + 70) c1) (b.length + 70) (nums .u8 (b ++ marks 70)) ∧ wr.ownsRow wc.heap.size 5 1 (.slice (some ⟨gd, 0, none⟩) 32 cd) 32 (nums .u8 D) ∧ Below w.heap.size w wr) (fun v7 _ => 32 - (intOf v7).toNat)
        case atStart => exact ⟨0, by omega, rfl, b0, rfl, hb0, hO2, HOD.out, HB2⟩
        case round =>
          obtain ⟨i, hi, rfl, b, hbl, hbb, hO, hOd, HBr⟩ := hrel
          have HO := Aside0.mk hO
          have HOd := Aside0.mk hOd
          rcases Nat.lt_or_ge i 32 with hil | hil
          · have hlt : decide ((i : Int) < 32) = true := by simp; omega
            obtain ⟨r1, r2⟩ := own_at hOd (i : Int) (by omega) (by omega)
            obtain ⟨r3, r4⟩ := own_at hO ((448 + i : Nat) : Int) (by omega) (by omega)
            rw [Int.toNat_natCast] at r1 r2 r3 r4
            obtain ⟨y0, y1⟩ := hDr _ (rd_mem D i (by omega))
            generalize rd D (i : Int) = y at *
            generalize rd (b ++ marks 70) ((448 + i : Nat) : Int) = z at *
            have i0 : (0 : Int) ≤ (i : Int) := by omega
            have i1 : (i : Int) < 32 := by omega
            have i2 : (0 : Int) ≤ 448 + (i : Int) := by omega
            have i3 : 448 + (i : Int) < (b0.length : Int) := by omega
            have HBL := Aside0.mk hbl
            have HDL := Aside0.mk hDl
            have HDR := Aside0.mk hDr
            have HBB := Aside0.mk hbb
            clear hO hOd hbl hDl hDr hbb hC hT hD hR hm hb0 HSUM hgd hcd hO2
            go_wp2
            have hbl := HBL.out
            have hst := (own_store HO.out ((448 + i : Nat) : Int) y).1
            rw [Int.toNat_natCast, List.set_append_left _ _ (by omega)] at hst
            refine ⟨⟨i + 1, by omega, by go_num, b.set (448 + i) y, by rw [List.length_set]; exact hbl, Byt.set HBB.out _ _ ⟨y0, y1⟩, by rw [List.length_set]; exact hst, own_other HOd.out (Ne.symm hgd2) _ _, HBr.setCell hg _⟩, by simp [intOf]; omega⟩
          · obtain rfl : i = 32 := by omega
            have hlt : decide (((32 : Nat) : Int) < 32) = false := rfl
            clear hO hOd
            go_wp2_with fail
            go_meet
            exact ⟨rfl, b, hbl, hbb, HO.out, HBr⟩
      · have hq2 : (fixed && decide (512 ≤ b0.length)) = false := by simpa using hq
        rw [hq2]
        clear hq hq2
        go_wp2_with fail
        go_meet
        exact ⟨rfl, b0, rfl, hb0, HO1.out, HB⟩
    case rest =>
      obtain ⟨rfl, b, hbl, hbb, hO, hBc⟩ := hcut
      have hbm : (b ++ marks 70).length = b.length + 70 := by rw [List.length_append, marks_len]
      have hRo : Kd.R (Kd.int .u8) 5 wc w.heap.size (fun _ => True) (.slice (some ⟨g, 0, none⟩) (b ++ marks 70).length c1) (b ++ marks 70) := Kd.R_of_own (by rw [hbm]; exact hO) (fun _ _ => trivial)
      have hCo : Kd.C (Kd.int .u8) wc (some ⟨g, 0, none⟩) (b ++ marks 70).length (b ++ marks 70) := (Kd.R_reads' hRo).2.2
      have hCb : Kd.C (Kd.int .u8) wc (some ⟨g, 0, none⟩) b.length b := by
        have h := Kd.C_take (k := Kd.int .u8) hCo (m := b.length) (by rw [hbm]; omega)
        rw [List.take_left] at h
        exact h
      have HC := Aside0.mk hCb
      have HCO := Aside0.mk hCo
      have HL := Aside0.mk (show b.length ≤ 1048576 by omega)
      have HCAP := Aside0.mk (show b.length + 70 ≤ c1 by omega)
      have HBc := Aside0.mk hBc
      have HBL := Aside0.mk hbl
      have HBB := Aside0.mk hbb
      have HM := Aside0.mk hm
      have HT := Aside0.mk hT
      have HD := Aside0.mk hD
      have HR := Aside0.mk hR
      rw [← hbl]
      clear hbl hO hRo hCo hCb hbm hBc hc0 hb0 hl hC hm hT hD hR HO1 HB hbb
      have HZ := Aside0.mk (Below.refl wc.heap.size wc)
      go_wp2_with (first | ((with_reducible refine gate_builtin (b := .append) (xs := #[.tmp 38, .tmp 39]) rfl ?_); at_builtin; refine Kd.R_append_rows (Kd.int .u8) (w0 := wc) wc.heap.size rfl (.tmp 38) (.tmp 39) 25 5 (.int .u8 0) 1 rfl Tryd.underlying25 n78.info5 rfl (by decide) (by omega) (.slice none 0 0) ([] : List Int) b _ _ _ (fun _ => True) (fun _ => False) rfl rfl ?aO ?aR (fun _ _ h => h) (fun _ h => h.elim) ?aF ?aB ?aS ?aL ?_; (case aR => repeat (first | exact HC.out | (with_reducible refine Kd.C_drewN ?_ _) | (with_reducible refine Kd.C_drew ?_))); (case aB => exact (by repeat (first | (with_reducible first | exact HZ.out | apply below_alloc | apply pw_below_drewN | apply below_drew1) | exact HZ.out))); (case aF => exact (fun _ _ => trivial)); (case aO => exact (Kd.R_nil _ _ _ _ (fun _ => True))); (case aS => exact (below_size (by repeat (first | (with_reducible first | exact HZ.out | apply below_alloc | apply pw_below_drewN | apply below_drew1) | exact HZ.out)))); (case aL => have := HL.out; simp; omega); intro v102 w3 ho hb hg hat; rw [List.nil_append] at ho; obtain ⟨As, cs, rfl⟩ := Kd.R_slice ho; have HO3 := Aside0.mk ho; have HB3 := Aside0.mk hb; clear ho hb hg hat) | fail)
      have hBw3 := HBc.out.trans (HB3.out.mono HBc.out.size)
      have HBw := Aside0.mk hBw3
      have HE13 := Aside0.mk (show Env kf x g 0 b w3 from ⟨Kd.C_below HC.out HB3.out, HM.out.below hBw3, Utf8Tabs_below HT.out hBw3, HD.out.below hBw3⟩)
      have HRT := Aside0.mk (HR.out.below hBw3)
      have HCOW := Aside0.mk (Kd.C_below HCO.out HB3.out)
      have HRR := Aside0.mk (Kd.R_reads' HO3.out).2
      have HF := Aside0.mk (was_form HO3.out)
      clear HC HCO HO3 HM HT HD HR HB3 HZ HBc hBw3
      go_loopw [9] (fun v9 wr => ∃ i : Nat, i ≤ 2 ∧ v9 = .int .i64 i ∧ Aside0 (Below w3.heap.size w3 wr)) (fun v9 _ => 2 - (intOf v9).toNat)
      case atStart => exact ⟨0, by omega, rfl, ⟨Below.refl _ _⟩⟩
      case round =>
        obtain ⟨i, hi, rfl, HBr⟩ := hrel
        rcases Nat.lt_or_ge i 2 with hil | hil
        · have hlt : decide ((i : Int) < 2) = true := by simp; omega
          obtain ⟨sec, hsec⟩ : ∃ s, ((i : Int) == 1) = s := ⟨_, rfl⟩
          obtain ⟨y0, y1, y2, y3, y4, y5, y6, y7, hV⟩ := unV_form kf x sec b
          have c13 := unpack_call kf x sec wr g 0 c1 b (by have := HCAP.out; omega) HBB.out (by have := HL.out; omega) (HE13.out.below HBr.out)
          have c14 : ∀ W, Below wr.heap.size wr W → _ := fun W hW => was_call kf x sec W As cs b HRR.out.1 HBB.out (by have := HL.out; omega) HF.out (Kd.C_below HRR.out.2 (HBr.out.trans (hW.mono HBr.out.size))) (HRT.out.below (HBr.out.trans (hW.mono HBr.out.size)))
          have c15 : ∀ W, Below wr.heap.size wr W → _ := fun W hW => whole_call W g c1 cs As b (by have := HL.out; omega) HCAP.out HRR.out.1 (Kd.C_below HCOW.out (HBr.out.trans (hW.mono HBr.out.size))) (Kd.C_below HRR.out.2 (HBr.out.trans (hW.mono HBr.out.size)))
          rw [hV] at c13 c14
          generalize unE kf x sec b = E at *
          have C13 := Aside0.mk c13
          have C14 := Aside0.mk c14
          have C15 := Aside0.mk c15
          have hEE : (E != E) = false := by simp
          clear c13 c14 c15 hV
          go_wp2_with (first | (go_at_call 13; refine (C13.out).mono ?_; rintro e W1 ⟨rfl, hb1⟩; have D1 := Aside0.mk hb1; clear hb1 C13) | fail)
          refine (C14.out _ (below_alloc D1.out _)).mono ?_
          rintro e W3 ⟨rfl, hb3⟩
          have K1 : Aside0 (W3.heap[W1.heap.size]? = some (.cells #[.bool y0, .int .i64 y1, .int .u64 y2, .string y3, .string y4, .string y5, .string y6, .string y7] 24 (0, 0))) := ⟨blk_below (blk_new W1 _) hb3⟩
          have D3 := Aside0.mk ((below_alloc D1.out _).trans (hb3.mono (below_alloc D1.out _).size))
          clear hb3 C14 D1
          generalize W1.heap.size = g1 at *
          go_wp2_with (first | ((with_reducible refine gate_ (.load 24 (.tmp 10)) rfl ?_); refine wpList_load_row rfl 24 (.tmp 10) rfl g1 rfl 24 #[.bool y0, .int .i64 y1, .int .u64 y2, .string y3, .string y4, .string y5, .string y6, .string y7] (0, 0) _ (blk_alloc K1.out _) Tryd.underlying24 rfl (by kernel_rfl) ?_) | ((with_reducible refine gate_ (.load 24 (.tmp 12)) rfl ?_); refine wpList_load_row rfl 24 (.tmp 12) rfl W3.heap.size rfl 24 #[.bool y0, .int .i64 y1, .int .u64 y2, .string y3, .string y4, .string y5, .string y6, .string y7] (0, 0) _ (blk_new W3 _) Tryd.underlying24 rfl (by kernel_rfl) ?_) | (go_at_call 8; refine (l03.num_call E _).mono ?_; rintro e W5 ⟨rfl, hb5⟩; have D5 := Aside0.mk ((below_alloc D3.out _).trans (hb5.mono (below_alloc D3.out _).size)); clear hb5 D3) | (go_at_call 15; refine (C15.out _ D5.out).mono ?_; rintro e W6 ⟨rfl, hb6⟩; have D6 := Aside0.mk (D5.out.trans (hb6.mono D5.out.size)); clear hb6 D5 C15) | fail)
          exact ⟨⟨i + 1, by omega, by go_num, ⟨HBr.out.trans (D6.out.mono HBr.out.size)⟩⟩, by simp [intOf]; omega⟩
        · obtain rfl : i = 2 := by omega
          have hlt : decide (((2 : Nat) : Int) < 2) = false := rfl
          go_wp2_with fail
          go_ret
          exact ⟨rfl, HBw.out.trans (HBr.out.mono HBw.out.size)⟩
end Go.Proofs.YtglcapkmeecknaaDoor.l04
