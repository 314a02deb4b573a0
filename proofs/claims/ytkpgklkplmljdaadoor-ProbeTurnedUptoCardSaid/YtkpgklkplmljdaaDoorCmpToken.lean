/- probe.Compare's generics at Token: the closures, IndexFunc, ContainsFunc, missing, unlike. (Written by gen1.py.) -/
import Derived.Test.YtkpgklkplmljdaaDoorPProbeComparesx7
import Derived.WalkKit
import Derived.BigCall
import Derived.Below
import Derived.OneCell
namespace Go.Proofs.YtkpgklkplmljdaaDoor.cmpToken
open Go.RowKit Go.Proofs.YtkpgklkplmljdaaDoor.PProbeCompares Go.Proofs.YtkpgklkplmljdaaDoorW.PrintWords Go.Proofs.YtkpgklkplmljdaaDoorW.PrintLast Go.Proofs.YtkpgklkplmljdaaDoorW.PrintMore
set_option linter.unusedVariables false
set_option linter.unusedSimpArgs false

abbrev cells (x : S63) (Ax : Option Addr) (cx : Nat) : Array Value := #[.int .i64 x.f0, .string x.f1, .slice Ax x.f2.length cx, .string x.f3]
def same (x y : S63) : Bool := x.f0 == y.f0 && (x.f1.toList == y.f1.toList && (x.f3.toList == y.f3.toList && x.f2 == y.f2))
theorem w64 (n : Int) (h : -9223372036854775808 ≤ n ∧ n ≤ 9223372036854775807) : wrap64 n = n := by unfold wrap64; omega
theorem rd_nat (l : List Int) (i : Nat) (h : i < l.length) : rd l (i : Int) = l[i] := by simp [rd, h]
theorem cons_beq (x : Int) (l m : List Int) : (x :: l == x :: m) = (l == m) := by
  rw [Bool.eq_iff_iff]; simp
theorem cons_bne {x y : Int} {l m : List Int} (h : x ≠ y) : (x :: l == y :: m) = false := by
  rw [beq_eq_false_iff_ne]; simp [h]
theorem eq_loop (a b : List Int) (hab : a.length = b.length) (h : a.length < 1099511627776) : ∀ (n i : Nat), a.length - i = n → slices_Equal_int_int.l0 (n + 1) a b (a.length : Int) (i : Int) = some (a.drop i == b.drop i)
  | 0, i, hi => by
    rw [slices_Equal_int_int.l0, if_neg (by omega), List.drop_of_length_le (by omega), List.drop_of_length_le (by omega)]
    rfl
  | n + 1, i, hi => by
    have h1 : i < a.length := by omega
    have h2 : i < b.length := by omega
    rw [slices_Equal_int_int.l0, if_pos (by omega), if_pos (by omega), if_pos (by omega), if_pos (by omega), rd_nat a i h1, rd_nat b i h2, w64 _ (by omega), List.drop_eq_getElem_cons h1, List.drop_eq_getElem_cons h2]
    by_cases e : a[i] = b[i]
    · have ih := eq_loop a b hab h n (i + 1) (by omega)
      rw [if_pos e]
      rw [show ((i : Int) + 1) = ((i + 1 : Nat) : Int) by omega, ih, e]
      exact congrArg some (cons_beq _ _ _).symm
    · rw [if_neg e]
      exact congrArg some (cons_bne e).symm
theorem eq_ok (a b : List Int) (h : a.length < 1099511627776) : slices_Equal_int_int.f (a.length + 1) a b = some (a == b) := by
  unfold slices_Equal_int_int.f
  by_cases hab : a.length = b.length
  · rw [if_pos (by omega)]
    exact eq_loop a b hab h a.length 0 (by omega)
  · rw [if_neg (by omega)]
    have : a ≠ b := fun e => hab (by rw [e])
    simp [this]
theorem eq_call (x : S63) (Ax : Option Addr) (cx : Nat) (y : S63) (Ay : Option Addr) (cy : Nat) (w : World) (hlen : x.f2.length < 1099511627776) (lx : x.f2.length ≤ cx) (gx : Kd.C (Kd.int .i64) w Ax x.f2.length x.f2) (ly : y.f2.length ≤ cy) (gy : Kd.C (Kd.int .i64) w Ay y.f2.length y.f2) :
    Calls Tryd.prog 20 #[.agg (cells x Ax cx), .agg (cells y Ay cy)] w fun e w' => e = .returned (.bool (same x y)) ∧ Below w.heap.size w w' := by
  refine probe_sameToken.calls (x.f2.length + 1) x.f0 x.f1 Ax cx x.f2 x.f3 y.f0 y.f1 Ay cy y.f2 y.f3 (same x y) w gx lx gy ly ?_
  unfold probe_sameToken.f same
  rw [eq_ok _ _ hlen]
  by_cases h0 : x.f0 = y.f0
  · rw [if_pos h0]
    by_cases h1 : x.f1.toList = y.f1.toList
    · rw [if_pos h1]
      by_cases h3 : x.f3.toList = y.f3.toList
      · rw [if_pos h3]; simp [h0, h1, h3]
      · rw [if_neg h3]; simp [h0, h1, h3]
    · rw [if_neg h1]; simp [h0, h1]
  · rw [if_neg h0]; simp [h0]
set_option maxHeartbeats 4000000 in
set_option maxRecDepth 100000 in
theorem m1 (x : S63) (Ax : Option Addr) (cx : Nat) (y : S63) (Ay : Option Addr) (cy : Nat) (w : World) (bs bx : Nat) (hbs : w.heap[bs]? = some (.cells #[.func (.func 20) #[] #[]] 64 (0, 0))) (hbx : w.heap[bx]? = some (.cells (cells x Ax cx) 63 (0, 0))) (hlen : x.f2.length < 1099511627776) (lx : x.f2.length ≤ cx) (gx : Kd.C (Kd.int .i64) w Ax x.f2.length x.f2) (ly : y.f2.length ≤ cy) (gy : Kd.C (Kd.int .i64) w Ay y.f2.length y.f2) :
    Calls Tryd.prog 48 #[.agg (cells y Ay cy), .pointer (some ⟨bs, 0, none⟩), .pointer (some ⟨bx, 0, none⟩)] w fun e w' => e = .returned (.bool (same x y)) ∧ Below w.heap.size w w' := by
  have hc : (w.alloc (.cells (cells y Ay cy) 63)).cell? ⟨bs, 0, none⟩ = some (.func (.func 20) #[] #[]) := by have h_ : w.cell? ⟨bs, 0, none⟩ = some (.func (.func 20) #[] #[]) := (by simp [World.cell?, hbs]); rw [World.cell?_alloc_some _ _ _ (by rw [h_]; rfl)]; exact h_
  have hx0 : (w.alloc (.cells (cells y Ay cy) 63)).cell? ⟨bx, 0, none⟩ = some (.int .i64 x.f0) := by have h_ : w.cell? ⟨bx, 0, none⟩ = some (.int .i64 x.f0) := (by simp [World.cell?, hbx]); rw [World.cell?_alloc_some _ _ _ (by rw [h_]; rfl)]; exact h_
  have hx1 : (w.alloc (.cells (cells y Ay cy) 63)).cell? ⟨bx, 1, none⟩ = some (.string x.f1) := by have h_ : w.cell? ⟨bx, 1, none⟩ = some (.string x.f1) := (by simp [World.cell?, hbx]); rw [World.cell?_alloc_some _ _ _ (by rw [h_]; rfl)]; exact h_
  have hx2 : (w.alloc (.cells (cells y Ay cy) 63)).cell? ⟨bx, 2, none⟩ = some (.slice Ax x.f2.length cx) := by have h_ : w.cell? ⟨bx, 2, none⟩ = some (.slice Ax x.f2.length cx) := (by simp [World.cell?, hbx]); rw [World.cell?_alloc_some _ _ _ (by rw [h_]; rfl)]; exact h_
  have hx3 : (w.alloc (.cells (cells y Ay cy) 63)).cell? ⟨bx, 3, none⟩ = some (.string x.f3) := by have h_ : w.cell? ⟨bx, 3, none⟩ = some (.string x.f3) := (by simp [World.cell?, hbx]); rw [World.cell?_alloc_some _ _ _ (by rw [h_]; rfl)]; exact h_
  have hu := Tryd.underlying63
  go_enter Tryd.func48, Tryd.ntmps48
  go_wp2_with fail
  have hb9 : Below w.heap.size w (w.alloc (.cells (cells y Ay cy) 63)) := (Below.refl _ w).alloc (Nat.le_refl _) _
  refine (eq_call x Ax cx y Ay cy _ hlen lx (Kd.C_below gx hb9) ly (Kd.C_below gy hb9)).mono ?_
  rintro e w1 ⟨rfl, hb⟩
  go_wp2
  go_ret
  exact ⟨rfl, ((Below.refl _ w).alloc (Nat.le_refl _) _).trans (hb.mono (by simp))⟩
set_option maxHeartbeats 4000000 in
set_option maxRecDepth 100000 in
theorem index (s : List S63) (A : Option Addr) (c : Nat) (b1 b2 : Value) (p : S63 → Bool) (w : World) (hr : Kd.C k63 w A s.length s) (hl : s.length < 1099511627776)
    (hf : ∀ (W : World) (y : S63) (Ay : Option Addr) (cy : Nat), Below w.heap.size w W → y.f2.length ≤ cy → Kd.C (Kd.int .i64) W Ay y.f2.length y.f2 → Calls Tryd.prog 48 #[.agg (cells y Ay cy), b1, b2] W fun e W' => e = .returned (.bool (p y)) ∧ Below W.heap.size W W') :
    Calls Tryd.prog 56 #[.slice A s.length c, .func (.func 48) #[] #[b1, b2]] w fun e w' => ∃ r : Int, e = .returned (.int .i64 r) ∧ decide (0 ≤ r) = s.any p ∧ Below w.heap.size w w' := by
  have hu := Tryd.underlying63
  go_enter Tryd.func56, Tryd.ntmps56
  go_wp2_with fail
  go_loopw [8] (fun v8 w' => ∃ k : Nat, k ≤ s.length ∧ v8 = .int .i64 k ∧ (s.take k).any p = false ∧ Below w.heap.size w w') (fun v8 _ => s.length - (intOf v8).toNat)
  case atStart => exact ⟨0, Nat.zero_le _, rfl, by simp, Below.refl _ _⟩
  case round =>
    obtain ⟨k, hk, rfl, hn, HB⟩ := hrel
    rcases Nat.lt_or_ge k s.length with hkl | hkl
    · have hlt : decide ((k : Int) < (s.length : Int)) = true := by simp; omega
      obtain ⟨ad, Ay, cy, e11, c0, c1, c2, c3, ly, gy0⟩ := at_T63 hr k (by omega) (by omega)
      cases e11
      simp only [Int.toNat_natCast] at c0 c1 c2 c3
      replace c0 := (HB.cell (World.block_lt_of_cell? w _ c0)).trans c0
      replace c1 := (HB.cell (World.block_lt_of_cell? w _ c1)).trans c1
      replace c2 := (HB.cell (World.block_lt_of_cell? w _ c2)).trans c2
      replace c3 := (HB.cell (World.block_lt_of_cell? w _ c3)).trans c3
      have hy : rd_T63 s k = s[k] := by simp [rd_T63, hkl]
      have hmem : s[k] ∈ s := List.getElem_mem hkl
      have htk : (s.take (k + 1)).any p = ((s.take k).any p || p s[k]) := by rw [List.take_succ_eq_append_getElem hkl, List.any_append]; simp
      rw [hy] at c0 c1 c2 c3 ly gy0
      generalize s[k] = y at *
      go_wp2_with fail
      refine (hf wr y Ay cy HB ly (Kd.C_below gy0 HB)).mono ?_
      rintro e w2 ⟨rfl, hb2⟩
      cases hp : p y
      · go_wp2_with fail
        refine ⟨⟨k + 1, by omega, by go_num, by rw [htk, hn, hp]; rfl, HB.trans (hb2.mono HB.size)⟩, by simp [intOf]; omega⟩
      · go_wp2
        go_ret
        refine ⟨_, rfl, ?_, HB.trans (hb2.mono HB.size)⟩
        rw [List.any_eq_true.2 ⟨y, hmem, hp⟩]
        simp
    · obtain rfl : k = s.length := by omega
      rw [List.take_length] at hn
      have hlt : decide ((s.length : Int) < (s.length : Int)) = false := by simp
      go_wp2
      go_ret
      exact ⟨_, rfl, by rw [hn]; rfl, HB⟩
set_option maxRecDepth 100000 in
theorem contains (s : List S63) (A : Option Addr) (c : Nat) (b1 b2 : Value) (p : S63 → Bool) (w : World) (hr : Kd.C k63 w A s.length s) (hl : s.length < 1099511627776)
    (hf : ∀ (W : World) (y : S63) (Ay : Option Addr) (cy : Nat), Below w.heap.size w W → y.f2.length ≤ cy → Kd.C (Kd.int .i64) W Ay y.f2.length y.f2 → Calls Tryd.prog 48 #[.agg (cells y Ay cy), b1, b2] W fun e W' => e = .returned (.bool (p y)) ∧ Below W.heap.size W W') :
    Calls Tryd.prog 47 #[.slice A s.length c, .func (.func 48) #[] #[b1, b2]] w fun e w' => e = .returned (.bool (s.any p)) ∧ Below w.heap.size w w' := by
  go_enter Tryd.func47, Tryd.ntmps47
  go_wp2_with fail
  refine (index s A c b1 b2 p w hr hl hf).mono ?_
  rintro e w1 ⟨r, rfl, hr1, hb⟩
  go_wp2
  go_ret
  exact ⟨by rw [← hr1]; rfl, hb⟩

def lines (a b : List S63) (nm : S63 → ByteArray) : List ByteArray := (a.filter fun x => !(b.any (same x))).map nm
theorem lines_snoc (a b : List S63) (nm : S63 → ByteArray) (k : Nat) (hk : k < a.length) : lines (a.take (k + 1)) b nm = lines (a.take k) b nm ++ (if b.any (same a[k]) = true then [] else [nm a[k]]) := by
  unfold lines
  rw [List.take_succ_eq_append_getElem hk, List.filter_append, List.map_append]
  congr 1
  cases h : b.any (same a[k]) <;> simp [h]
theorem lines_le (a b : List S63) (nm : S63 → ByteArray) : (lines a b nm).length ≤ a.length := by
  unfold lines
  rw [List.length_map]
  exact List.length_filter_le _ _


set_option maxHeartbeats 8000000 in
set_option maxRecDepth 100000 in
theorem miss_d1 (a b : List S63) (A B : Option Addr) (ca cb : Nat) (nb : Value) (nm : S63 → ByteArray) (w : World) (hr : Kd.C k63 w A a.length a) (hr2 : Kd.C k63 w B b.length b) (hl : a.length < 1099511627776) (hl2 : b.length < 1099511627776)
    (hlen : ∀ x ∈ a, x.f2.length < 1099511627776)
    (hname : ∀ (W : World) (y : S63) (Ay : Option Addr) (cy : Nat), y ∈ a → Below w.heap.size w W → Calls Tryd.prog 35 #[.agg (cells y Ay cy), nb] W fun e W' => e = .returned (.string (nm y)) ∧ Below W.heap.size W W') :
    Calls Tryd.prog 34 #[.slice A a.length ca, .slice B b.length cb, .func (.func 20) #[] #[], .func (.func 35) #[] #[nb]] w fun e w' => ∃ v, e = .returned v ∧ Kd.R Kd.string 9 w' w.heap.size (fun _ => True) v (lines a b nm) ∧ Below w.heap.size w w' := by
  have hu := Tryd.underlying63
  have hmf : ∀ (fn : Fn) (first cap : Array Value) (w : World), (Instr.makeFunc fn first cap).run Tryd.prog w = .ok (.func fn first cap) w := fun _ _ _ _ => rfl
  go_enter Tryd.func34, Tryd.ntmps34
  go_wp2_with fail
  go_loopw [9, 14] (fun v9 v14 w' => ∃ k : Nat, k ≤ a.length ∧ v14 = .int .i64 k ∧ Kd.R Kd.string 9 w' w.heap.size (fun k_ => k_ ≠ w.heap.size) v9 (lines (a.take k) b nm) ∧ w'.heap[w.heap.size]? = some (.cells #[.func (.func 20) #[] #[]] 64 (0, 0)) ∧ w.heap.size < w'.heap.size ∧ Below w.heap.size w w') (fun _ v14 _ => a.length - (intOf v14).toNat)
  case atStart => exact ⟨0, Nat.zero_le _, rfl, by simpa [lines] using Kd.R_nil _ _ _ _ _, heap_alloc_new w _, by simp, (Below.refl _ w).alloc (Nat.le_refl _) _⟩
  case round =>
    obtain ⟨k, hk, rfl, HO, hbs, hsz, HB⟩ := hrel
    rcases Nat.lt_or_ge k a.length with hkl | hkl
    · have hlt : decide ((k : Int) < (a.length : Int)) = true := by simp; omega
      obtain ⟨ad, Ay, cy, e11, c0, c1, c2, c3, ly, gy0⟩ := at_T63 hr k (by omega) (by omega)
      cases e11
      simp only [Int.toNat_natCast] at c0 c1 c2 c3
      replace c0 := (HB.cell (World.block_lt_of_cell? w _ c0)).trans c0
      replace c1 := (HB.cell (World.block_lt_of_cell? w _ c1)).trans c1
      replace c2 := (HB.cell (World.block_lt_of_cell? w _ c2)).trans c2
      replace c3 := (HB.cell (World.block_lt_of_cell? w _ c3)).trans c3
      have hy : rd_T63 a k = a[k] := by simp [rd_T63, hkl]
      have hmem : a[k] ∈ a := List.getElem_mem hkl
      have hsn := lines_snoc a b nm k hkl
      rw [hy] at c0 c1 c2 c3 ly gy0
      have hl8 : ((lines (a.take k) b nm).length + 1) * 16 ≤ 140737488355328 := by
        have h1 := lines_le (a.take k) b nm
        rw [List.length_take] at h1
        omega
      generalize a[k] = y at *
      have hW1b : (wr.alloc (.cells (cells y Ay cy) 63)).heap[w.heap.size]? = some (.cells #[.func (.func 20) #[] #[]] 64 (0, 0)) := (((Below.refl _ wr).alloc (Nat.le_refl _) (.cells (cells y Ay cy) 63)).block _ hsz).trans hbs
      have hW1x : (wr.alloc (.cells (cells y Ay cy) 63)).heap[wr.heap.size]? = some (.cells (cells y Ay cy) 63 (0, 0)) := heap_alloc_new wr _
      have HB1 : Below w.heap.size w (wr.alloc (.cells (cells y Ay cy) 63)) := HB.alloc (Nat.le_of_lt hsz) _
      have HO1 := Kd.R_alloc HO (.cells (cells y Ay cy) 63)
      have hs1 : wr.heap.size < (wr.alloc (.cells (cells y Ay cy) 63)).heap.size := by simp
      have hs1' : (wr.alloc (.cells (cells y Ay cy) 63)).heap.size = wr.heap.size + 1 := by simp
      go_wp2_with fail
      generalize hW1e : wr.alloc (.cells (cells y Ay cy) 63) = W1 at *
      refine (contains b B cb _ _ (same y) W1 (Kd.C_below hr2 HB1) hl2 (fun W y' Ay' cy' hb ly' gy' => m1 y Ay cy y' Ay' cy' W _ _ ((hb.block _ (by omega)).trans hW1b) ((hb.block _ (by omega)).trans hW1x) (hlen y hmem) ly (Kd.C_below gy0 (HB1.trans (hb.mono (by omega)))) ly' gy')).mono ?_
      rintro e W2 ⟨rfl, hb2⟩
      have hbs2 := (hb2.block _ (by omega)).trans hW1b
      have hbx2 := (hb2.block _ hs1).trans hW1x
      have HB2 : Below w.heap.size w W2 := HB1.trans (hb2.mono (by omega))
      have HO2 := Kd.R_below HO1 hb2
      have hz2 : w.heap.size < W2.heap.size := by have := hb2.size; omega
      cases hany : b.any (same y)
      · rw [hany] at hsn
        have hx0 : W2.cell? ⟨wr.heap.size, 0, none⟩ = some (.int .i64 y.f0) := by simp [World.cell?, hbx2]
        have hx1 : W2.cell? ⟨wr.heap.size, 1, none⟩ = some (.string y.f1) := by simp [World.cell?, hbx2]
        have hx2 : W2.cell? ⟨wr.heap.size, 2, none⟩ = some (.slice Ay y.f2.length cy) := by simp [World.cell?, hbx2]
        have hx3 : W2.cell? ⟨wr.heap.size, 3, none⟩ = some (.string y.f3) := by simp [World.cell?, hbx2]
        go_wp2_with fail
        refine (hname W2 y Ay cy hmem HB2).mono ?_
        rintro e W3 ⟨rfl, hb3⟩
        have hbs3 := (hb3.block _ hz2).trans hbs2
        have HB3 : Below w.heap.size w W3 := HB2.trans (hb3.mono (by omega))
        have HO3 := Kd.R_below HO2 hb3
        have hz3 : w.heap.size < W3.heap.size := by have := hb3.size; omega
        go_wp2_with ((with_reducible refine gate_builtin (b := .append) (xs := #[.tmp 22, .tmp 26]) rfl ?_); at_builtin; refine Kd.R_append Kd.string (w0 := w) w.heap.size rfl (.tmp 22) (.tmp 26) 37 9 (.string ⟨#[]⟩) 16 rfl Tryd.underlying37 info9 rfl (by decide) (by omega) u9 (lines (a.take k) b nm) (nm y) [.string (nm y)] (fun k_ => k_ ≠ w.heap.size) (fun _ => False) rfl rfl ?aP (fun _ hk => hk.elim) ?aF HO3 HB3 HB3.size hl8 ?_; (case aP => exact rfl); (case aF => intro k_ hk_; omega); intro v1 w4 ho hb hg hat)
        refine ⟨⟨k + 1, by omega, by go_num, by rw [hsn]; exact ho, (hg.block _ hz3 (fun e => HO3.1 _ e.symm rfl)).trans hbs3, Nat.lt_of_lt_of_le hz3 hg.size, hb⟩, by simp [intOf]; omega⟩
      · rw [hany] at hsn
        go_wp2_with fail
        refine ⟨⟨k + 1, by omega, by go_num, by rw [hsn]; simpa using HO2, hbs2, hz2, HB2⟩, by simp [intOf]; omega⟩
    · obtain rfl : k = a.length := by omega
      have hlt : decide ((a.length : Int) < (a.length : Int)) = false := by simp
      rw [List.take_length] at HO
      go_wp2
      go_ret
      exact ⟨_, rfl, Kd.R_mono HO (fun _ _ => trivial), HB⟩


set_option maxHeartbeats 8000000 in
set_option maxRecDepth 100000 in
theorem miss_d2 (a b : List S63) (A B : Option Addr) (ca cb : Nat) (nb : Value) (nm : S63 → ByteArray) (w : World) (hr : Kd.C k63 w A a.length a) (hr2 : Kd.C k63 w B b.length b) (hl : a.length < 1099511627776) (hl2 : b.length < 1099511627776)
    (hlen : ∀ x ∈ a, x.f2.length < 1099511627776)
    (hname : ∀ (W : World) (y : S63) (Ay : Option Addr) (cy : Nat), y ∈ a → Below w.heap.size w W → Calls Tryd.prog 36 #[.agg (cells y Ay cy), nb] W fun e W' => e = .returned (.string (nm y)) ∧ Below W.heap.size W W') :
    Calls Tryd.prog 34 #[.slice A a.length ca, .slice B b.length cb, .func (.func 20) #[] #[], .func (.func 36) #[] #[nb]] w fun e w' => ∃ v, e = .returned v ∧ Kd.R Kd.string 9 w' w.heap.size (fun _ => True) v (lines a b nm) ∧ Below w.heap.size w w' := by
  have hu := Tryd.underlying63
  have hmf : ∀ (fn : Fn) (first cap : Array Value) (w : World), (Instr.makeFunc fn first cap).run Tryd.prog w = .ok (.func fn first cap) w := fun _ _ _ _ => rfl
  go_enter Tryd.func34, Tryd.ntmps34
  go_wp2_with fail
  go_loopw [9, 14] (fun v9 v14 w' => ∃ k : Nat, k ≤ a.length ∧ v14 = .int .i64 k ∧ Kd.R Kd.string 9 w' w.heap.size (fun k_ => k_ ≠ w.heap.size) v9 (lines (a.take k) b nm) ∧ w'.heap[w.heap.size]? = some (.cells #[.func (.func 20) #[] #[]] 64 (0, 0)) ∧ w.heap.size < w'.heap.size ∧ Below w.heap.size w w') (fun _ v14 _ => a.length - (intOf v14).toNat)
  case atStart => exact ⟨0, Nat.zero_le _, rfl, by simpa [lines] using Kd.R_nil _ _ _ _ _, heap_alloc_new w _, by simp, (Below.refl _ w).alloc (Nat.le_refl _) _⟩
  case round =>
    obtain ⟨k, hk, rfl, HO, hbs, hsz, HB⟩ := hrel
    rcases Nat.lt_or_ge k a.length with hkl | hkl
    · have hlt : decide ((k : Int) < (a.length : Int)) = true := by simp; omega
      obtain ⟨ad, Ay, cy, e11, c0, c1, c2, c3, ly, gy0⟩ := at_T63 hr k (by omega) (by omega)
      cases e11
      simp only [Int.toNat_natCast] at c0 c1 c2 c3
      replace c0 := (HB.cell (World.block_lt_of_cell? w _ c0)).trans c0
      replace c1 := (HB.cell (World.block_lt_of_cell? w _ c1)).trans c1
      replace c2 := (HB.cell (World.block_lt_of_cell? w _ c2)).trans c2
      replace c3 := (HB.cell (World.block_lt_of_cell? w _ c3)).trans c3
      have hy : rd_T63 a k = a[k] := by simp [rd_T63, hkl]
      have hmem : a[k] ∈ a := List.getElem_mem hkl
      have hsn := lines_snoc a b nm k hkl
      rw [hy] at c0 c1 c2 c3 ly gy0
      have hl8 : ((lines (a.take k) b nm).length + 1) * 16 ≤ 140737488355328 := by
        have h1 := lines_le (a.take k) b nm
        rw [List.length_take] at h1
        omega
      generalize a[k] = y at *
      have hW1b : (wr.alloc (.cells (cells y Ay cy) 63)).heap[w.heap.size]? = some (.cells #[.func (.func 20) #[] #[]] 64 (0, 0)) := (((Below.refl _ wr).alloc (Nat.le_refl _) (.cells (cells y Ay cy) 63)).block _ hsz).trans hbs
      have hW1x : (wr.alloc (.cells (cells y Ay cy) 63)).heap[wr.heap.size]? = some (.cells (cells y Ay cy) 63 (0, 0)) := heap_alloc_new wr _
      have HB1 : Below w.heap.size w (wr.alloc (.cells (cells y Ay cy) 63)) := HB.alloc (Nat.le_of_lt hsz) _
      have HO1 := Kd.R_alloc HO (.cells (cells y Ay cy) 63)
      have hs1 : wr.heap.size < (wr.alloc (.cells (cells y Ay cy) 63)).heap.size := by simp
      have hs1' : (wr.alloc (.cells (cells y Ay cy) 63)).heap.size = wr.heap.size + 1 := by simp
      go_wp2_with fail
      generalize hW1e : wr.alloc (.cells (cells y Ay cy) 63) = W1 at *
      refine (contains b B cb _ _ (same y) W1 (Kd.C_below hr2 HB1) hl2 (fun W y' Ay' cy' hb ly' gy' => m1 y Ay cy y' Ay' cy' W _ _ ((hb.block _ (by omega)).trans hW1b) ((hb.block _ (by omega)).trans hW1x) (hlen y hmem) ly (Kd.C_below gy0 (HB1.trans (hb.mono (by omega)))) ly' gy')).mono ?_
      rintro e W2 ⟨rfl, hb2⟩
      have hbs2 := (hb2.block _ (by omega)).trans hW1b
      have hbx2 := (hb2.block _ hs1).trans hW1x
      have HB2 : Below w.heap.size w W2 := HB1.trans (hb2.mono (by omega))
      have HO2 := Kd.R_below HO1 hb2
      have hz2 : w.heap.size < W2.heap.size := by have := hb2.size; omega
      cases hany : b.any (same y)
      · rw [hany] at hsn
        have hx0 : W2.cell? ⟨wr.heap.size, 0, none⟩ = some (.int .i64 y.f0) := by simp [World.cell?, hbx2]
        have hx1 : W2.cell? ⟨wr.heap.size, 1, none⟩ = some (.string y.f1) := by simp [World.cell?, hbx2]
        have hx2 : W2.cell? ⟨wr.heap.size, 2, none⟩ = some (.slice Ay y.f2.length cy) := by simp [World.cell?, hbx2]
        have hx3 : W2.cell? ⟨wr.heap.size, 3, none⟩ = some (.string y.f3) := by simp [World.cell?, hbx2]
        go_wp2_with fail
        refine (hname W2 y Ay cy hmem HB2).mono ?_
        rintro e W3 ⟨rfl, hb3⟩
        have hbs3 := (hb3.block _ hz2).trans hbs2
        have HB3 : Below w.heap.size w W3 := HB2.trans (hb3.mono (by omega))
        have HO3 := Kd.R_below HO2 hb3
        have hz3 : w.heap.size < W3.heap.size := by have := hb3.size; omega
        go_wp2_with ((with_reducible refine gate_builtin (b := .append) (xs := #[.tmp 22, .tmp 26]) rfl ?_); at_builtin; refine Kd.R_append Kd.string (w0 := w) w.heap.size rfl (.tmp 22) (.tmp 26) 37 9 (.string ⟨#[]⟩) 16 rfl Tryd.underlying37 info9 rfl (by decide) (by omega) u9 (lines (a.take k) b nm) (nm y) [.string (nm y)] (fun k_ => k_ ≠ w.heap.size) (fun _ => False) rfl rfl ?aP (fun _ hk => hk.elim) ?aF HO3 HB3 HB3.size hl8 ?_; (case aP => exact rfl); (case aF => intro k_ hk_; omega); intro v1 w4 ho hb hg hat)
        refine ⟨⟨k + 1, by omega, by go_num, by rw [hsn]; exact ho, (hg.block _ hz3 (fun e => HO3.1 _ e.symm rfl)).trans hbs3, Nat.lt_of_lt_of_le hz3 hg.size, hb⟩, by simp [intOf]; omega⟩
      · rw [hany] at hsn
        go_wp2_with fail
        refine ⟨⟨k + 1, by omega, by go_num, by rw [hsn]; simpa using HO2, hbs2, hz2, HB2⟩, by simp [intOf]; omega⟩
    · obtain rfl : k = a.length := by omega
      have hlt : decide ((a.length : Int) < (a.length : Int)) = false := by simp
      rw [List.take_length] at HO
      go_wp2
      go_ret
      exact ⟨_, rfl, Kd.R_mono HO (fun _ _ => trivial), HB⟩

end Go.Proofs.YtkpgklkplmljdaaDoor.cmpToken
