/- The Go text of the law ProbeTurned returns true. (Written by gen9.py.) -/
import Derived.Test.YtkpgklkplmljdaaDoorToldPlain
namespace Go.Proofs.YtkpgklkplmljdaaDoor.turnedWalk
open Go Go.RowKit Go.Proofs.YtkpgklkplmljdaaDoor.PProbeCompares Go.Proofs.YtkpgklkplmljdaaDoorW.PrintWords Go.Proofs.YtkpgklkplmljdaaDoorW.PrintLast Go.Proofs.YtkpgklkplmljdaaDoorW.PrintMore Go.Proofs.YtkpgklkplmljdaaDoor.num Go.Proofs.YtkpgklkplmljdaaDoor.comparePlain Go.Proofs.YtkpgklkplmljdaaDoor.toldPlain
set_option linter.unusedVariables false
set_option linter.unusedSimpArgs false
/-- SameTexts of two rows that hold one list. -/
theorem same_call {W : World} {xs : List ByteArray} (hx : xs.length < 17592186044416) {A B : Option Addr} {n m c d : Nat} {b1 b2 : Nat} {o1 o2 : Nat → Prop} (h1 : Kd.R Kd.string 9 W b1 o1 (.slice A n c) xs) (h2 : Kd.R Kd.string 9 W b2 o2 (.slice B m d) xs) :
    Calls Tryd.prog 6 #[.slice A n c, .slice B m d] W fun e w' => e = .returned (.bool true) ∧ Below W.heap.size W w' := by
  obtain ⟨rfl, l1, r1⟩ := Kd.R_reads' h1
  obtain ⟨rfl, l2, r2⟩ := Kd.R_reads' h2
  exact (cofferbook_SameTexts.calls (xs.length + 1) A c xs B d xs true W r1 l1 r2 l2 (same_refl xs hx)).mono fun e w' ⟨he, hd⟩ => ⟨he, hd.below⟩
theorem turned_call {W : World} {xs : List ByteArray} (hx : xs.length < 1000000000) (hs : ∀ s ∈ xs, 4 ≤ s.size ∧ s.size ≤ 64) {A : Option Addr} {n c : Nat} {b1 : Nat} {o1 : Nat → Prop} (h1 : Kd.R Kd.string 9 W b1 o1 (.slice A n c) xs) :
    Calls Tryd.prog 7 #[.slice A n c] W fun e w' => ∃ v0_ : Value, e = .returned v0_ ∧ Kd.R Kd.string 9 w' W.heap.size (fun _ => True) v0_ (turnedPlain.turnedL xs) ∧ Below W.heap.size W w' := by
  obtain ⟨rfl, l1, r1⟩ := Kd.R_reads' h1
  obtain ⟨K, hK⟩ := turnedPlain.turned_ok xs hx (fun s h => by have := hs s h; omega) (fun s h => by have := hs s h; omega)
  exact cofferlaw15_turned.calls K A c xs _ W r1 l1 hK
theorem none_C {α : Type} (d : Kd α) (w : World) : Kd.C d w none 0 [] := ⟨rfl, by simp, fun h0 => absurd h0 (by simp)⟩
theorem slotsOk_nil : slotsOk [] := ⟨by simp, fun x h => by simp at h⟩
theorem epochsOk_nil : epochsOk [] := ⟨by simp, fun x h => by simp at h⟩
theorem tokensOk_nil : tokensOk [] := ⟨by simp, fun x h => by simp at h, fun x h => by simp at h⟩
theorem lit_told : told ⟨#[]⟩ ⟨#[]⟩ ⟨#[117]⟩ ⟨#[]⟩ 0 0 0 0 0 ⟨#[]⟩ ⟨#[]⟩ [] [] [] false 0 0 false 0 0 0 0 0 false 0 ⟨#[]⟩ [] ⟨#[]⟩ ⟨#[]⟩ ⟨#[]⟩ ⟨#[]⟩ 0 0 0 0 0 ⟨#[]⟩ ⟨#[]⟩ [] [] [] false 0 0 false 0 0 0 0 0 false 0 ⟨#[]⟩ [] = [⟨#[117, 117, 105, 100]⟩] := by
  kernel_rfl
theorem lit_call (W : World) (htab : Tab W) : Calls Tryd.prog 5 #[.agg #[.string ⟨#[]⟩, .string ⟨#[]⟩, .string ⟨#[117]⟩, .string ⟨#[]⟩, .int .i64 0, .int .u64 0, .int .i64 0, .int .i64 0, .int .i64 0, .string ⟨#[]⟩, .string ⟨#[]⟩, .slice none 0 0, .slice none 0 0, .slice none 0 0, .bool false, .int .u64 0, .int .u64 0, .bool false, .int .i64 0, .int .u64 0, .int .u64 0, .int .i64 0, .int .i64 0, .bool false, .int .u64 0, .string ⟨#[]⟩, .slice none 0 0], .agg #[.string ⟨#[]⟩, .string ⟨#[]⟩, .string ⟨#[]⟩, .string ⟨#[]⟩, .int .i64 0, .int .u64 0, .int .i64 0, .int .i64 0, .int .i64 0, .string ⟨#[]⟩, .string ⟨#[]⟩, .slice none 0 0, .slice none 0 0, .slice none 0 0, .bool false, .int .u64 0, .int .u64 0, .bool false, .int .i64 0, .int .u64 0, .int .u64 0, .int .i64 0, .int .i64 0, .bool false, .int .u64 0, .string ⟨#[]⟩, .slice none 0 0]] W fun e w' => ∃ v0_ : Value, e = .returned v0_ ∧ Kd.R Kd.string 9 w' W.heap.size (fun _ => True) v0_ [⟨#[117, 117, 105, 100]⟩] ∧ Below W.heap.size W w' := by
  obtain ⟨K, hK⟩ := own_ok ⟨#[]⟩ ⟨#[]⟩ ⟨#[117]⟩ ⟨#[]⟩ 0 0 0 0 0 ⟨#[]⟩ ⟨#[]⟩ [] [] [] false 0 0 false 0 0 0 0 0 false 0 ⟨#[]⟩ [] ⟨#[]⟩ ⟨#[]⟩ ⟨#[]⟩ ⟨#[]⟩ 0 0 0 0 0 ⟨#[]⟩ ⟨#[]⟩ [] [] [] false 0 0 false 0 0 0 0 0 false 0 ⟨#[]⟩ [] slotsOk_nil slotsOk_nil epochsOk_nil epochsOk_nil tokensOk_nil tokensOk_nil (by simp)
  rw [lit_told] at hK
  exact probe_Compare.calls K ⟨#[]⟩ ⟨#[]⟩ ⟨#[117]⟩ ⟨#[]⟩ 0 0 0 0 0 ⟨#[]⟩ ⟨#[]⟩ none 0 [] none 0 [] none 0 [] false 0 0 false 0 0 0 0 0 false 0 ⟨#[]⟩ none 0 [] ⟨#[]⟩ ⟨#[]⟩ ⟨#[]⟩ ⟨#[]⟩ 0 0 0 0 0 ⟨#[]⟩ ⟨#[]⟩ none 0 [] none 0 [] none 0 [] false 0 0 false 0 0 0 0 0 false 0 ⟨#[]⟩ none 0 [] _ W (none_C k50 W) (by simp) (none_C k56 W) (by simp) (none_C k46 W) (by simp) (none_C k63 W) (by simp) (none_C k50 W) (by simp) (none_C k56 W) (by simp) (none_C k46 W) (by simp) (none_C k63 W) (by simp) htab hK
theorem info36 : (Tryd.prog.info? 36).map (fun i => i.size) = some 27 := by kernel_rfl

set_option maxHeartbeats 16000000 in
set_option maxRecDepth 100000 in
theorem law_walk {ca cb : Array Value} (hca : ca.size = 27) (hcb : cb.size = 27) (xs ys : List ByteArray) (hx : xs.length < 1000000000) (hy : ys.length < 1000000000) (hxs : ∀ s ∈ xs, 4 ≤ s.size ∧ s.size ≤ 64) (hturn : turnedPlain.turnedL xs = ys) (w : World) (htab : Tab w)
    (hA : ∀ w1, Below w.heap.size w w1 → Calls Tryd.prog 5 #[.agg ca, .agg ca] w1 fun e w' => ∃ v0_ : Value, e = .returned v0_ ∧ Kd.R Kd.string 9 w' w1.heap.size (fun _ => True) v0_ [] ∧ Below w1.heap.size w1 w')
    (hB : ∀ w1, Below w.heap.size w w1 → Calls Tryd.prog 5 #[.agg ca, .agg cb] w1 fun e w' => ∃ v0_ : Value, e = .returned v0_ ∧ Kd.R Kd.string 9 w' w1.heap.size (fun _ => True) v0_ xs ∧ Below w1.heap.size w1 w')
    (hC : ∀ w1, Below w.heap.size w w1 → Calls Tryd.prog 5 #[.agg cb, .agg ca] w1 fun e w' => ∃ v0_ : Value, e = .returned v0_ ∧ Kd.R Kd.string 9 w' w1.heap.size (fun _ => True) v0_ ys ∧ Below w1.heap.size w1 w') :
    Calls Tryd.prog 3 #[.agg ca, .agg cb] w fun e w' => e = .returned (.bool true) ∧ Below w.heap.size w w' := by
  have hb0 : Below w.heap.size w ((w.alloc (.cells ca 36)).alloc (.cells cb 36)) := ((Below.refl _ w).alloc (Nat.le_refl _) _).alloc (by simp) _
  have hsz : w.heap.size ≤ ((w.alloc (.cells ca 36)).alloc (.cells cb 36)).heap.size := by simp; omega
  have hbk : ((w.alloc (.cells ca 36)).alloc (.cells cb 36)).heap[w.heap.size]? = some (.cells ca 36 (0, 0)) := (((Below.refl _ (w.alloc (.cells ca 36))).alloc (Nat.le_refl _) (.cells cb 36)).block _ (by simp)).trans (heap_alloc_new w _)
  have hbj : ((w.alloc (.cells ca 36)).alloc (.cells cb 36)).heap[w.heap.size + 1]? = some (.cells cb 36 (0, 0)) := by
    have h := heap_alloc_new (w.alloc (.cells ca 36)) (.cells cb 36)
    rwa [show (w.alloc (.cells ca 36)).heap.size = w.heap.size + 1 by simp] at h
  have hlt : w.heap.size + 1 < ((w.alloc (.cells ca 36)).alloc (.cells cb 36)).heap.size := by simp
  have hin : (Tryd.prog.info? 36).map (fun i => i.size) = some ca.size := by rw [hca]; exact info36
  have hjn : (Tryd.prog.info? 36).map (fun i => i.size) = some cb.size := by rw [hcb]; exact info36
  have hturn := Aside0.mk hturn
  go_enter Tryd.func3, Tryd.ntmps3
  go_wp2_with (first | ((with_reducible refine gate_ (.load 36 (.tmp 2)) rfl ?_); refine wpList_load_row rfl 36 (.tmp 2) rfl w.heap.size rfl 36 ca (0, 0) _ hbk Tryd.underlying36 rfl hin ?_) | ((with_reducible refine gate_ (.load 36 (.tmp 3)) rfl ?_); refine wpList_load_row rfl 36 (.tmp 3) rfl (w.heap.size + 1) rfl 36 cb (0, 0) _ hbj Tryd.underlying36 rfl hjn ?_))
  generalize hWb : (w.alloc (.cells ca 36)).alloc (.cells cb 36) = Wb at *
  refine (hA Wb hb0).mono ?_
  rintro e W1 ⟨va, rfl, ra1, b1⟩
  obtain ⟨A1, c1, rfl⟩ := Kd.R_slice ra1
  have hbk1 := (b1.block _ (Nat.lt_of_succ_lt hlt)).trans hbk
  have hbj1 := (b1.block _ hlt).trans hbj
  go_wp2_with (first | ((with_reducible refine gate_ (.load 36 (.tmp 2)) rfl ?_); refine wpList_load_row rfl 36 (.tmp 2) rfl w.heap.size rfl 36 ca (0, 0) _ hbk1 Tryd.underlying36 rfl hin ?_) | ((with_reducible refine gate_ (.load 36 (.tmp 3)) rfl ?_); refine wpList_load_row rfl 36 (.tmp 3) rfl (w.heap.size + 1) rfl 36 cb (0, 0) _ hbj1 Tryd.underlying36 rfl hjn ?_))
  refine (hB W1 (hb0.trans (b1.mono hsz))).mono ?_
  rintro e W2 ⟨vb, rfl, rb2, b2⟩
  obtain ⟨A2, c2, rfl⟩ := Kd.R_slice rb2
  have b02 : Below Wb.heap.size Wb W2 := b1.trans (b2.mono b1.size)
  have hbk2 := (b02.block _ (Nat.lt_of_succ_lt hlt)).trans hbk
  have hbj2 := (b02.block _ hlt).trans hbj
  have e2 := hb0.trans (b02.mono hsz)
  clear hbk hbk1 hbj hbj1 ra1
  go_wp2
  go_loop [6] (fun v6 => ∃ k : Nat, k ≤ xs.length ∧ v6 = .int .i64 k) (fun v6 => xs.length - (intOf v6).toNat)
  case atStart => exact ⟨0, Nat.zero_le _, rfl⟩
  case round =>
    obtain ⟨k, hk, rfl⟩ := hrel
    rcases Nat.lt_or_ge k xs.length with hkl | hkl
    · obtain ⟨ad, e11, hc⟩ := Kd.at_string (Kd.R_reads' rb2).2.2 (k : Int) (by omega) (by omega)
      cases e11
      have hrd : rdOf ByteArray.empty xs (k : Int) = xs[k] := by simp [rdOf, hkl]
      have hm := (hxs _ (List.getElem_mem hkl)).1
      rw [hrd] at hc
      simp only [Int.toNat_natCast] at hc
      generalize xs[k] = s at *
      have d4 : decide ((s.size : Int) < 4) = false := by simp; omega
      have hlt2 : decide ((k : Int) < (xs.length : Int)) = true := by simp; omega
      go_wp2
      go_round
      case rel => exact ⟨k + 1, by omega, by go_num⟩
      case measure => simp [intOf]; omega
    · obtain rfl : k = xs.length := by omega
      have hlt2 : decide ((xs.length : Int) < (xs.length : Int)) = false := by simp
      go_wp2_with (first | ((with_reducible refine gate_ (.load 36 (.tmp 2)) rfl ?_); refine wpList_load_row rfl 36 (.tmp 2) rfl w.heap.size rfl 36 ca (0, 0) _ hbk2 Tryd.underlying36 rfl hin ?_) | ((with_reducible refine gate_ (.load 36 (.tmp 3)) rfl ?_); refine wpList_load_row rfl 36 (.tmp 3) rfl (w.heap.size + 1) rfl 36 cb (0, 0) _ hbj2 Tryd.underlying36 rfl hjn ?_))
      refine (hC W2 e2).mono ?_
      rintro e W3 ⟨vc, rfl, rc3, b3⟩
      obtain ⟨A3, c3, rfl⟩ := Kd.R_slice rc3
      have rb3 := Kd.R_below rb2 b3
      go_wp2_with fail
      refine (turned_call hx hxs rb3).mono ?_
      rintro e W4 ⟨vt, rfl, rt4, b4⟩
      rw [hturn.out] at rt4
      obtain ⟨A4, c4, rfl⟩ := Kd.R_slice rt4
      have rc4 := Kd.R_below rc3 b4
      go_wp2_with fail
      refine (same_call (by omega) rc4 rt4).mono ?_
      rintro e W5 ⟨rfl, b5⟩
      have e3 := e2.trans (b3.mono e2.size)
      have e4 := e3.trans (b4.mono e3.size)
      have e5 := e4.trans (b5.mono e4.size)
      go_wp2_with fail
      refine (lit_call W5 (htab.stays e5)).mono ?_
      rintro e W6 ⟨vx, rfl, rx6, b6⟩
      obtain ⟨A5, c5, rfl⟩ := Kd.R_slice rx6
      go_wp2
      go_ret
      exact ⟨rfl, e5.trans (b6.mono e5.size)⟩
end Go.Proofs.YtkpgklkplmljdaaDoor.turnedWalk
