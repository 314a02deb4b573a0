/- The Go text of the law ProbeCompares returns true. (Written by gen6.py.) -/
import Derived.Test.YtkpgklkplmljdaaDoorComparePlain
import Derived.Test.YtkpgklkplmljdaaDoorTextsPlain
namespace Go.Proofs.YtkpgklkplmljdaaDoor.comparesWalk
open Go Go.RowKit Go.Proofs.YtkpgklkplmljdaaDoor.PProbeCompares Go.Proofs.YtkpgklkplmljdaaDoorW.PrintWords Go.Proofs.YtkpgklkplmljdaaDoorW.PrintLast Go.Proofs.YtkpgklkplmljdaaDoorW.PrintMore Go.Proofs.YtkpgklkplmljdaaDoor.num Go.Proofs.YtkpgklkplmljdaaDoor.comparePlain Go.Proofs.YtkpgklkplmljdaaDoor.textsPlain
set_option linter.unusedVariables false
set_option linter.unusedSimpArgs false
/-- SameTexts of two rows that hold one list. -/
theorem same_call {W : World} {xs : List ByteArray} (hx : xs.length < 17592186044416) {A B : Option Addr} {n m c d : Nat} {b1 b2 : Nat} {o1 o2 : Nat → Prop} (h1 : Kd.R Kd.string 9 W b1 o1 (.slice A n c) xs) (h2 : Kd.R Kd.string 9 W b2 o2 (.slice B m d) xs) :
    Calls Tryd.prog 6 #[.slice A n c, .slice B m d] W fun e w' => e = .returned (.bool true) ∧ Below W.heap.size W w' := by
  obtain ⟨rfl, l1, r1⟩ := Kd.R_reads' h1
  obtain ⟨rfl, l2, r2⟩ := Kd.R_reads' h2
  exact (cofferbook_SameTexts.calls (xs.length + 1) A c xs B d xs true W r1 l1 r2 l2 (same_refl xs hx)).mono fun e w' ⟨he, hd⟩ => ⟨he, hd.below⟩
theorem none_C {α : Type} (d : Kd α) (w : World) : Kd.C d w none 0 [] := ⟨rfl, by simp, fun h0 => absurd h0 (by simp)⟩
theorem slotsOk_nil : slotsOk [] := ⟨by simp, fun x h => by simp at h⟩
theorem epochsOk_nil : epochsOk [] := ⟨by simp, fun x h => by simp at h⟩
theorem tokensOk_nil : tokensOk [] := ⟨by simp, fun x h => by simp at h, fun x h => by simp at h⟩
theorem lit_told : told ⟨#[97]⟩ ⟨#[]⟩ ⟨#[]⟩ ⟨#[]⟩ 0 0 0 0 0 ⟨#[]⟩ ⟨#[]⟩ [] [] [] false 0 0 false 0 0 0 0 0 false 0 ⟨#[]⟩ [] ⟨#[]⟩ ⟨#[]⟩ ⟨#[]⟩ ⟨#[]⟩ 0 0 0 0 0 ⟨#[]⟩ ⟨#[]⟩ [] [] [] false 0 0 false 0 0 0 0 0 false 0 ⟨#[]⟩ [] = [⟨#[108, 97, 98, 101, 108]⟩] := by
  kernel_rfl
theorem lit_call (W : World) (htab : Tab W) : Calls Tryd.prog 5 #[.agg #[.string ⟨#[97]⟩, .string ⟨#[]⟩, .string ⟨#[]⟩, .string ⟨#[]⟩, .int .i64 0, .int .u64 0, .int .i64 0, .int .i64 0, .int .i64 0, .string ⟨#[]⟩, .string ⟨#[]⟩, .slice none 0 0, .slice none 0 0, .slice none 0 0, .bool false, .int .u64 0, .int .u64 0, .bool false, .int .i64 0, .int .u64 0, .int .u64 0, .int .i64 0, .int .i64 0, .bool false, .int .u64 0, .string ⟨#[]⟩, .slice none 0 0], .agg #[.string ⟨#[]⟩, .string ⟨#[]⟩, .string ⟨#[]⟩, .string ⟨#[]⟩, .int .i64 0, .int .u64 0, .int .i64 0, .int .i64 0, .int .i64 0, .string ⟨#[]⟩, .string ⟨#[]⟩, .slice none 0 0, .slice none 0 0, .slice none 0 0, .bool false, .int .u64 0, .int .u64 0, .bool false, .int .i64 0, .int .u64 0, .int .u64 0, .int .i64 0, .int .i64 0, .bool false, .int .u64 0, .string ⟨#[]⟩, .slice none 0 0]] W fun e w' => ∃ v0_ : Value, e = .returned v0_ ∧ Kd.R Kd.string 9 w' W.heap.size (fun _ => True) v0_ [⟨#[108, 97, 98, 101, 108]⟩] ∧ Below W.heap.size W w' := by
  obtain ⟨K, hK, _⟩ := both_ok ⟨#[97]⟩ ⟨#[]⟩ ⟨#[]⟩ ⟨#[]⟩ 0 0 0 0 0 ⟨#[]⟩ ⟨#[]⟩ [] [] [] false 0 0 false 0 0 0 0 0 false 0 ⟨#[]⟩ [] ⟨#[]⟩ ⟨#[]⟩ ⟨#[]⟩ ⟨#[]⟩ 0 0 0 0 0 ⟨#[]⟩ ⟨#[]⟩ [] [] [] false 0 0 false 0 0 0 0 0 false 0 ⟨#[]⟩ [] slotsOk_nil slotsOk_nil epochsOk_nil epochsOk_nil tokensOk_nil tokensOk_nil (by simp)
  rw [lit_told] at hK
  exact probe_Compare.calls K ⟨#[97]⟩ ⟨#[]⟩ ⟨#[]⟩ ⟨#[]⟩ 0 0 0 0 0 ⟨#[]⟩ ⟨#[]⟩ none 0 [] none 0 [] none 0 [] false 0 0 false 0 0 0 0 0 false 0 ⟨#[]⟩ none 0 [] ⟨#[]⟩ ⟨#[]⟩ ⟨#[]⟩ ⟨#[]⟩ 0 0 0 0 0 ⟨#[]⟩ ⟨#[]⟩ none 0 [] none 0 [] none 0 [] false 0 0 false 0 0 0 0 0 false 0 ⟨#[]⟩ none 0 [] _ W (none_C k50 W) (by simp) (none_C k56 W) (by simp) (none_C k46 W) (by simp) (none_C k63 W) (by simp) (none_C k50 W) (by simp) (none_C k56 W) (by simp) (none_C k46 W) (by simp) (none_C k63 W) (by simp) htab hK
theorem info36 : (Tryd.prog.info? 36).map (fun i => i.size) = some 27 := by kernel_rfl

set_option maxHeartbeats 16000000 in
set_option maxRecDepth 100000 in
theorem law_walk {ca cb : Array Value} (hca : ca.size = 27) (hcb : cb.size = 27) (xs : List ByteArray) (hx : xs.length < 8796093022000) (w : World) (htab : Tab w)
    (hA : ∀ w1, Below w.heap.size w w1 → Calls Tryd.prog 5 #[.agg ca, .agg cb] w1 fun e w' => ∃ v0_ : Value, e = .returned v0_ ∧ Kd.R Kd.string 9 w' w1.heap.size (fun _ => True) v0_ xs ∧ Below w1.heap.size w1 w')
    (hB : ∀ w1, Below w.heap.size w w1 → Calls Tryd.prog 8 #[.agg ca, .agg cb] w1 fun e w' => ∃ v0_ : Value, e = .returned v0_ ∧ Kd.R Kd.string 9 w' w1.heap.size (fun _ => True) v0_ xs ∧ Below w1.heap.size w1 w') :
    Calls Tryd.prog 4 #[.agg ca, .agg cb] w fun e w' => e = .returned (.bool true) ∧ Below w.heap.size w w' := by
  have hb0 : Below w.heap.size w ((w.alloc (.cells ca 36)).alloc (.cells cb 36)) := ((Below.refl _ w).alloc (Nat.le_refl _) _).alloc (by simp) _
  have hsz : w.heap.size ≤ ((w.alloc (.cells ca 36)).alloc (.cells cb 36)).heap.size := by simp; omega
  have hbk : ((w.alloc (.cells ca 36)).alloc (.cells cb 36)).heap[w.heap.size]? = some (.cells ca 36 (0, 0)) := (((Below.refl _ (w.alloc (.cells ca 36))).alloc (Nat.le_refl _) (.cells cb 36)).block _ (by simp)).trans (heap_alloc_new w _)
  have hbj : ((w.alloc (.cells ca 36)).alloc (.cells cb 36)).heap[w.heap.size + 1]? = some (.cells cb 36 (0, 0)) := by
    have h := heap_alloc_new (w.alloc (.cells ca 36)) (.cells cb 36)
    rwa [show (w.alloc (.cells ca 36)).heap.size = w.heap.size + 1 by simp] at h
  have hlt : w.heap.size + 1 < ((w.alloc (.cells ca 36)).alloc (.cells cb 36)).heap.size := by simp
  have hin : (Tryd.prog.info? 36).map (fun i => i.size) = some ca.size := by rw [hca]; exact info36
  have hjn : (Tryd.prog.info? 36).map (fun i => i.size) = some cb.size := by rw [hcb]; exact info36
  go_enter Tryd.func4, Tryd.ntmps4
  go_wp2_with (first | ((with_reducible refine gate_ (.load 36 (.tmp 2)) rfl ?_); refine wpList_load_row rfl 36 (.tmp 2) rfl w.heap.size rfl 36 ca (0, 0) _ hbk Tryd.underlying36 rfl hin ?_) | ((with_reducible refine gate_ (.load 36 (.tmp 3)) rfl ?_); refine wpList_load_row rfl 36 (.tmp 3) rfl (w.heap.size + 1) rfl 36 cb (0, 0) _ hbj Tryd.underlying36 rfl hjn ?_))
  generalize hWb : (w.alloc (.cells ca 36)).alloc (.cells cb 36) = Wb at *
  refine (hA Wb hb0).mono ?_
  rintro e W1 ⟨va, rfl, ra1, b1⟩
  obtain ⟨A1, c1, rfl⟩ := Kd.R_slice ra1
  have hbk1 := (b1.block _ (Nat.lt_of_succ_lt hlt)).trans hbk
  have hbj1 := (b1.block _ hlt).trans hbj
  go_wp2_with (first | ((with_reducible refine gate_ (.load 36 (.tmp 2)) rfl ?_); refine wpList_load_row rfl 36 (.tmp 2) rfl w.heap.size rfl 36 ca (0, 0) _ hbk1 Tryd.underlying36 rfl hin ?_) | ((with_reducible refine gate_ (.load 36 (.tmp 3)) rfl ?_); refine wpList_load_row rfl 36 (.tmp 3) rfl (w.heap.size + 1) rfl 36 cb (0, 0) _ hbj1 Tryd.underlying36 rfl hjn ?_))
  refine (hA W1 (hb0.trans (b1.mono hsz))).mono ?_
  rintro e W2 ⟨vb, rfl, rb2, b2⟩
  obtain ⟨A2, c2, rfl⟩ := Kd.R_slice rb2
  have ra1' := Kd.R_mono (ok' := fun k_ => k_ < W1.heap.size) (Kd.R_bound ra1) (fun k_ h_ => h_.2.2.1)
  have ra2 := Kd.R_below ra1' b2
  have b02 : Below Wb.heap.size Wb W2 := b1.trans (b2.mono b1.size)
  have hbk2 := (b02.block _ (Nat.lt_of_succ_lt hlt)).trans hbk
  have hbj2 := (b02.block _ hlt).trans hbj
  go_wp2_with (first | ((with_reducible refine gate_ (.load 36 (.tmp 2)) rfl ?_); refine wpList_load_row rfl 36 (.tmp 2) rfl w.heap.size rfl 36 ca (0, 0) _ hbk2 Tryd.underlying36 rfl hin ?_) | ((with_reducible refine gate_ (.load 36 (.tmp 3)) rfl ?_); refine wpList_load_row rfl 36 (.tmp 3) rfl (w.heap.size + 1) rfl 36 cb (0, 0) _ hbj2 Tryd.underlying36 rfl hjn ?_))
  refine (hB W2 (hb0.trans (b02.mono hsz))).mono ?_
  rintro e W3 ⟨vw, rfl, rw3, b3⟩
  obtain ⟨A3, c3, rfl⟩ := Kd.R_slice rw3
  have ra3 := Kd.R_below ra2 b3
  have rb3 := Kd.R_below rb2 b3
  have b03 : Below Wb.heap.size Wb W3 := b02.trans (b3.mono b02.size)
  clear ra1 ra1' ra2 rb2 hbk hbk1 hbk2 hbj hbj1 hbj2
  go_wp2_with fail
  refine (same_call (by omega) ra3 rw3).mono ?_
  rintro e W4 ⟨rfl, b4⟩
  have ra4 := Kd.R_below ra3 b4
  have rb4 := Kd.R_below rb3 b4
  have rw4 := Kd.R_below rw3 b4
  go_wp2_with fail
  refine (same_call (by omega) rb4 rw4).mono ?_
  rintro e W5 ⟨rfl, b5⟩
  have ra5 := Kd.R_below ra4 b5
  have rb5 := Kd.R_below rb4 b5
  have rw5 := Kd.R_below rw4 b5
  go_wp2_with fail
  have b05 : Below Wb.heap.size Wb W5 := (b03.trans (b4.mono b03.size)).trans (b5.mono (Nat.le_trans b03.size b4.size))
  refine (cofferbook_SpoilTexts.calls (xs.length + 72) (fun k_ => k_ < W1.heap.size) _ xs Wb W5 b05 ra5 (spoil_ok xs (by omega))).mono ?_
  rintro e W6 ⟨rfl, b06, kept⟩
  have rb6 := Kd.R_mono (ok' := fun _ => True) (Kd.R_step (w1 := W6) (Kd.R_bound rb5) (fun k_ h_ hk_ => kept.2 k_ hk_ (by have := h_.2.1; omega))) (fun _ _ => trivial)
  have rw6 := Kd.R_mono (ok' := fun _ => True) (Kd.R_step (w1 := W6) (Kd.R_bound rw5) (fun k_ h_ hk_ => kept.2 k_ hk_ (by have := h_.2.1; have := b2.size; omega))) (fun _ _ => trivial)
  clear ra3 ra4 ra5 rb3 rb4 rb5 rw3 rw4 rw5
  go_wp2_with fail
  refine (same_call (by omega) rb6 rw6).mono ?_
  rintro e W7 ⟨rfl, b7⟩
  have e6 := hb0.trans (b06.mono hsz)
  have e7 := e6.trans (b7.mono e6.size)
  go_wp2_with fail
  refine (lit_call W7 (htab.stays e7)).mono ?_
  rintro e W8 ⟨vx, rfl, rx8, b8⟩
  obtain ⟨A4, c4, rfl⟩ := Kd.R_slice rx8
  go_wp2
  go_ret
  exact ⟨rfl, e7.trans (b8.mono e7.size)⟩
end Go.Proofs.YtkpgklkplmljdaaDoor.comparesWalk
