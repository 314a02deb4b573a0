/- The Go text of the law ProbeOrders returns true. -/
import Derived.Test.YtkpgklkplmljdaaIntsPlain
import Derived.Test.YtkpgklkplmljdaaOrderA
import Derived.Test.YtkpgklkplmljdaaOrderB
namespace Go.Proofs.Ytkpgklkplmljdaa.PProbeOrders
open Go.RowKit Go.Proofs.YtkpgklkplmljdaaW.PrintWords Go.Proofs.YtkpgklkplmljdaaW.PrintLast Go.Proofs.YtkpgklkplmljdaaW.PrintMore
set_option linter.unusedVariables false
set_option linter.unusedSimpArgs false

/-- SameInts of two rows that hold one list. -/
theorem same_call {W : World} {xs : List Int} (hx : xs.length < 17592186044416) {A B : Option Addr} {n m c d : Nat} {b1 b2 : Nat} {o1 o2 : Nat → Prop} (h1 : Kd.R (Kd.int .i64) 3 W b1 o1 (.slice A n c) xs) (h2 : Kd.R (Kd.int .i64) 3 W b2 o2 (.slice B m d) xs) :
    Calls Try.prog 10 #[.slice A n c, .slice B m d] W fun e w' => e = .returned (.bool true) ∧ Below W.heap.size W w' := by
  obtain ⟨rfl, l1, r1⟩ := Kd.R_reads' h1
  obtain ⟨rfl, l2, r2⟩ := Kd.R_reads' h2
  exact (cofferbook_SameInts.calls (xs.length + 1) A c xs B d xs true W r1 l1 r2 l2 (same_refl xs hx)).mono fun e w' ⟨he, hd⟩ => ⟨he, hd.below⟩

def lit1 : S45 := ⟨5, 1, 0, 0, ⟨#[]⟩, ⟨#[]⟩, 0, ⟨0, 0⟩⟩
def lit2 : S45 := ⟨9, 2, 0, 0, ⟨#[]⟩, ⟨#[]⟩, 0, ⟨0, 0⟩⟩
theorem lit_ordered : ordered [lit1, lit2] = [9, 5] := by
  simp [ordered, ordSel, ordSort, lit1, lit2]
theorem none_C {α : Type} (d : Kd α) (w : World) : Kd.C d w none 0 [] := ⟨rfl, by simp, fun h0 => absurd h0 (by simp)⟩
theorem lit_C (W : World) : Kd.C k45 (W.alloc (.cells #[.int .i64 5, .int .i64 1, .int .i64 0, .int .i64 0, .string ⟨#[]⟩, .string ⟨#[]⟩, .int .i64 0, .int .i64 0, .int .i64 0, .int .i64 9, .int .i64 2, .int .i64 0, .int .i64 0, .string ⟨#[]⟩, .string ⟨#[]⟩, .int .i64 0, .int .i64 0, .int .i64 0] 45))
    (some ⟨W.heap.size, 0, none⟩) 2 [lit1, lit2] := by
  refine ⟨rfl, by simp, fun _ => ⟨_, rfl, fun j p hj => ?_⟩⟩
  have hb := heap_alloc_new W (.cells #[.int .i64 5, .int .i64 1, .int .i64 0, .int .i64 0, .string ⟨#[]⟩, .string ⟨#[]⟩, .int .i64 0, .int .i64 0, .int .i64 0, .int .i64 9, .int .i64 2, .int .i64 0, .int .i64 0, .string ⟨#[]⟩, .string ⟨#[]⟩, .int .i64 0, .int .i64 0, .int .i64 0] 45)
  refine ⟨[.int .i64 p.f0, .int .i64 p.f1, .int .i64 p.f2, .int .i64 p.f3, .string p.f4, .string p.f5, .int .i64 p.f6, .int .i64 p.f7.f0, .int .i64 p.f7.f1], rfl, k45_mk _ p, fun i u hu => ?_⟩
  have ea : (⟨W.heap.size, 0, none⟩ : Addr).add (j * k45.sz + i) = ⟨W.heap.size, j * 9 + i, none⟩ := by
    show (⟨W.heap.size, 0, none⟩ : Addr).add (j * 9 + i) = _
    unfold Addr.add; split <;> simp_all
  rw [ea]
  simp only [World.cell?, hb]
  have hj2 : j < 2 := by have := (List.getElem?_eq_some_iff.1 hj).1; simpa using this
  have hi9 : i < 9 := by have := (List.getElem?_eq_some_iff.1 hu).1; simpa using this
  obtain rfl | rfl : j = 0 ∨ j = 1 := by omega
  · obtain rfl : lit1 = p := by simpa using hj
    rw [← hu]
    obtain rfl | rfl | rfl | rfl | rfl | rfl | rfl | rfl | rfl : i = 0 ∨ i = 1 ∨ i = 2 ∨ i = 3 ∨ i = 4 ∨ i = 5 ∨ i = 6 ∨ i = 7 ∨ i = 8 := by omega
    all_goals rfl
  · obtain rfl : lit2 = p := by simpa using hj
    rw [← hu]
    obtain rfl | rfl | rfl | rfl | rfl | rfl | rfl | rfl | rfl : i = 0 ∨ i = 1 ∨ i = 2 ∨ i = 3 ∨ i = 4 ∨ i = 5 ∨ i = 6 ∨ i = 7 ∨ i = 8 := by omega
    all_goals rfl
theorem lit_call (W : World) : Calls Try.prog 8 #[.agg #[.string ⟨#[]⟩, .string ⟨#[]⟩, .string ⟨#[]⟩, .string ⟨#[]⟩, .int .i64 0, .int .u64 0, .int .i64 0, .int .i64 0, .int .i64 0, .string ⟨#[]⟩, .string ⟨#[]⟩, .slice (some ⟨W.heap.size, 0, none⟩) 2 2, .slice none 0 0, .slice none 0 0,
      .bool false, .int .u64 0, .int .u64 0, .bool false, .int .i64 0, .int .u64 0, .int .u64 0, .int .i64 0, .int .i64 0, .bool false, .int .u64 0, .string ⟨#[]⟩, .slice none 0 0]]
    (W.alloc (.cells #[.int .i64 5, .int .i64 1, .int .i64 0, .int .i64 0, .string ⟨#[]⟩, .string ⟨#[]⟩, .int .i64 0, .int .i64 0, .int .i64 0, .int .i64 9, .int .i64 2, .int .i64 0, .int .i64 0, .string ⟨#[]⟩, .string ⟨#[]⟩, .int .i64 0, .int .i64 0, .int .i64 0] 45))
    fun e w' => ∃ v0_ : Value, e = .returned v0_ ∧ Kd.R (Kd.int .i64) 3 w' (W.heap.size + 1) (fun _ => True) v0_ [9, 5] ∧ Below (W.heap.size + 1) (W.alloc (.cells #[.int .i64 5, .int .i64 1, .int .i64 0, .int .i64 0, .string ⟨#[]⟩, .string ⟨#[]⟩, .int .i64 0, .int .i64 0, .int .i64 0, .int .i64 9, .int .i64 2, .int .i64 0, .int .i64 0, .string ⟨#[]⟩, .string ⟨#[]⟩, .int .i64 0, .int .i64 0, .int .i64 0] 45)) w' := by
  have h := probe_Order.calls ⟨#[]⟩ ⟨#[]⟩ ⟨#[]⟩ ⟨#[]⟩ 0 0 0 0 0 ⟨#[]⟩ ⟨#[]⟩ (some ⟨W.heap.size, 0, none⟩) 2 [lit1, lit2] none 0 [] none 0 [] false 0 0 false 0 0 0 0 0 false 0 ⟨#[]⟩ none 0 [] [9, 5] _ (lit_C W) (by simp) (none_C k99 _) (by simp) (none_C k101 _) (by simp) (none_C k103 _) (by simp)
    (by unfold probe_Order.f; rw [if_pos (by simp), lit_ordered])
  simpa using h
theorem pair_R (W : World) : Kd.R (Kd.int .i64) 3 (W.alloc (.cells #[.int .i64 9, .int .i64 5] 3)) W.heap.size (fun _ => True) (.slice (some ⟨W.heap.size, 0, none⟩) 2 2) [9, 5] :=
  Kd.R_of_own (own_lit_of (enc := Value.int .i64) W W.heap.size 3 [9, 5] (Nat.le_refl _) (by simp)) (fun _ _ => trivial)
theorem info39 : (Try.prog.info? 39).map (fun i => i.size) = some 27 := by kernel_rfl

set_option maxHeartbeats 16000000 in
set_option maxRecDepth 100000 in
theorem law_walk {cs : Array Value} (hcs : cs.size = 27) (xs : List Int) (hx : xs.length < 8796093022208) (w : World)
    (hA : ∀ w1, Below w.heap.size w w1 → Calls Try.prog 8 #[.agg cs] w1 fun e w' => ∃ v0_ : Value, e = .returned v0_ ∧ Kd.R (Kd.int .i64) 3 w' w1.heap.size (fun _ => True) v0_ xs ∧ Below w1.heap.size w1 w')
    (hB : ∀ w1, Below w.heap.size w w1 → Calls Try.prog 9 #[.agg cs] w1 fun e w' => ∃ v0_ : Value, e = .returned v0_ ∧ Kd.R (Kd.int .i64) 3 w' w1.heap.size (fun _ => True) v0_ xs ∧ Below w1.heap.size w1 w') :
    Calls Try.prog 5 #[.agg cs] w fun e w' => e = .returned (.bool true) ∧ Below w.heap.size w w' := by
  have hb0 : Below w.heap.size w (w.alloc (.cells cs 39)) := (Below.refl _ w).alloc (Nat.le_refl _) _
  have hsz : w.heap.size ≤ (w.alloc (.cells cs 39)).heap.size := by simp
  have hbk : (w.alloc (.cells cs 39)).heap[w.heap.size]? = some (.cells cs 39 (0, 0)) := heap_alloc_new w _
  have hlt : w.heap.size < (w.alloc (.cells cs 39)).heap.size := by simp
  have hin : (Try.prog.info? 39).map (fun i => i.size) = some cs.size := by rw [hcs]; exact info39
  go_enter Try.func5, Try.ntmps5
  go_wp2_with ((with_reducible refine gate_ (.load 39 (.tmp 1)) rfl ?_); refine wpList_load_row rfl 39 (.tmp 1) rfl w.heap.size rfl 39 cs (0, 0) _ hbk Try.underlying39 rfl hin ?_)
  generalize hWb : w.alloc (.cells cs 39) = Wb at *
  refine (hA Wb hb0).mono ?_
  rintro e W1 ⟨va, rfl, ra1, b1⟩
  obtain ⟨A1, c1, rfl⟩ := Kd.R_slice ra1
  have hbk1 := (b1.block _ hlt).trans hbk
  go_wp2_with ((with_reducible refine gate_ (.load 39 (.tmp 1)) rfl ?_); refine wpList_load_row rfl 39 (.tmp 1) rfl w.heap.size rfl 39 cs (0, 0) _ hbk1 Try.underlying39 rfl hin ?_)
  refine (hA W1 (hb0.trans (b1.mono hsz))).mono ?_
  rintro e W2 ⟨vb, rfl, rb2, b2⟩
  obtain ⟨A2, c2, rfl⟩ := Kd.R_slice rb2
  have ra1' := Kd.R_mono (ok' := fun k_ => k_ < W1.heap.size) (Kd.R_bound ra1) (fun k_ h_ => h_.2.2.1)
  have ra2 := Kd.R_below ra1' b2
  have b02 : Below Wb.heap.size Wb W2 := b1.trans (b2.mono b1.size)
  have hbk2 := (b02.block _ hlt).trans hbk
  go_wp2_with ((with_reducible refine gate_ (.load 39 (.tmp 1)) rfl ?_); refine wpList_load_row rfl 39 (.tmp 1) rfl w.heap.size rfl 39 cs (0, 0) _ hbk2 Try.underlying39 rfl hin ?_)
  refine (hB W2 (hb0.trans (b02.mono hsz))).mono ?_
  rintro e W3 ⟨vw, rfl, rw3, b3⟩
  obtain ⟨A3, c3, rfl⟩ := Kd.R_slice rw3
  have ra3 := Kd.R_below ra2 b3
  have rb3 := Kd.R_below rb2 b3
  have b03 : Below Wb.heap.size Wb W3 := b02.trans (b3.mono b02.size)
  clear ra1 ra1' ra2 rb2 hbk hbk1 hbk2
  go_wp2_with fail
  refine (same_call (by omega) ra3 rw3).mono ?_
  rintro e W4 ⟨rfl, b4⟩
  have ra4 := Kd.R_below ra3 b4
  have rb4 := Kd.R_below rb3 b4
  have rw4 := Kd.R_below rw3 b4
  go_wp2_with fail
  refine (same_call (by omega) rb4 rw4).mono ?_
  rintro e W5 ⟨rfl, b5⟩
  have ra5 := Kd.R_below ra4 b5
  have rb5 := Kd.R_below rb4 b5
  have rw5 := Kd.R_below rw4 b5
  go_wp2_with fail
  have b05 : Below Wb.heap.size Wb W5 := (b03.trans (b4.mono b03.size)).trans (b5.mono (Nat.le_trans b03.size b4.size))
  refine (cofferbook_SpoilInts.calls (xs.length + 72) (fun k_ => k_ < W1.heap.size) _ xs Wb W5 b05 ra5 (spoil_ok xs (by omega))).mono ?_
  rintro e W6 ⟨rfl, b06, kept⟩
  have rb6 := Kd.R_mono (ok' := fun _ => True) (Kd.R_step (w1 := W6) (Kd.R_bound rb5) (fun k_ h_ hk_ => kept.2 k_ hk_ (by have := h_.2.1; omega))) (fun _ _ => trivial)
  have rw6 := Kd.R_mono (ok' := fun _ => True) (Kd.R_step (w1 := W6) (Kd.R_bound rw5) (fun k_ h_ hk_ => kept.2 k_ hk_ (by have := h_.2.1; have := b2.size; omega))) (fun _ _ => trivial)
  clear ra3 ra4 ra5 rb3 rb4 rb5 rw3 rw4 rw5
  go_wp2_with fail
  refine (lit_call W6).mono ?_
  rintro e W7 ⟨vx, rfl, rx7, b7⟩
  obtain ⟨A4, c4, rfl⟩ := Kd.R_slice rx7
  go_wp2_with fail
  have b7' := b7
  rw [show W6.heap.size + 1 = (W6.alloc (.cells #[.int .i64 5, .int .i64 1, .int .i64 0, .int .i64 0, .string ⟨#[]⟩, .string ⟨#[]⟩, .int .i64 0, .int .i64 0, .int .i64 0, .int .i64 9, .int .i64 2, .int .i64 0, .int .i64 0, .string ⟨#[]⟩, .string ⟨#[]⟩, .int .i64 0, .int .i64 0, .int .i64 0] 45)).heap.size by simp] at b7'
  have rb7 := Kd.R_below (Kd.R_alloc rb6 _) b7'
  have rw7 := Kd.R_below (Kd.R_alloc rw6 _) b7'
  clear rb6 rw6
  refine (same_call (by omega) rb7 rw7).mono ?_
  rintro e W8 ⟨rfl, b8⟩
  have rx8 := Kd.R_below rx7 b8
  go_wp2_with fail
  refine (same_call (xs := [9, 5]) (by simp) (Kd.R_alloc rx8 _) (pair_R W8)).mono ?_
  rintro e W9 ⟨rfl, b9⟩
  go_wp2
  go_ret
  have e6 := hb0.trans (b06.mono hsz)
  have e7 := (e6.alloc e6.size _).trans (b7.mono (by have := e6.size; omega))
  have e8 := e7.trans (b8.mono e7.size)
  have e9 := (e8.alloc e8.size _).trans (b9.mono (by have := e8.size; simp; omega))
  exact ⟨rfl, e9⟩
end Go.Proofs.Ytkpgklkplmljdaa.PProbeOrders
