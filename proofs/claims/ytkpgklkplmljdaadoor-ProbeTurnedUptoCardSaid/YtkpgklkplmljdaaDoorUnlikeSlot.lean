/- probe.Compare's names and unlike at Slot. (Written by gen3.py.) -/
import Derived.Test.YtkpgklkplmljdaaDoorRefLists
import Derived.Test.YtkpgklkplmljdaaDoorNum
import Derived.Test.YtkpgklkplmljdaaDoorCmpSlot
namespace Go.Proofs.YtkpgklkplmljdaaDoor.cmpSlot
open Go.RowKit Go.Proofs.YtkpgklkplmljdaaDoor.PProbeCompares Go.Proofs.YtkpgklkplmljdaaDoorW.PrintWords Go.Proofs.YtkpgklkplmljdaaDoorW.PrintLast Go.Proofs.YtkpgklkplmljdaaDoorW.PrintMore Go.Proofs.YtkpgklkplmljdaaDoor.refPlain Go.Proofs.YtkpgklkplmljdaaDoor.num
set_option linter.unusedVariables false
set_option linter.unusedSimpArgs false
def nm (x : S50) : ByteArray := (⟨#[115, 108, 111, 116, 32]⟩ : ByteArray) ++ itoaB x.f0
theorem nm_size (x : S50) (hx : -9223372036854775808 ≤ x.f0 ∧ x.f0 ≤ 9223372036854775807) : (nm x).size ≤ 32 := by
  have h := itoa_size _ hx
  unfold nm
  rw [ByteArray.size_append]
  have e9 : (⟨#[115, 108, 111, 116, 32]⟩ : ByteArray).size = 5 := rfl
  omega
set_option maxHeartbeats 4000000 in
set_option maxRecDepth 100000 in
theorem name_call (x : S50) (hx : -9223372036854775808 ≤ x.f0 ∧ x.f0 ≤ 9223372036854775807) (w : World) (htab : Tab w) : Calls Tryd.prog 13 #[.agg (cells x)] w fun e w' => e = .returned (.string (nm x)) ∧ Below w.heap.size w w' := by
  have hb0 : Below w.heap.size w (w.alloc (.cells (cells x) 50)) := (Below.refl _ w).alloc (Nat.le_refl _) _
  have htab' := htab.stays hb0
  have hsz := nm_size x hx
  have hcall := n_call x.f0 hx _ htab'
  have hcat : (9223372036854775807 < 5 + (Lib.itoa x.f0).length) = False := by
    refine eq_false ?_
    unfold nm at hsz
    rw [ByteArray.size_append] at hsz
    have e9 : (⟨#[115, 108, 111, 116, 32]⟩ : ByteArray).size = 5 := rfl
    have e8 : (itoaB x.f0).size = (Lib.itoa x.f0).length := List.size_toArray
    omega
  go_enter Tryd.func13, Tryd.ntmps13
  go_wp2_with fail
  refine hcall.mono ?_
  rintro e w1 ⟨rfl, hb⟩
  go_wp2
  go_ret
  exact ⟨rfl, hb0.trans (hb.mono (by simp))⟩
set_option maxHeartbeats 4000000 in
set_option maxRecDepth 100000 in
theorem d1_call (x : S50) (hx : -9223372036854775808 ≤ x.f0 ∧ x.f0 ≤ 9223372036854775807) (w : World) (htab : Tab w) (nb : Nat) (hnb : w.heap[nb]? = some (.cells #[.func (.func 13) #[] #[]] 53 (0, 0))) :
    Calls Tryd.prog 27 #[.agg (cells x), .pointer (some ⟨nb, 0, none⟩)] w fun e w' => e = .returned (.string ((⟨#[45, 32]⟩ : ByteArray) ++ nm x)) ∧ Below w.heap.size w w' := by
  have hb0 : Below w.heap.size w (w.alloc (.cells (cells x) 50)) := (Below.refl _ w).alloc (Nat.le_refl _) _
  have htab' := htab.stays hb0
  have hc : (w.alloc (.cells (cells x) 50)).cell? ⟨nb, 0, none⟩ = some (.func (.func 13) #[] #[]) := by have h_ : w.cell? ⟨nb, 0, none⟩ = some (.func (.func 13) #[] #[]) := (by simp [World.cell?, hnb]); rw [World.cell?_alloc_some _ _ _ (by rw [h_]; rfl)]; exact h_
  have hcall := name_call x hx _ htab'
  have hsz := nm_size x hx
  have hcat : (9223372036854775807 < 2 + (nm x).size) = False := eq_false (by omega)
  generalize nm x = t at *
  go_enter Tryd.func27, Tryd.ntmps27
  go_wp2_with fail
  refine hcall.mono ?_
  rintro e w1 ⟨rfl, hb⟩
  go_wp2
  go_ret
  exact ⟨rfl, hb0.trans (hb.mono (by simp))⟩
set_option maxHeartbeats 4000000 in
set_option maxRecDepth 100000 in
theorem d2_call (x : S50) (hx : -9223372036854775808 ≤ x.f0 ∧ x.f0 ≤ 9223372036854775807) (w : World) (htab : Tab w) (nb : Nat) (hnb : w.heap[nb]? = some (.cells #[.func (.func 13) #[] #[]] 53 (0, 0))) :
    Calls Tryd.prog 28 #[.agg (cells x), .pointer (some ⟨nb, 0, none⟩)] w fun e w' => e = .returned (.string ((⟨#[43, 32]⟩ : ByteArray) ++ nm x)) ∧ Below w.heap.size w w' := by
  have hb0 : Below w.heap.size w (w.alloc (.cells (cells x) 50)) := (Below.refl _ w).alloc (Nat.le_refl _) _
  have htab' := htab.stays hb0
  have hc : (w.alloc (.cells (cells x) 50)).cell? ⟨nb, 0, none⟩ = some (.func (.func 13) #[] #[]) := by have h_ : w.cell? ⟨nb, 0, none⟩ = some (.func (.func 13) #[] #[]) := (by simp [World.cell?, hnb]); rw [World.cell?_alloc_some _ _ _ (by rw [h_]; rfl)]; exact h_
  have hcall := name_call x hx _ htab'
  have hsz := nm_size x hx
  have hcat : (9223372036854775807 < 2 + (nm x).size) = False := eq_false (by omega)
  generalize nm x = t at *
  go_enter Tryd.func28, Tryd.ntmps28
  go_wp2_with fail
  refine hcall.mono ?_
  rintro e w1 ⟨rfl, hb⟩
  go_wp2
  go_ret
  exact ⟨rfl, hb0.trans (hb.mono (by simp))⟩
set_option maxHeartbeats 8000000 in
set_option maxRecDepth 100000 in
theorem unlike (a b : List S50) (A B : Option Addr) (ca cb : Nat) (w : World) (htab : Tab w) (hr : Kd.C k50 w A a.length a) (hr2 : Kd.C k50 w B b.length b) (hl : a.length < 1099511627776) (hl2 : b.length < 1099511627776)
    (hxa : ∀ x ∈ a, -9223372036854775808 ≤ x.f0 ∧ x.f0 ≤ 9223372036854775807) (hxb : ∀ x ∈ b, -9223372036854775808 ≤ x.f0 ∧ x.f0 ≤ 9223372036854775807) :
    Calls Tryd.prog 11 #[.slice A a.length ca, .slice B b.length cb, .func (.func 12) #[] #[], .func (.func 13) #[] #[]] w fun e w' =>
      ∃ v, e = .returned v ∧ Kd.R Kd.string 9 w' w.heap.size (fun _ => True) v (lines a b (fun x => (⟨#[45, 32]⟩ : ByteArray) ++ nm x) ++ lines b a (fun x => (⟨#[43, 32]⟩ : ByteArray) ++ nm x)) ∧ Below w.heap.size w w' := by
  have hmf : ∀ (fn : Fn) (first cap : Array Value) (w : World), (Instr.makeFunc fn first cap).run Tryd.prog w = .ok (.func fn first cap) w := fun _ _ _ _ => rfl
  have hb0 : Below w.heap.size w (w.alloc (.cells #[.func (.func 13) #[] #[]] 53)) := (Below.refl _ w).alloc (Nat.le_refl _) _
  have hbk : (w.alloc (.cells #[.func (.func 13) #[] #[]] 53)).heap[w.heap.size]? = some (.cells #[.func (.func 13) #[] #[]] 53 (0, 0)) := heap_alloc_new w _
  have hs0 : (w.alloc (.cells #[.func (.func 13) #[] #[]] 53)).heap.size = w.heap.size + 1 := by simp
  go_enter Tryd.func11, Tryd.ntmps11
  go_wp2_with fail
  generalize hW0 : w.alloc (.cells #[.func (.func 13) #[] #[]] 53) = W0 at *
  refine (miss_d1 a b A B ca cb _ (fun x => (⟨#[45, 32]⟩ : ByteArray) ++ nm x) W0 (Kd.C_below hr hb0) (Kd.C_below hr2 hb0) hl hl2 (fun W y hy hb => d1_call y (hxa y hy) W (htab.stays (hb0.trans (hb.mono (by omega)))) w.heap.size ((hb.block _ (by omega)).trans hbk))).mono ?_
  rintro e W1 ⟨v1, rfl, HO1, hb1⟩
  have hb01 : Below w.heap.size w W1 := hb0.trans (hb1.mono (by omega))
  have hbk1 := (hb1.block _ (by omega)).trans hbk
  have hz1 : w.heap.size < W1.heap.size := by have := hb1.size; omega
  obtain ⟨A1, c1, rfl⟩ := Kd.R_slice HO1
  go_wp2_with fail
  refine (miss_d2 b a B A cb ca _ (fun x => (⟨#[43, 32]⟩ : ByteArray) ++ nm x) W1 (Kd.C_below hr2 hb01) (Kd.C_below hr hb01) hl2 hl (fun W y hy hb => d2_call y (hxb y hy) W (htab.stays (hb01.trans (hb.mono (by omega)))) w.heap.size ((hb.block _ hz1).trans hbk1))).mono ?_
  rintro e W2 ⟨v2, rfl, HO2, hb2⟩
  have hb02 : Below w.heap.size w W2 := hb01.trans (hb2.mono (by omega))
  have HO1' := Kd.R_below HO1 hb2
  obtain ⟨A2, c2, rfl⟩ := Kd.R_slice HO2
  have h1 := lines_le a b (fun x => (⟨#[45, 32]⟩ : ByteArray) ++ nm x)
  have h2 := lines_le b a (fun x => (⟨#[43, 32]⟩ : ByteArray) ++ nm x)
  generalize hla : lines a b (fun x => (⟨#[45, 32]⟩ : ByteArray) ++ nm x) = la at *
  generalize hlb : lines b a (fun x => (⟨#[43, 32]⟩ : ByteArray) ++ nm x) = lb at *
  have hl8 : (la.length + lb.length) * 16 ≤ 140737488355328 := by omega
  have HR2 := (Kd.R_reads' HO2).2.2
  go_wp2_with ((with_reducible refine gate_builtin (b := .append) (xs := #[.tmp 15, .tmp 20]) rfl ?_); at_builtin; refine Kd.R_append_row (w0 := w) Value.string ByteArray.empty w.heap.size rfl (.tmp 15) (.tmp 20) 37 9 (.string ⟨#[]⟩) 16 rfl Tryd.underlying37 info9 rfl (by omega) _ la lb A2 _ c2 (fun _ => True) rfl rfl (fun _ _ => trivial) (Kd.R_lower HO1' (by omega)) HR2 hb02 hb02.size hl8 ?_; intro v3 w3 ho hb hg hat)
  go_ret
  exact ⟨v3, rfl, by rw [hla, hlb]; exact ho, hb⟩
end Go.Proofs.YtkpgklkplmljdaaDoor.cmpSlot
