/- probe.unlike at Slot, Epoch and Token as functions of two lists, with their contracts in the print's form. -/
import Derived.Test.YtkpgklkplmljdaaDoorUnlikeSlot
import Derived.Test.YtkpgklkplmljdaaDoorUnlikeEpoch
import Derived.Test.YtkpgklkplmljdaaDoorUnlikeToken
namespace Go.Proofs.YtkpgklkplmljdaaDoor.PProbeCompares
open Go.RowKit Go.Proofs.YtkpgklkplmljdaaDoorW.PrintWords Go.Proofs.YtkpgklkplmljdaaDoorW.PrintLast Go.Proofs.YtkpgklkplmljdaaDoorW.PrintMore Go.Proofs.YtkpgklkplmljdaaDoor.num
set_option linter.unusedVariables false
def slotsOk (l : List S50) : Prop := l.length < 1099511627776 ∧ ∀ x ∈ l, -9223372036854775808 ≤ x.f0 ∧ x.f0 ≤ 9223372036854775807
def epochsOk (l : List S56) : Prop := l.length < 1099511627776 ∧ ∀ x ∈ l, 0 ≤ x.f0 ∧ x.f0 < 18446744073709551616
def tokensOk (l : List S63) : Prop := l.length < 1099511627776 ∧ (∀ x ∈ l, x.f2.length < 1099511627776) ∧ ∀ x ∈ l, -9223372036854775808 ≤ x.f0 ∧ x.f0 ≤ 9223372036854775807
def slotLines (l0 l1 : List S50) : List ByteArray := cmpSlot.lines l0 l1 (fun x => (⟨#[45, 32]⟩ : ByteArray) ++ cmpSlot.nm x) ++ cmpSlot.lines l1 l0 (fun x => (⟨#[43, 32]⟩ : ByteArray) ++ cmpSlot.nm x)
def epochLines (l0 l1 : List S56) : List ByteArray := cmpEpoch.lines l0 l1 (fun x => (⟨#[45, 32]⟩ : ByteArray) ++ cmpEpoch.nm x) ++ cmpEpoch.lines l1 l0 (fun x => (⟨#[43, 32]⟩ : ByteArray) ++ cmpEpoch.nm x)
def tokenLines (l0 l1 : List S63) : List ByteArray := cmpToken.lines l0 l1 (fun x => (⟨#[45, 32]⟩ : ByteArray) ++ cmpToken.nm x) ++ cmpToken.lines l1 l0 (fun x => (⟨#[43, 32]⟩ : ByteArray) ++ cmpToken.nm x)
open Classical in
noncomputable def api_Slot_11.f (l0 l1 : List S50) : Option (List ByteArray) := if slotsOk l0 ∧ slotsOk l1 then some (slotLines l0 l1) else none
open Classical in
noncomputable def api_Epoch_15.f (l0 l1 : List S56) : Option (List ByteArray) := if epochsOk l0 ∧ epochsOk l1 then some (epochLines l0 l1) else none
open Classical in
noncomputable def api_Token_19.f (l0 l1 : List S63) : Option (List ByteArray) := if tokensOk l0 ∧ tokensOk l1 then some (tokenLines l0 l1) else none
theorem api_Slot_11.calls (A0 : Option Addr) (c0 : Nat) (l0 : List (S50)) (A1 : Option Addr) (c1 : Nat) (l1 : List (S50)) (r : List ByteArray) (w : World) (hr0 : Kd.C k50 w A0 l0.length l0) (hc0 : l0.length ≤ c0) (hr1 : Kd.C k50 w A1 l1.length l1) (hc1 : l1.length ≤ c1) (htab : Tab w) (h : api_Slot_11.f l0 l1 = some r) :
    Calls Tryd.prog 11 #[.slice A0 l0.length c0, .slice A1 l1.length c1, .func (.func 12) #[] #[], .func (.func 13) #[] #[]] w fun e w' => ∃ v0_ : Value, e = .returned (v0_) ∧ Kd.R Kd.string 9 w' w.heap.size (fun _ => True) v0_ r ∧ Below w.heap.size w w' := by
  unfold api_Slot_11.f at h
  split at h
  · rename_i hk
    obtain rfl := Option.some.inj h
    exact cmpSlot.unlike l0 l1 A0 A1 c0 c1 w htab hr0 hr1 hk.1.1 hk.2.1 hk.1.2 hk.2.2
  · exact absurd h (by simp)
theorem api_Epoch_15.calls (A0 : Option Addr) (c0 : Nat) (l0 : List (S56)) (A1 : Option Addr) (c1 : Nat) (l1 : List (S56)) (r : List ByteArray) (w : World) (hr0 : Kd.C k56 w A0 l0.length l0) (hc0 : l0.length ≤ c0) (hr1 : Kd.C k56 w A1 l1.length l1) (hc1 : l1.length ≤ c1) (htab : Tab w) (h : api_Epoch_15.f l0 l1 = some r) :
    Calls Tryd.prog 15 #[.slice A0 l0.length c0, .slice A1 l1.length c1, .func (.func 16) #[] #[], .func (.func 17) #[] #[]] w fun e w' => ∃ v0_ : Value, e = .returned (v0_) ∧ Kd.R Kd.string 9 w' w.heap.size (fun _ => True) v0_ r ∧ Below w.heap.size w w' := by
  unfold api_Epoch_15.f at h
  split at h
  · rename_i hk
    obtain rfl := Option.some.inj h
    exact cmpEpoch.unlike l0 l1 A0 A1 c0 c1 w htab hr0 hr1 hk.1.1 hk.2.1 hk.1.2 hk.2.2
  · exact absurd h (by simp)
theorem api_Token_19.calls (A0 : Option Addr) (c0 : Nat) (l0 : List (S63)) (A1 : Option Addr) (c1 : Nat) (l1 : List (S63)) (r : List ByteArray) (w : World) (hr0 : Kd.C k63 w A0 l0.length l0) (hc0 : l0.length ≤ c0) (hr1 : Kd.C k63 w A1 l1.length l1) (hc1 : l1.length ≤ c1) (htab : Tab w) (h : api_Token_19.f l0 l1 = some r) :
    Calls Tryd.prog 19 #[.slice A0 l0.length c0, .slice A1 l1.length c1, .func (.func 20) #[] #[], .func (.func 21) #[] #[]] w fun e w' => ∃ v0_ : Value, e = .returned (v0_) ∧ Kd.R Kd.string 9 w' w.heap.size (fun _ => True) v0_ r ∧ Below w.heap.size w w' := by
  unfold api_Token_19.f at h
  split at h
  · rename_i hk
    obtain rfl := Option.some.inj h
    exact cmpToken.unlike l0 l1 A0 A1 c0 c1 w htab hr0 hr1 hk.1.1 hk.2.1 hk.1.2.1 hk.2.2.1 hk.1.2.2 hk.2.2.2
  · exact absurd h (by simp)
end Go.Proofs.YtkpgklkplmljdaaDoor.PProbeCompares
