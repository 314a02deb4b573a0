/- probe.Compare in plain words. (Written by gen5.py P.) -/
import Derived.Test.YtkpgklkplmljdaaDoorProbeCompare
namespace Go.Proofs.YtkpgklkplmljdaaDoor.comparePlain
open Go Go.RowKit Go.Proofs.YtkpgklkplmljdaaDoor.PProbeCompares Go.Proofs.YtkpgklkplmljdaaDoorW.PrintWords Go.Proofs.YtkpgklkplmljdaaDoor.refPlain
set_option linter.unusedVariables false
def segKey (x : S46) : Int × Int × Int := (x.f0, x.f1, x.f2)
def segSame (a b : List S46) : Bool := a.map segKey == b.map segKey
theorem segKey_ne (x y : S46) : (!(x.f0 == y.f0) || (!(x.f1 == y.f1) || (!(x.f2 == y.f2)))) = !(segKey x == segKey y) := by
  have h : (segKey x == segKey y) = (x.f0 == y.f0 && (x.f1 == y.f1 && x.f2 == y.f2)) := rfl
  rw [h]
  cases (x.f0 == y.f0) <;> cases (x.f1 == y.f1) <;> cases (x.f2 == y.f2) <;> rfl
theorem rd_seg (l : List S46) (i : Nat) (h : i < l.length) : rd_T46 l (i : Int) = l[i] := by simp [rd_T46, h]
theorem seg_loop (a b : List S46) (hab : a.length = b.length) (h : a.length < 1099511627776) : ∀ (n i : Nat), a.length - i = n → api_Segment.l0 (n + 1) a b (a.length : Int) (i : Int) = some (segSame (a.drop i) (b.drop i))
  | 0, i, hi => by
    rw [api_Segment.l0, if_neg (by omega), List.drop_of_length_le (by omega), List.drop_of_length_le (by omega)]
    rfl
  | n + 1, i, hi => by
    have h1 : i < a.length := by omega
    have h2 : i < b.length := by omega
    rw [api_Segment.l0, if_pos (by omega), if_pos (by omega), if_pos (by omega), if_pos (by omega), rd_seg a i h1, rd_seg b i h2, w64 _ (by omega), List.drop_eq_getElem_cons h1, List.drop_eq_getElem_cons h2, segKey_ne]
    have e2 : segSame (a[i] :: a.drop (i + 1)) (b[i] :: b.drop (i + 1)) = ((segKey a[i] == segKey b[i]) && segSame (a.drop (i + 1)) (b.drop (i + 1))) := rfl
    rw [e2]
    have ih := seg_loop a b hab h n (i + 1) (by omega)
    rw [show ((i : Int) + 1) = ((i + 1 : Nat) : Int) by omega, ih]
    cases (segKey a[i] == segKey b[i]) <;> rfl
theorem seg_ne {a b : List S46} (h : a.length ≠ b.length) : segSame a b = false := by
  unfold segSame
  have : a.map segKey ≠ b.map segKey := fun e => h (by simpa using congrArg List.length e)
  simpa using this
theorem seg_ok (a b : List S46) (h : a.length < 1099511627776) : api_Segment.f (a.length + 1) a b = some (segSame a b) := by
  unfold api_Segment.f
  by_cases hab : a.length = b.length
  · rw [if_pos (by omega)]
    exact seg_loop a b hab h a.length 0 (by omega)
  · rw [if_neg (by omega), seg_ne hab]
theorem seg_add (a b : List S46) (h : a.length < 1099511627776) : ∀ m, api_Segment.f (a.length + 1 + m) a b = some (segSame a b)
  | 0 => seg_ok a b h
  | m + 1 => api_Segment.mono _ _ _ _ (seg_add a b h m)
theorem seg_more (a b : List S46) {K : Nat} (hK : a.length + 1 ≤ K) (h : a.length < 1099511627776) : api_Segment.f K a b = some (segSame a b) := by
  obtain ⟨m, rfl⟩ : ∃ m, K = a.length + 1 + m := ⟨K - (a.length + 1), by omega⟩
  exact seg_add a b h m
def unlikes (l : List S43) : List ByteArray := (l.filter fun x => !x.f1).map (·.f0)
theorem unlikes_le (l : List S43) : (unlikes l).length ≤ l.length := by
  unfold unlikes; rw [List.length_map]; exact List.length_filter_le _ _
theorem unlikes_cons (x : S43) (l : List S43) : unlikes (x :: l) = (if x.f1 = true then [] else [x.f0]) ++ unlikes l := by
  unfold unlikes
  cases h : x.f1 <;> simp [h]
theorem rd_43 (l : List S43) (i : Nat) (h : i < l.length) : rd_T43 l (i : Int) = l[i] := by simp [rd_T43, h]
theorem getb (l : List S43) (i : Nat) (h : i < l.length) : rdOf false (l.map (·.f1)) (i : Int) = l[i].f1 := by simp [rdOf, h]
theorem getn (l : List S43) (i : Nat) (h : i < l.length) : rdOf ByteArray.empty (l.map (·.f0)) (i : Int) = l[i].f0 := by simp [rdOf, h]
theorem slotLines_le {a b : List S50} (ha : slotsOk a) (hb : slotsOk b) : (slotLines a b).length < 2199023255552 := by
  unfold slotLines
  rw [List.length_append]
  have h1 := cmpSlot.lines_le a b (fun x => (⟨#[45, 32]⟩ : ByteArray) ++ cmpSlot.nm x)
  have h2 := cmpSlot.lines_le b a (fun x => (⟨#[43, 32]⟩ : ByteArray) ++ cmpSlot.nm x)
  have := ha.1; have := hb.1; omega
theorem epochLines_le {a b : List S56} (ha : epochsOk a) (hb : epochsOk b) : (epochLines a b).length < 2199023255552 := by
  unfold epochLines
  rw [List.length_append]
  have h1 := cmpEpoch.lines_le a b (fun x => (⟨#[45, 32]⟩ : ByteArray) ++ cmpEpoch.nm x)
  have h2 := cmpEpoch.lines_le b a (fun x => (⟨#[43, 32]⟩ : ByteArray) ++ cmpEpoch.nm x)
  have := ha.1; have := hb.1; omega
theorem tokenLines_le {a b : List S63} (ha : tokensOk a) (hb : tokensOk b) : (tokenLines a b).length < 2199023255552 := by
  unfold tokenLines
  rw [List.length_append]
  have h1 := cmpToken.lines_le a b (fun x => (⟨#[45, 32]⟩ : ByteArray) ++ cmpToken.nm x)
  have h2 := cmpToken.lines_le b a (fun x => (⟨#[43, 32]⟩ : ByteArray) ++ cmpToken.nm x)
  have := ha.1; have := hb.1; omega

section
variable (a0_0 : ByteArray) (a0_1 : ByteArray) (a0_2 : ByteArray) (a0_3 : ByteArray) (a0_4 : Int) (a0_5 : Int) (a0_6 : Int) (a0_7 : Int) (a0_8 : Int) (a0_9 : ByteArray) (a0_10 : ByteArray) (l0_11 : List S50) (l0_12 : List S56) (l0_13 : List S46) (a0_14 : Bool) (a0_15 : Int) (a0_16 : Int) (a0_17 : Bool) (a0_18 : Int) (a0_19 : Int) (a0_20 : Int) (a0_21 : Int) (a0_22 : Int) (a0_23 : Bool) (a0_24 : Int) (a0_25 : ByteArray) (l0_26 : List S63) (a1_0 : ByteArray) (a1_1 : ByteArray) (a1_2 : ByteArray) (a1_3 : ByteArray) (a1_4 : Int) (a1_5 : Int) (a1_6 : Int) (a1_7 : Int) (a1_8 : Int) (a1_9 : ByteArray) (a1_10 : ByteArray) (l1_11 : List S50) (l1_12 : List S56) (l1_13 : List S46) (a1_14 : Bool) (a1_15 : Int) (a1_16 : Int) (a1_17 : Bool) (a1_18 : Int) (a1_19 : Int) (a1_20 : Int) (a1_21 : Int) (a1_22 : Int) (a1_23 : Bool) (a1_24 : Int) (a1_25 : ByteArray) (l1_26 : List S63) (hs0 : slotsOk l0_11) (hs1 : slotsOk l1_11) (he0 : epochsOk l0_12) (he1 : epochsOk l1_12) (ht0 : tokensOk l0_26) (ht1 : tokensOk l1_26)
include hs0 hs1 he0 he1 ht0 ht1
theorem names_loop (prs : List S43) (hp : prs.length ≤ 8) : ∀ (n i : Nat) (acc : List ByteArray), prs.length - i = n → acc.length ≤ i → i ≤ prs.length →
    probe_Compare.l0 (n + 1) acc prs (prs.length : Int) (i : Int) a0_0 a0_1 a0_2 a0_3 a0_4 a0_5 a0_6 a0_7 a0_8 a0_9 a0_10 l0_11 l0_12 l0_13 a0_14 a0_15 a0_16 a0_17 a0_18 a0_19 a0_20 a0_21 a0_22 a0_23 a0_24 a0_25 l0_26 a1_0 a1_1 a1_2 a1_3 a1_4 a1_5 a1_6 a1_7 a1_8 a1_9 a1_10 l1_11 l1_12 l1_13 a1_14 a1_15 a1_16 a1_17 a1_18 a1_19 a1_20 a1_21 a1_22 a1_23 a1_24 a1_25 l1_26 = some (acc ++ unlikes (prs.drop i) ++ slotLines l0_11 l1_11 ++ epochLines l0_12 l1_12 ++ tokenLines l0_26 l1_26)
  | 0, i, acc, hi, ha, hi2 => by
    have g1 := slotLines_le hs0 hs1
    have g2 := epochLines_le he0 he1
    have g3 := tokenLines_le ht0 ht1
    have q1 : api_Slot_11.f l0_11 l1_11 = some (slotLines l0_11 l1_11) := if_pos ⟨hs0, hs1⟩
    have q2 : api_Epoch_15.f l0_12 l1_12 = some (epochLines l0_12 l1_12) := if_pos ⟨he0, he1⟩
    have q3 : api_Token_19.f l0_26 l1_26 = some (tokenLines l0_26 l1_26) := if_pos ⟨ht0, ht1⟩
    rw [probe_Compare.l0, if_neg (by omega), List.drop_of_length_le (by omega), q1, Option.bind_some, if_pos (by omega), Option.bind_some, q2, Option.bind_some, if_pos (by rw [List.length_append]; omega), Option.bind_some, q3, Option.bind_some, if_pos (by rw [List.length_append, List.length_append]; omega)]
    simp [unlikes]
  | n + 1, i, acc, hi, ha, hi2 => by
    have h1 : i < prs.length := by omega
    rw [probe_Compare.l0, if_pos (by omega), if_pos (by omega), if_pos (by omega), rd_43 prs i h1, w64 _ (by omega), List.drop_eq_getElem_cons h1, unlikes_cons, show ((i : Int) + 1) = ((i + 1 : Nat) : Int) by omega]
    by_cases e : prs[i].f1 = true
    · rw [if_pos e, if_pos e, names_loop prs hp n (i + 1) acc (by omega) (by omega) (by omega)]
      simp
    · rw [if_neg e, if_neg e, if_pos (by omega), names_loop prs hp n (i + 1) _ (by omega) (by simp; omega) (by omega)]
      simp
theorem names_ok (m : Nat) : ∀ prs : List S43, prs.length = 8 → probe_Compare.l0 (9 + m) ([] : List ByteArray) prs (prs.length : Int) 0 a0_0 a0_1 a0_2 a0_3 a0_4 a0_5 a0_6 a0_7 a0_8 a0_9 a0_10 l0_11 l0_12 l0_13 a0_14 a0_15 a0_16 a0_17 a0_18 a0_19 a0_20 a0_21 a0_22 a0_23 a0_24 a0_25 l0_26 a1_0 a1_1 a1_2 a1_3 a1_4 a1_5 a1_6 a1_7 a1_8 a1_9 a1_10 l1_11 l1_12 l1_13 a1_14 a1_15 a1_16 a1_17 a1_18 a1_19 a1_20 a1_21 a1_22 a1_23 a1_24 a1_25 l1_26 = some (unlikes prs ++ slotLines l0_11 l1_11 ++ epochLines l0_12 l1_12 ++ tokenLines l0_26 l1_26) := by
  intro prs hp
  induction m with
  | zero => exact names_loop a0_0 a0_1 a0_2 a0_3 a0_4 a0_5 a0_6 a0_7 a0_8 a0_9 a0_10 l0_11 l0_12 l0_13 a0_14 a0_15 a0_16 a0_17 a0_18 a0_19 a0_20 a0_21 a0_22 a0_23 a0_24 a0_25 l0_26 a1_0 a1_1 a1_2 a1_3 a1_4 a1_5 a1_6 a1_7 a1_8 a1_9 a1_10 l1_11 l1_12 l1_13 a1_14 a1_15 a1_16 a1_17 a1_18 a1_19 a1_20 a1_21 a1_22 a1_23 a1_24 a1_25 l1_26 hs0 hs1 he0 he1 ht0 ht1 prs (by omega) 8 0 [] (by omega) (by simp) (by omega)
  | succ m ih => exact (probe_Compare.mono_l (9 + m)) _ _ _ _ _ _ _ _ _ _ _ _ _ _ _ _ _ _ _ _ _ _ _ _ _ _ _ _ _ _ _ _ _ _ _ _ _ _ _ _ _ _ _ _ _ _ _ _ _ _ _ _ _ _ _ _ _ _ _ ih
def told : List ByteArray := unlikes [(⟨(⟨#[108, 97, 98, 101, 108]⟩ : ByteArray), (a0_0.toList == a1_0.toList)⟩ : S43), (⟨(⟨#[115, 117, 98, 115, 121, 115, 116, 101, 109]⟩ : ByteArray), (a0_1.toList == a1_1.toList)⟩ : S43), (⟨(⟨#[117, 117, 105, 100]⟩ : ByteArray), (a0_2.toList == a1_2.toList)⟩ : S43), (⟨(⟨#[115, 97, 108, 116]⟩ : ByteArray), (a0_3.toList == a1_3.toList)⟩ : S43), (⟨(⟨#[115, 104, 97, 112, 101]⟩ : ByteArray), (a0_4 == a1_4 && (a0_5 == a1_5 && (a0_6 == a1_6 && (a0_7 == a1_7))))⟩ : S43), (⟨(⟨#[100, 105, 103, 101, 115, 116]⟩ : ByteArray), (a0_8 == a1_8 && (a0_9.toList == a1_9.toList && (a0_10.toList == a1_10.toList)))⟩ : S43), (⟨(⟨#[115, 101, 103, 109, 101, 110, 116, 115]⟩ : ByteArray), segSame l0_13 l1_13⟩ : S43), (⟨(⟨#[114, 111, 116, 97, 116, 105, 111, 110]⟩ : ByteArray), (a0_14 == a1_14 && (a0_15 == a1_15 && (a0_16 == a1_16 && (a0_17 == a1_17 && (a0_18 == a1_18 && (a0_19 == a1_19 && (a0_20 == a1_20 && ((a0_21 == a1_21 && (a0_22 == a1_22)) && (a0_23 == a1_23 && (a0_24 == a1_24 && (a0_25.toList == a1_25.toList)))))))))))⟩ : S43)] ++ slotLines l0_11 l1_11 ++ epochLines l0_12 l1_12 ++ tokenLines l0_26 l1_26
end
section
variable (a0_0 : ByteArray) (a0_1 : ByteArray) (a0_2 : ByteArray) (a0_3 : ByteArray) (a0_4 : Int) (a0_5 : Int) (a0_6 : Int) (a0_7 : Int) (a0_8 : Int) (a0_9 : ByteArray) (a0_10 : ByteArray) (l0_11 : List S50) (l0_12 : List S56) (l0_13 : List S46) (a0_14 : Bool) (a0_15 : Int) (a0_16 : Int) (a0_17 : Bool) (a0_18 : Int) (a0_19 : Int) (a0_20 : Int) (a0_21 : Int) (a0_22 : Int) (a0_23 : Bool) (a0_24 : Int) (a0_25 : ByteArray) (l0_26 : List S63) (a1_0 : ByteArray) (a1_1 : ByteArray) (a1_2 : ByteArray) (a1_3 : ByteArray) (a1_4 : Int) (a1_5 : Int) (a1_6 : Int) (a1_7 : Int) (a1_8 : Int) (a1_9 : ByteArray) (a1_10 : ByteArray) (l1_11 : List S50) (l1_12 : List S56) (l1_13 : List S46) (a1_14 : Bool) (a1_15 : Int) (a1_16 : Int) (a1_17 : Bool) (a1_18 : Int) (a1_19 : Int) (a1_20 : Int) (a1_21 : Int) (a1_22 : Int) (a1_23 : Bool) (a1_24 : Int) (a1_25 : ByteArray) (l1_26 : List S63) (hs0 : slotsOk l0_11) (hs1 : slotsOk l1_11) (he0 : epochsOk l0_12) (he1 : epochsOk l1_12) (ht0 : tokensOk l0_26) (ht1 : tokensOk l1_26)
include hs0 hs1 he0 he1 ht0 ht1
theorem own_ok (hg : l0_13.length < 1099511627776) : ∃ K, probe_Compare.f K a0_0 a0_1 a0_2 a0_3 a0_4 a0_5 a0_6 a0_7 a0_8 a0_9 a0_10 l0_11 l0_12 l0_13 a0_14 a0_15 a0_16 a0_17 a0_18 a0_19 a0_20 a0_21 a0_22 a0_23 a0_24 a0_25 l0_26 a1_0 a1_1 a1_2 a1_3 a1_4 a1_5 a1_6 a1_7 a1_8 a1_9 a1_10 l1_11 l1_12 l1_13 a1_14 a1_15 a1_16 a1_17 a1_18 a1_19 a1_20 a1_21 a1_22 a1_23 a1_24 a1_25 l1_26 = some (told a0_0 a0_1 a0_2 a0_3 a0_4 a0_5 a0_6 a0_7 a0_8 a0_9 a0_10 l0_11 l0_12 l0_13 a0_14 a0_15 a0_16 a0_17 a0_18 a0_19 a0_20 a0_21 a0_22 a0_23 a0_24 a0_25 l0_26 a1_0 a1_1 a1_2 a1_3 a1_4 a1_5 a1_6 a1_7 a1_8 a1_9 a1_10 l1_11 l1_12 l1_13 a1_14 a1_15 a1_16 a1_17 a1_18 a1_19 a1_20 a1_21 a1_22 a1_23 a1_24 a1_25 l1_26) := by
  refine ⟨9 + l0_13.length, ?_⟩
  unfold probe_Compare.f
  rw [seg_more l0_13 l1_13 (by omega) hg, Option.bind_some, Option.bind_some]
  exact names_ok a0_0 a0_1 a0_2 a0_3 a0_4 a0_5 a0_6 a0_7 a0_8 a0_9 a0_10 l0_11 l0_12 l0_13 a0_14 a0_15 a0_16 a0_17 a0_18 a0_19 a0_20 a0_21 a0_22 a0_23 a0_24 a0_25 l0_26 a1_0 a1_1 a1_2 a1_3 a1_4 a1_5 a1_6 a1_7 a1_8 a1_9 a1_10 l1_11 l1_12 l1_13 a1_14 a1_15 a1_16 a1_17 a1_18 a1_19 a1_20 a1_21 a1_22 a1_23 a1_24 a1_25 l1_26 hs0 hs1 he0 he1 ht0 ht1 l0_13.length [(⟨(⟨#[108, 97, 98, 101, 108]⟩ : ByteArray), (a0_0.toList == a1_0.toList)⟩ : S43), (⟨(⟨#[115, 117, 98, 115, 121, 115, 116, 101, 109]⟩ : ByteArray), (a0_1.toList == a1_1.toList)⟩ : S43), (⟨(⟨#[117, 117, 105, 100]⟩ : ByteArray), (a0_2.toList == a1_2.toList)⟩ : S43), (⟨(⟨#[115, 97, 108, 116]⟩ : ByteArray), (a0_3.toList == a1_3.toList)⟩ : S43), (⟨(⟨#[115, 104, 97, 112, 101]⟩ : ByteArray), (a0_4 == a1_4 && (a0_5 == a1_5 && (a0_6 == a1_6 && (a0_7 == a1_7))))⟩ : S43), (⟨(⟨#[100, 105, 103, 101, 115, 116]⟩ : ByteArray), (a0_8 == a1_8 && (a0_9.toList == a1_9.toList && (a0_10.toList == a1_10.toList)))⟩ : S43), (⟨(⟨#[115, 101, 103, 109, 101, 110, 116, 115]⟩ : ByteArray), segSame l0_13 l1_13⟩ : S43), (⟨(⟨#[114, 111, 116, 97, 116, 105, 111, 110]⟩ : ByteArray), (a0_14 == a1_14 && (a0_15 == a1_15 && (a0_16 == a1_16 && (a0_17 == a1_17 && (a0_18 == a1_18 && (a0_19 == a1_19 && (a0_20 == a1_20 && ((a0_21 == a1_21 && (a0_22 == a1_22)) && (a0_23 == a1_23 && (a0_24 == a1_24 && (a0_25.toList == a1_25.toList)))))))))))⟩ : S43)] rfl
end
theorem told_le (a0_0 : ByteArray) (a0_1 : ByteArray) (a0_2 : ByteArray) (a0_3 : ByteArray) (a0_4 : Int) (a0_5 : Int) (a0_6 : Int) (a0_7 : Int) (a0_8 : Int) (a0_9 : ByteArray) (a0_10 : ByteArray) (l0_11 : List S50) (l0_12 : List S56) (l0_13 : List S46) (a0_14 : Bool) (a0_15 : Int) (a0_16 : Int) (a0_17 : Bool) (a0_18 : Int) (a0_19 : Int) (a0_20 : Int) (a0_21 : Int) (a0_22 : Int) (a0_23 : Bool) (a0_24 : Int) (a0_25 : ByteArray) (l0_26 : List S63) (a1_0 : ByteArray) (a1_1 : ByteArray) (a1_2 : ByteArray) (a1_3 : ByteArray) (a1_4 : Int) (a1_5 : Int) (a1_6 : Int) (a1_7 : Int) (a1_8 : Int) (a1_9 : ByteArray) (a1_10 : ByteArray) (l1_11 : List S50) (l1_12 : List S56) (l1_13 : List S46) (a1_14 : Bool) (a1_15 : Int) (a1_16 : Int) (a1_17 : Bool) (a1_18 : Int) (a1_19 : Int) (a1_20 : Int) (a1_21 : Int) (a1_22 : Int) (a1_23 : Bool) (a1_24 : Int) (a1_25 : ByteArray) (l1_26 : List S63) (hs0 : slotsOk l0_11) (hs1 : slotsOk l1_11) (he0 : epochsOk l0_12) (he1 : epochsOk l1_12) (ht0 : tokensOk l0_26) (ht1 : tokensOk l1_26) : (told a0_0 a0_1 a0_2 a0_3 a0_4 a0_5 a0_6 a0_7 a0_8 a0_9 a0_10 l0_11 l0_12 l0_13 a0_14 a0_15 a0_16 a0_17 a0_18 a0_19 a0_20 a0_21 a0_22 a0_23 a0_24 a0_25 l0_26 a1_0 a1_1 a1_2 a1_3 a1_4 a1_5 a1_6 a1_7 a1_8 a1_9 a1_10 l1_11 l1_12 l1_13 a1_14 a1_15 a1_16 a1_17 a1_18 a1_19 a1_20 a1_21 a1_22 a1_23 a1_24 a1_25 l1_26).length < 8796093022000 := by
  unfold told
  have g1 := slotLines_le hs0 hs1
  have g2 := epochLines_le he0 he1
  have g3 := tokenLines_le ht0 ht1
  have g0 := unlikes_le [(⟨(⟨#[108, 97, 98, 101, 108]⟩ : ByteArray), (a0_0.toList == a1_0.toList)⟩ : S43), (⟨(⟨#[115, 117, 98, 115, 121, 115, 116, 101, 109]⟩ : ByteArray), (a0_1.toList == a1_1.toList)⟩ : S43), (⟨(⟨#[117, 117, 105, 100]⟩ : ByteArray), (a0_2.toList == a1_2.toList)⟩ : S43), (⟨(⟨#[115, 97, 108, 116]⟩ : ByteArray), (a0_3.toList == a1_3.toList)⟩ : S43), (⟨(⟨#[115, 104, 97, 112, 101]⟩ : ByteArray), (a0_4 == a1_4 && (a0_5 == a1_5 && (a0_6 == a1_6 && (a0_7 == a1_7))))⟩ : S43), (⟨(⟨#[100, 105, 103, 101, 115, 116]⟩ : ByteArray), (a0_8 == a1_8 && (a0_9.toList == a1_9.toList && (a0_10.toList == a1_10.toList)))⟩ : S43), (⟨(⟨#[115, 101, 103, 109, 101, 110, 116, 115]⟩ : ByteArray), segSame l0_13 l1_13⟩ : S43), (⟨(⟨#[114, 111, 116, 97, 116, 105, 111, 110]⟩ : ByteArray), (a0_14 == a1_14 && (a0_15 == a1_15 && (a0_16 == a1_16 && (a0_17 == a1_17 && (a0_18 == a1_18 && (a0_19 == a1_19 && (a0_20 == a1_20 && ((a0_21 == a1_21 && (a0_22 == a1_22)) && (a0_23 == a1_23 && (a0_24 == a1_24 && (a0_25.toList == a1_25.toList)))))))))))⟩ : S43)]
  simp only [List.length_append]
  have e : ([(⟨(⟨#[108, 97, 98, 101, 108]⟩ : ByteArray), (a0_0.toList == a1_0.toList)⟩ : S43), (⟨(⟨#[115, 117, 98, 115, 121, 115, 116, 101, 109]⟩ : ByteArray), (a0_1.toList == a1_1.toList)⟩ : S43), (⟨(⟨#[117, 117, 105, 100]⟩ : ByteArray), (a0_2.toList == a1_2.toList)⟩ : S43), (⟨(⟨#[115, 97, 108, 116]⟩ : ByteArray), (a0_3.toList == a1_3.toList)⟩ : S43), (⟨(⟨#[115, 104, 97, 112, 101]⟩ : ByteArray), (a0_4 == a1_4 && (a0_5 == a1_5 && (a0_6 == a1_6 && (a0_7 == a1_7))))⟩ : S43), (⟨(⟨#[100, 105, 103, 101, 115, 116]⟩ : ByteArray), (a0_8 == a1_8 && (a0_9.toList == a1_9.toList && (a0_10.toList == a1_10.toList)))⟩ : S43), (⟨(⟨#[115, 101, 103, 109, 101, 110, 116, 115]⟩ : ByteArray), segSame l0_13 l1_13⟩ : S43), (⟨(⟨#[114, 111, 116, 97, 116, 105, 111, 110]⟩ : ByteArray), (a0_14 == a1_14 && (a0_15 == a1_15 && (a0_16 == a1_16 && (a0_17 == a1_17 && (a0_18 == a1_18 && (a0_19 == a1_19 && (a0_20 == a1_20 && ((a0_21 == a1_21 && (a0_22 == a1_22)) && (a0_23 == a1_23 && (a0_24 == a1_24 && (a0_25.toList == a1_25.toList)))))))))))⟩ : S43)] : List S43).length = 8 := rfl
  omega
end Go.Proofs.YtkpgklkplmljdaaDoor.comparePlain
