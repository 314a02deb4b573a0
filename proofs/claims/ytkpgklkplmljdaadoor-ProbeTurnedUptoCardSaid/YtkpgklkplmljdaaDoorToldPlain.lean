/- What turned makes of the list that Compare tells. (Written by gen8.py.) -/
import Derived.Test.YtkpgklkplmljdaaDoorComparePlainP
import Derived.Test.YtkpgklkplmljdaaDoorTurnedPlain
namespace Go.Proofs.YtkpgklkplmljdaaDoor.toldPlain
open Go Go.RowKit Go.Proofs.YtkpgklkplmljdaaDoor.PProbeCompares Go.Proofs.YtkpgklkplmljdaaDoorW.PrintWords Go.Proofs.YtkpgklkplmljdaaDoor.refPlain Go.Proofs.YtkpgklkplmljdaaDoor.comparePlain Go.Proofs.YtkpgklkplmljdaaDoor.turnedPlain
set_option linter.unusedVariables false
def kd (j : Nat) : ByteArray := rdOf ByteArray.empty kinds (j : Int)
def mk (sg : UInt8) (j : Nat) (t : ByteArray) : ByteArray := (⟨#[sg]⟩ : ByteArray) ++ (kd j ++ t)
theorem three {j : Nat} (h : j < 3) : j = 0 ∨ j = 1 ∨ j = 2 := by omega
theorem kd_size {j : Nat} (h : j < 3) : 6 ≤ (kd j).size ∧ (kd j).size ≤ 7 := by
  obtain rfl | rfl | rfl := three h
  all_goals decide
theorem one_size (sg : UInt8) : (⟨#[sg]⟩ : ByteArray).size = 1 := rfl
theorem mk_size (sg : UInt8) (j : Nat) (t : ByteArray) : (mk sg j t).size = 1 + ((kd j).size + t.size) := by
  unfold mk
  rw [ByteArray.size_append, ByteArray.size_append, one_size]
theorem mk_bt (sg : UInt8) (j : Nat) (t : ByteArray) : bt (mk sg j t) 0 = (sg.toNat : Int) := by
  unfold bt
  have h : (0 : Int).toNat < (mk sg j t).size := by rw [mk_size]; show 0 < _; omega
  rw [dif_pos h]
  congr 2
theorem mk_rest (sg : UInt8) (j : Nat) (t : ByteArray) : (mk sg j t).extract 1 (mk sg j t).size = kd j ++ t := by
  rw [mk_size]
  unfold mk
  exact ByteArray.extract_append_eq_right rfl (by rw [ByteArray.size_append]; rfl)
theorem ext_nil (t : ByteArray) (i : Nat) : t.extract i i = ByteArray.empty := by
  apply ByteArray.ext
  simp
theorem mk_kind (sg : UInt8) {j : Nat} (hj : j < 3) (t : ByteArray) : (mk sg j t).extract 1 6 = (kd j).extract 0 5 := by
  unfold mk
  have hk := kd_size hj
  rw [ByteArray.extract_append, ByteArray.extract_append, one_size]
  rw [show (6 - 1 - (kd j).size) = 0 by omega, show (1 - 1 - (kd j).size) = 0 by omega, ext_nil]
  have e : (⟨#[sg]⟩ : ByteArray).extract 1 6 = ByteArray.empty := by
    apply ByteArray.ext
    simp
  rw [e]
  simp
theorem kinds_apart {i j : Nat} (hi : i < 3) (hj : j < 3) (h : ((kd i).extract 0 5).toList = ((kd j).extract 0 5).toList) : i = j := by
  obtain rfl | rfl | rfl := three hi <;> obtain rfl | rfl | rfl := three hj <;> first | rfl | exact absurd h (by decide +kernel)
/-- The sign that a pass looks for, and the one that it writes. -/
def sgz : Nat → UInt8 | 0 => 43 | _ => 45
def osg : UInt8 → UInt8 | 45 => 43 | _ => 45
theorem sel_mk {sg : UInt8} (hsg : sg = 43 ∨ sg = 45) {i j : Nat} (hi : i < 3) (hj : j < 3) {z : Nat} (hz : z < 2) (t : ByteArray) : sel i z (mk sg j t) = decide (i = j ∧ sg = sgz z) := by
  unfold sel
  have hk := kd_size hj
  rw [mk_bt, mk_kind sg hj, mk_size]
  have d : decide (7 ≤ 1 + ((kd j).size + t.size)) = true := decide_eq_true (by omega)
  rw [d, Bool.true_and]
  have e1 : (((kd j).extract 0 5).toList = ((rdOf ByteArray.empty kinds (i : Int)).extract 0 5).toList) = (i = j) := propext ⟨fun h => (kinds_apart hj hi h).symm, fun h => by subst h; rfl⟩
  have e2 : ((sg.toNat : Int) = bt (⟨#[43, 45]⟩ : ByteArray) (z : Int)) = (sg = sgz z) := by
    obtain rfl | rfl : z = 0 ∨ z = 1 := by omega
    all_goals (rcases hsg with rfl | rfl <;> (apply propext; decide))
  simp only [e1, e2, Bool.decide_and]
theorem new_mk {sg : UInt8} {j z : Nat} (hz : z < 2) (h : sg = sgz z) (t : ByteArray) : new z (mk sg j t) = mk (osg sg) j t := by
  unfold new
  rw [mk_rest]
  subst h
  obtain rfl | rfl : z = 0 ∨ z = 1 := by omega
  all_goals rfl
theorem group_mk {sg : UInt8} (hsg : sg = 43 ∨ sg = 45) {i j : Nat} (hi : i < 3) (hj : j < 3) {z : Nat} (hz : z < 2) (l : List ByteArray) : group i z (l.map (mk sg j)) = if i = j ∧ sg = sgz z then l.map (mk (osg sg) j) else [] := by
  by_cases c : i = j ∧ sg = sgz z
  · rw [if_pos c]
    induction l with
    | nil => rfl
    | cons t l ih =>
      rw [List.map_cons, group_cons, sel_mk hsg hi hj hz, decide_eq_true c, if_pos rfl, ih, new_mk hz c.2]
      rfl
  · rw [if_neg c]
    induction l with
    | nil => rfl
    | cons t l ih =>
      rw [List.map_cons, group_cons, sel_mk hsg hi hj hz, decide_eq_false c, if_neg (by decide), ih]
      rfl
theorem plain_mk {sg : UInt8} (hsg : sg = 43 ∨ sg = 45) (j : Nat) (l : List ByteArray) : (l.map (mk sg j)).filter plainQ = [] := by
  rw [List.filter_eq_nil_iff]
  intro s hs
  obtain ⟨t, _, rfl⟩ := List.mem_map.1 hs
  unfold plainQ
  rw [mk_bt]
  rcases hsg with rfl | rfl <;> decide
theorem group_append (i z : Nat) (a b : List ByteArray) : group i z (a ++ b) = group i z a ++ group i z b := by
  unfold group
  rw [List.filter_append, List.map_append]
theorem group_plain (i z : Nat) (hz : z < 2) (l : List ByteArray) (h : ∀ s ∈ l, plainQ s = true) : group i z l = [] := by
  unfold group
  rw [List.map_eq_nil_iff, List.filter_eq_nil_iff]
  intro s hs hsel
  have hp := h s hs
  unfold plainQ at hp
  rw [Bool.and_eq_true, decide_eq_true_iff, decide_eq_true_iff] at hp
  unfold sel at hsel
  rw [Bool.and_eq_true, Bool.and_eq_true, decide_eq_true_iff, decide_eq_true_iff, decide_eq_true_iff] at hsel
  have h3 := hsel.2.2
  obtain rfl | rfl : z = 0 ∨ z = 1 := by omega
  · exact hp.2 (h3.trans rfl)
  · exact hp.1 (h3.trans rfl)
/-- A list of names, then three kinds, each with '-' ahead of '+'. -/
def laid (n p0 q0 p1 q1 p2 q2 : List ByteArray) : List ByteArray :=
  n ++ (p0.map (mk 45 0) ++ q0.map (mk 43 0)) ++ (p1.map (mk 45 1) ++ q1.map (mk 43 1)) ++ (p2.map (mk 45 2) ++ q2.map (mk 43 2))
theorem turned_laid (n p0 q0 p1 q1 p2 q2 : List ByteArray) (hn : ∀ s ∈ n, plainQ s = true) : turnedL (laid n p0 q0 p1 q1 p2 q2) = laid n q0 p0 q1 p1 q2 p2 := by
  have a3 : (43 : UInt8) = 43 ∨ (43 : UInt8) = 45 := Or.inl rfl
  have a5 : (45 : UInt8) = 43 ∨ (45 : UInt8) = 45 := Or.inr rfl
  have hf : n.filter plainQ = n := List.filter_eq_self.2 hn
  have g : ∀ i, i < 3 → ∀ z, z < 2 → group i z (laid n p0 q0 p1 q1 p2 q2) =
      (if i = 0 ∧ (45 : UInt8) = sgz z then p0.map (mk (osg 45) 0) else []) ++ (if i = 0 ∧ (43 : UInt8) = sgz z then q0.map (mk (osg 43) 0) else []) ++
      ((if i = 1 ∧ (45 : UInt8) = sgz z then p1.map (mk (osg 45) 1) else []) ++ (if i = 1 ∧ (43 : UInt8) = sgz z then q1.map (mk (osg 43) 1) else [])) ++
      ((if i = 2 ∧ (45 : UInt8) = sgz z then p2.map (mk (osg 45) 2) else []) ++ (if i = 2 ∧ (43 : UInt8) = sgz z then q2.map (mk (osg 43) 2) else [])) := by
    intro i hi z hz
    unfold laid
    rw [group_append, group_append, group_append, group_append, group_append, group_append, group_plain i z hz n hn, group_mk a5 hi (by omega) hz, group_mk a3 hi (by omega) hz, group_mk a5 hi (by omega) hz, group_mk a3 hi (by omega) hz, group_mk a5 hi (by omega) hz, group_mk a3 hi (by omega) hz, List.nil_append]
  unfold turnedL
  rw [g 0 (by omega) 0 (by omega), g 0 (by omega) 1 (by omega), g 1 (by omega) 0 (by omega), g 1 (by omega) 1 (by omega), g 2 (by omega) 0 (by omega), g 2 (by omega) 1 (by omega)]
  have hp : (laid n p0 q0 p1 q1 p2 q2).filter plainQ = n := by
    unfold laid
    rw [List.filter_append, List.filter_append, List.filter_append, List.filter_append, List.filter_append, List.filter_append, plain_mk a5, plain_mk a3, plain_mk a5, plain_mk a3, plain_mk a5, plain_mk a3, hf]
    simp
  rw [hp]
  have s0 : (45 : UInt8) = sgz 0 ↔ False := by decide
  have s1 : (43 : UInt8) = sgz 0 ↔ True := by decide
  have s2 : (45 : UInt8) = sgz 1 ↔ True := by decide
  have s3 : (43 : UInt8) = sgz 1 ↔ False := by decide
  have o5 : osg 45 = 43 := rfl
  have o3 : osg 43 = 45 := rfl
  simp [s0, s1, s2, s3, o5, o3, laid]

def nameList : List ByteArray := [(⟨#[108, 97, 98, 101, 108]⟩ : ByteArray), (⟨#[115, 117, 98, 115, 121, 115, 116, 101, 109]⟩ : ByteArray), (⟨#[117, 117, 105, 100]⟩ : ByteArray), (⟨#[115, 97, 108, 116]⟩ : ByteArray), (⟨#[115, 104, 97, 112, 101]⟩ : ByteArray), (⟨#[100, 105, 103, 101, 115, 116]⟩ : ByteArray), (⟨#[115, 101, 103, 109, 101, 110, 116, 115]⟩ : ByteArray), (⟨#[114, 111, 116, 97, 116, 105, 111, 110]⟩ : ByteArray)]
theorem unlikes_mem {s : ByteArray} {l : List S43} (h : s ∈ unlikes l) : s ∈ l.map (·.f0) := by
  unfold unlikes at h
  obtain ⟨x, hx, rfl⟩ := List.mem_map.1 h
  exact List.mem_map.2 ⟨x, (List.mem_filter.1 hx).1, rfl⟩
theorem names_plain : ∀ s ∈ nameList, plainQ s = true ∧ 4 ≤ s.size ∧ s.size ≤ 64 := by decide +kernel
theorem app2 {a b c d : List ByteArray} (h : a = c) (g : b = d) : a ++ b = c ++ d := by rw [h, g]
theorem slot_form (a b : List S50) : slotLines a b = (cmpSlot.lines a b fun x => itoaB x.f0).map (mk 45 0) ++ (cmpSlot.lines b a fun x => itoaB x.f0).map (mk 43 0) := by
  unfold slotLines cmpSlot.lines
  rw [List.map_map, List.map_map]
  refine app2 ?_ ?_
  · refine List.map_congr_left fun x _ => ?_
    show (⟨#[45, 32]⟩ : ByteArray) ++ ((⟨#[115, 108, 111, 116, 32]⟩ : ByteArray) ++ itoaB x.f0) = (⟨#[45]⟩ : ByteArray) ++ ((⟨#[32, 115, 108, 111, 116, 32]⟩ : ByteArray) ++ itoaB x.f0)
    rw [← ByteArray.append_assoc, ← ByteArray.append_assoc]; rfl
  · refine List.map_congr_left fun x _ => ?_
    show (⟨#[43, 32]⟩ : ByteArray) ++ ((⟨#[115, 108, 111, 116, 32]⟩ : ByteArray) ++ itoaB x.f0) = (⟨#[43]⟩ : ByteArray) ++ ((⟨#[32, 115, 108, 111, 116, 32]⟩ : ByteArray) ++ itoaB x.f0)
    rw [← ByteArray.append_assoc, ← ByteArray.append_assoc]; rfl
theorem epoch_form (a b : List S56) : epochLines a b = (cmpEpoch.lines a b fun x => dec x.f0.toNat).map (mk 45 1) ++ (cmpEpoch.lines b a fun x => dec x.f0.toNat).map (mk 43 1) := by
  unfold epochLines cmpEpoch.lines
  rw [List.map_map, List.map_map]
  refine app2 ?_ ?_
  · refine List.map_congr_left fun x _ => ?_
    show (⟨#[45, 32]⟩ : ByteArray) ++ ((⟨#[101, 112, 111, 99, 104, 32]⟩ : ByteArray) ++ dec x.f0.toNat) = (⟨#[45]⟩ : ByteArray) ++ ((⟨#[32, 101, 112, 111, 99, 104, 32]⟩ : ByteArray) ++ dec x.f0.toNat)
    rw [← ByteArray.append_assoc, ← ByteArray.append_assoc]; rfl
  · refine List.map_congr_left fun x _ => ?_
    show (⟨#[43, 32]⟩ : ByteArray) ++ ((⟨#[101, 112, 111, 99, 104, 32]⟩ : ByteArray) ++ dec x.f0.toNat) = (⟨#[43]⟩ : ByteArray) ++ ((⟨#[32, 101, 112, 111, 99, 104, 32]⟩ : ByteArray) ++ dec x.f0.toNat)
    rw [← ByteArray.append_assoc, ← ByteArray.append_assoc]; rfl
theorem token_form (a b : List S63) : tokenLines a b = (cmpToken.lines a b fun x => itoaB x.f0).map (mk 45 2) ++ (cmpToken.lines b a fun x => itoaB x.f0).map (mk 43 2) := by
  unfold tokenLines cmpToken.lines
  rw [List.map_map, List.map_map]
  refine app2 ?_ ?_
  · refine List.map_congr_left fun x _ => ?_
    show (⟨#[45, 32]⟩ : ByteArray) ++ ((⟨#[116, 111, 107, 101, 110, 32]⟩ : ByteArray) ++ itoaB x.f0) = (⟨#[45]⟩ : ByteArray) ++ ((⟨#[32, 116, 111, 107, 101, 110, 32]⟩ : ByteArray) ++ itoaB x.f0)
    rw [← ByteArray.append_assoc, ← ByteArray.append_assoc]; rfl
  · refine List.map_congr_left fun x _ => ?_
    show (⟨#[43, 32]⟩ : ByteArray) ++ ((⟨#[116, 111, 107, 101, 110, 32]⟩ : ByteArray) ++ itoaB x.f0) = (⟨#[43]⟩ : ByteArray) ++ ((⟨#[32, 116, 111, 107, 101, 110, 32]⟩ : ByteArray) ++ itoaB x.f0)
    rw [← ByteArray.append_assoc, ← ByteArray.append_assoc]; rfl
theorem mem_slot {t : ByteArray} {a b : List S50} (ha : slotsOk a) (h : t ∈ cmpSlot.lines a b fun x => itoaB x.f0) : t.size ≤ 21 := by
  unfold cmpSlot.lines at h
  obtain ⟨x, hx, rfl⟩ := List.mem_map.1 h
  exact itoa_size _ (ha.2 x (List.mem_filter.1 hx).1)
theorem mem_epoch {t : ByteArray} {a b : List S56} (ha : epochsOk a) (h : t ∈ cmpEpoch.lines a b fun x => dec x.f0.toNat) : t.size ≤ 21 := by
  unfold cmpEpoch.lines at h
  obtain ⟨x, hx, rfl⟩ := List.mem_map.1 h
  have h9 := ha.2 x (List.mem_filter.1 hx).1
  have := dec_size x.f0.toNat (by omega)
  omega
theorem mem_token {t : ByteArray} {a b : List S63} (ha : tokensOk a) (h : t ∈ cmpToken.lines a b fun x => itoaB x.f0) : t.size ≤ 21 := by
  unfold cmpToken.lines at h
  obtain ⟨x, hx, rfl⟩ := List.mem_map.1 h
  exact itoa_size _ (ha.2.2 x (List.mem_filter.1 hx).1)
theorem laid_sizes {n p0 q0 p1 q1 p2 q2 : List ByteArray} (hn : ∀ s ∈ n, 4 ≤ s.size ∧ s.size ≤ 64) (h0 : ∀ t ∈ p0, t.size ≤ 21) (h1 : ∀ t ∈ q0, t.size ≤ 21) (h2 : ∀ t ∈ p1, t.size ≤ 21) (h3 : ∀ t ∈ q1, t.size ≤ 21) (h4 : ∀ t ∈ p2, t.size ≤ 21) (h5 : ∀ t ∈ q2, t.size ≤ 21) :
    ∀ s ∈ laid n p0 q0 p1 q1 p2 q2, 4 ≤ s.size ∧ s.size ≤ 64 := by
  have one : ∀ (l : List ByteArray) (sg : UInt8) (j : Nat), j < 3 → (∀ t ∈ l, t.size ≤ 21) → ∀ s ∈ l.map (mk sg j), 4 ≤ s.size ∧ s.size ≤ 64 := by
    intro l sg j hj hl s hs
    obtain ⟨t, ht, rfl⟩ := List.mem_map.1 hs
    have := hl t ht
    have := kd_size hj
    rw [mk_size]
    omega
  intro s hs
  unfold laid at hs
  simp only [List.mem_append] at hs
  rcases hs with ((h | h | h) | h | h) | h | h
  · exact hn s h
  · exact one _ _ _ (by omega) h0 s h
  · exact one _ _ _ (by omega) h1 s h
  · exact one _ _ _ (by omega) h2 s h
  · exact one _ _ _ (by omega) h3 s h
  · exact one _ _ _ (by omega) h4 s h
  · exact one _ _ _ (by omega) h5 s h
theorem told_laid (a0_0 : ByteArray) (a0_1 : ByteArray) (a0_2 : ByteArray) (a0_3 : ByteArray) (a0_4 : Int) (a0_5 : Int) (a0_6 : Int) (a0_7 : Int) (a0_8 : Int) (a0_9 : ByteArray) (a0_10 : ByteArray) (l0_11 : List S50) (l0_12 : List S56) (l0_13 : List S46) (a0_14 : Bool) (a0_15 : Int) (a0_16 : Int) (a0_17 : Bool) (a0_18 : Int) (a0_19 : Int) (a0_20 : Int) (a0_21 : Int) (a0_22 : Int) (a0_23 : Bool) (a0_24 : Int) (a0_25 : ByteArray) (l0_26 : List S63) (a1_0 : ByteArray) (a1_1 : ByteArray) (a1_2 : ByteArray) (a1_3 : ByteArray) (a1_4 : Int) (a1_5 : Int) (a1_6 : Int) (a1_7 : Int) (a1_8 : Int) (a1_9 : ByteArray) (a1_10 : ByteArray) (l1_11 : List S50) (l1_12 : List S56) (l1_13 : List S46) (a1_14 : Bool) (a1_15 : Int) (a1_16 : Int) (a1_17 : Bool) (a1_18 : Int) (a1_19 : Int) (a1_20 : Int) (a1_21 : Int) (a1_22 : Int) (a1_23 : Bool) (a1_24 : Int) (a1_25 : ByteArray) (l1_26 : List S63) : ∃ n, (∀ s ∈ n, s ∈ nameList) ∧
    told a0_0 a0_1 a0_2 a0_3 a0_4 a0_5 a0_6 a0_7 a0_8 a0_9 a0_10 l0_11 l0_12 l0_13 a0_14 a0_15 a0_16 a0_17 a0_18 a0_19 a0_20 a0_21 a0_22 a0_23 a0_24 a0_25 l0_26 a1_0 a1_1 a1_2 a1_3 a1_4 a1_5 a1_6 a1_7 a1_8 a1_9 a1_10 l1_11 l1_12 l1_13 a1_14 a1_15 a1_16 a1_17 a1_18 a1_19 a1_20 a1_21 a1_22 a1_23 a1_24 a1_25 l1_26 = laid n (cmpSlot.lines l0_11 l1_11 fun x => itoaB x.f0) (cmpSlot.lines l1_11 l0_11 fun x => itoaB x.f0) (cmpEpoch.lines l0_12 l1_12 fun x => dec x.f0.toNat) (cmpEpoch.lines l1_12 l0_12 fun x => dec x.f0.toNat) (cmpToken.lines l0_26 l1_26 fun x => itoaB x.f0) (cmpToken.lines l1_26 l0_26 fun x => itoaB x.f0) ∧
    told a1_0 a1_1 a1_2 a1_3 a1_4 a1_5 a1_6 a1_7 a1_8 a1_9 a1_10 l1_11 l1_12 l1_13 a1_14 a1_15 a1_16 a1_17 a1_18 a1_19 a1_20 a1_21 a1_22 a1_23 a1_24 a1_25 l1_26 a0_0 a0_1 a0_2 a0_3 a0_4 a0_5 a0_6 a0_7 a0_8 a0_9 a0_10 l0_11 l0_12 l0_13 a0_14 a0_15 a0_16 a0_17 a0_18 a0_19 a0_20 a0_21 a0_22 a0_23 a0_24 a0_25 l0_26 = laid n (cmpSlot.lines l1_11 l0_11 fun x => itoaB x.f0) (cmpSlot.lines l0_11 l1_11 fun x => itoaB x.f0) (cmpEpoch.lines l1_12 l0_12 fun x => dec x.f0.toNat) (cmpEpoch.lines l0_12 l1_12 fun x => dec x.f0.toNat) (cmpToken.lines l1_26 l0_26 fun x => itoaB x.f0) (cmpToken.lines l0_26 l1_26 fun x => itoaB x.f0) := by
  refine ⟨unlikes [(⟨(⟨#[108, 97, 98, 101, 108]⟩ : ByteArray), (a0_0.toList == a1_0.toList)⟩ : S43), (⟨(⟨#[115, 117, 98, 115, 121, 115, 116, 101, 109]⟩ : ByteArray), (a0_1.toList == a1_1.toList)⟩ : S43), (⟨(⟨#[117, 117, 105, 100]⟩ : ByteArray), (a0_2.toList == a1_2.toList)⟩ : S43), (⟨(⟨#[115, 97, 108, 116]⟩ : ByteArray), (a0_3.toList == a1_3.toList)⟩ : S43), (⟨(⟨#[115, 104, 97, 112, 101]⟩ : ByteArray), (a0_4 == a1_4 && (a0_5 == a1_5 && (a0_6 == a1_6 && (a0_7 == a1_7))))⟩ : S43), (⟨(⟨#[100, 105, 103, 101, 115, 116]⟩ : ByteArray), (a0_8 == a1_8 && (a0_9.toList == a1_9.toList && (a0_10.toList == a1_10.toList)))⟩ : S43), (⟨(⟨#[115, 101, 103, 109, 101, 110, 116, 115]⟩ : ByteArray), segSame l0_13 l1_13⟩ : S43), (⟨(⟨#[114, 111, 116, 97, 116, 105, 111, 110]⟩ : ByteArray), (a0_14 == a1_14 && (a0_15 == a1_15 && (a0_16 == a1_16 && (a0_17 == a1_17 && (a0_18 == a1_18 && (a0_19 == a1_19 && (a0_20 == a1_20 && ((a0_21 == a1_21 && (a0_22 == a1_22)) && (a0_23 == a1_23 && (a0_24 == a1_24 && (a0_25.toList == a1_25.toList)))))))))))⟩ : S43)], fun s hs => unlikes_mem hs, ?_, ?_⟩
  · unfold told laid
    rw [slot_form, epoch_form, token_form]
  · have hsym : segSame l1_13 l0_13 = segSame l0_13 l1_13 := BEq.comm
    unfold told laid
    rw [slot_form, epoch_form, token_form, hsym, BEq.comm (a := a1_0.toList) (b := a0_0.toList), BEq.comm (a := a1_1.toList) (b := a0_1.toList), BEq.comm (a := a1_2.toList) (b := a0_2.toList), BEq.comm (a := a1_3.toList) (b := a0_3.toList), BEq.comm (a := a1_9.toList) (b := a0_9.toList), BEq.comm (a := a1_10.toList) (b := a0_10.toList), BEq.comm (a := a1_25.toList) (b := a0_25.toList), BEq.comm (a := a1_4) (b := a0_4), BEq.comm (a := a1_5) (b := a0_5), BEq.comm (a := a1_6) (b := a0_6), BEq.comm (a := a1_7) (b := a0_7), BEq.comm (a := a1_8) (b := a0_8), BEq.comm (a := a1_14) (b := a0_14), BEq.comm (a := a1_15) (b := a0_15), BEq.comm (a := a1_16) (b := a0_16), BEq.comm (a := a1_17) (b := a0_17), BEq.comm (a := a1_18) (b := a0_18), BEq.comm (a := a1_19) (b := a0_19), BEq.comm (a := a1_20) (b := a0_20), BEq.comm (a := a1_21) (b := a0_21), BEq.comm (a := a1_22) (b := a0_22), BEq.comm (a := a1_23) (b := a0_23), BEq.comm (a := a1_24) (b := a0_24)]
theorem told_turned (a0_0 : ByteArray) (a0_1 : ByteArray) (a0_2 : ByteArray) (a0_3 : ByteArray) (a0_4 : Int) (a0_5 : Int) (a0_6 : Int) (a0_7 : Int) (a0_8 : Int) (a0_9 : ByteArray) (a0_10 : ByteArray) (l0_11 : List S50) (l0_12 : List S56) (l0_13 : List S46) (a0_14 : Bool) (a0_15 : Int) (a0_16 : Int) (a0_17 : Bool) (a0_18 : Int) (a0_19 : Int) (a0_20 : Int) (a0_21 : Int) (a0_22 : Int) (a0_23 : Bool) (a0_24 : Int) (a0_25 : ByteArray) (l0_26 : List S63) (a1_0 : ByteArray) (a1_1 : ByteArray) (a1_2 : ByteArray) (a1_3 : ByteArray) (a1_4 : Int) (a1_5 : Int) (a1_6 : Int) (a1_7 : Int) (a1_8 : Int) (a1_9 : ByteArray) (a1_10 : ByteArray) (l1_11 : List S50) (l1_12 : List S56) (l1_13 : List S46) (a1_14 : Bool) (a1_15 : Int) (a1_16 : Int) (a1_17 : Bool) (a1_18 : Int) (a1_19 : Int) (a1_20 : Int) (a1_21 : Int) (a1_22 : Int) (a1_23 : Bool) (a1_24 : Int) (a1_25 : ByteArray) (l1_26 : List S63) : turnedL (told a0_0 a0_1 a0_2 a0_3 a0_4 a0_5 a0_6 a0_7 a0_8 a0_9 a0_10 l0_11 l0_12 l0_13 a0_14 a0_15 a0_16 a0_17 a0_18 a0_19 a0_20 a0_21 a0_22 a0_23 a0_24 a0_25 l0_26 a1_0 a1_1 a1_2 a1_3 a1_4 a1_5 a1_6 a1_7 a1_8 a1_9 a1_10 l1_11 l1_12 l1_13 a1_14 a1_15 a1_16 a1_17 a1_18 a1_19 a1_20 a1_21 a1_22 a1_23 a1_24 a1_25 l1_26) = told a1_0 a1_1 a1_2 a1_3 a1_4 a1_5 a1_6 a1_7 a1_8 a1_9 a1_10 l1_11 l1_12 l1_13 a1_14 a1_15 a1_16 a1_17 a1_18 a1_19 a1_20 a1_21 a1_22 a1_23 a1_24 a1_25 l1_26 a0_0 a0_1 a0_2 a0_3 a0_4 a0_5 a0_6 a0_7 a0_8 a0_9 a0_10 l0_11 l0_12 l0_13 a0_14 a0_15 a0_16 a0_17 a0_18 a0_19 a0_20 a0_21 a0_22 a0_23 a0_24 a0_25 l0_26 := by
  obtain ⟨n, hn, h1, h2⟩ := told_laid a0_0 a0_1 a0_2 a0_3 a0_4 a0_5 a0_6 a0_7 a0_8 a0_9 a0_10 l0_11 l0_12 l0_13 a0_14 a0_15 a0_16 a0_17 a0_18 a0_19 a0_20 a0_21 a0_22 a0_23 a0_24 a0_25 l0_26 a1_0 a1_1 a1_2 a1_3 a1_4 a1_5 a1_6 a1_7 a1_8 a1_9 a1_10 l1_11 l1_12 l1_13 a1_14 a1_15 a1_16 a1_17 a1_18 a1_19 a1_20 a1_21 a1_22 a1_23 a1_24 a1_25 l1_26
  rw [h1, h2]
  exact turned_laid _ _ _ _ _ _ _ (fun s hs => (names_plain s (hn s hs)).1)
theorem told_sizes (a0_0 : ByteArray) (a0_1 : ByteArray) (a0_2 : ByteArray) (a0_3 : ByteArray) (a0_4 : Int) (a0_5 : Int) (a0_6 : Int) (a0_7 : Int) (a0_8 : Int) (a0_9 : ByteArray) (a0_10 : ByteArray) (l0_11 : List S50) (l0_12 : List S56) (l0_13 : List S46) (a0_14 : Bool) (a0_15 : Int) (a0_16 : Int) (a0_17 : Bool) (a0_18 : Int) (a0_19 : Int) (a0_20 : Int) (a0_21 : Int) (a0_22 : Int) (a0_23 : Bool) (a0_24 : Int) (a0_25 : ByteArray) (l0_26 : List S63) (a1_0 : ByteArray) (a1_1 : ByteArray) (a1_2 : ByteArray) (a1_3 : ByteArray) (a1_4 : Int) (a1_5 : Int) (a1_6 : Int) (a1_7 : Int) (a1_8 : Int) (a1_9 : ByteArray) (a1_10 : ByteArray) (l1_11 : List S50) (l1_12 : List S56) (l1_13 : List S46) (a1_14 : Bool) (a1_15 : Int) (a1_16 : Int) (a1_17 : Bool) (a1_18 : Int) (a1_19 : Int) (a1_20 : Int) (a1_21 : Int) (a1_22 : Int) (a1_23 : Bool) (a1_24 : Int) (a1_25 : ByteArray) (l1_26 : List S63) (hs0 : slotsOk l0_11) (hs1 : slotsOk l1_11) (he0 : epochsOk l0_12) (he1 : epochsOk l1_12) (ht0 : tokensOk l0_26) (ht1 : tokensOk l1_26) : ∀ s ∈ told a0_0 a0_1 a0_2 a0_3 a0_4 a0_5 a0_6 a0_7 a0_8 a0_9 a0_10 l0_11 l0_12 l0_13 a0_14 a0_15 a0_16 a0_17 a0_18 a0_19 a0_20 a0_21 a0_22 a0_23 a0_24 a0_25 l0_26 a1_0 a1_1 a1_2 a1_3 a1_4 a1_5 a1_6 a1_7 a1_8 a1_9 a1_10 l1_11 l1_12 l1_13 a1_14 a1_15 a1_16 a1_17 a1_18 a1_19 a1_20 a1_21 a1_22 a1_23 a1_24 a1_25 l1_26, 4 ≤ s.size ∧ s.size ≤ 64 := by
  obtain ⟨n, hn, h1, h2⟩ := told_laid a0_0 a0_1 a0_2 a0_3 a0_4 a0_5 a0_6 a0_7 a0_8 a0_9 a0_10 l0_11 l0_12 l0_13 a0_14 a0_15 a0_16 a0_17 a0_18 a0_19 a0_20 a0_21 a0_22 a0_23 a0_24 a0_25 l0_26 a1_0 a1_1 a1_2 a1_3 a1_4 a1_5 a1_6 a1_7 a1_8 a1_9 a1_10 l1_11 l1_12 l1_13 a1_14 a1_15 a1_16 a1_17 a1_18 a1_19 a1_20 a1_21 a1_22 a1_23 a1_24 a1_25 l1_26
  rw [h1]
  exact laid_sizes (fun s hs => (names_plain s (hn s hs)).2) (fun t ht => mem_slot hs0 ht) (fun t ht => mem_slot hs1 ht) (fun t ht => mem_epoch he0 ht) (fun t ht => mem_epoch he1 ht) (fun t ht => mem_token ht0 ht) (fun t ht => mem_token ht1 ht)
theorem slot_refl (x : S50) : cmpSlot.same x x = true := by simp [cmpSlot.same, api_Slot_12.f]
theorem epoch_refl (x : S56) : cmpEpoch.same x x = true := by simp [cmpEpoch.same, api_Epoch_16.f]
theorem token_refl (x : S63) : cmpToken.same x x = true := by simp [cmpToken.same]
theorem slot_self (a : List S50) (nm : S50 → ByteArray) : cmpSlot.lines a a nm = [] := by
  unfold cmpSlot.lines
  rw [List.map_eq_nil_iff, List.filter_eq_nil_iff]
  intro x hx h
  have : a.any (cmpSlot.same x) = true := List.any_eq_true.2 ⟨x, hx, slot_refl x⟩
  rw [this] at h
  exact absurd h (by decide)
theorem epoch_self (a : List S56) (nm : S56 → ByteArray) : cmpEpoch.lines a a nm = [] := by
  unfold cmpEpoch.lines
  rw [List.map_eq_nil_iff, List.filter_eq_nil_iff]
  intro x hx h
  have : a.any (cmpEpoch.same x) = true := List.any_eq_true.2 ⟨x, hx, epoch_refl x⟩
  rw [this] at h
  exact absurd h (by decide)
theorem token_self (a : List S63) (nm : S63 → ByteArray) : cmpToken.lines a a nm = [] := by
  unfold cmpToken.lines
  rw [List.map_eq_nil_iff, List.filter_eq_nil_iff]
  intro x hx h
  have : a.any (cmpToken.same x) = true := List.any_eq_true.2 ⟨x, hx, token_refl x⟩
  rw [this] at h
  exact absurd h (by decide)
theorem told_self (a0_0 : ByteArray) (a0_1 : ByteArray) (a0_2 : ByteArray) (a0_3 : ByteArray) (a0_4 : Int) (a0_5 : Int) (a0_6 : Int) (a0_7 : Int) (a0_8 : Int) (a0_9 : ByteArray) (a0_10 : ByteArray) (l0_11 : List S50) (l0_12 : List S56) (l0_13 : List S46) (a0_14 : Bool) (a0_15 : Int) (a0_16 : Int) (a0_17 : Bool) (a0_18 : Int) (a0_19 : Int) (a0_20 : Int) (a0_21 : Int) (a0_22 : Int) (a0_23 : Bool) (a0_24 : Int) (a0_25 : ByteArray) (l0_26 : List S63) : told a0_0 a0_1 a0_2 a0_3 a0_4 a0_5 a0_6 a0_7 a0_8 a0_9 a0_10 l0_11 l0_12 l0_13 a0_14 a0_15 a0_16 a0_17 a0_18 a0_19 a0_20 a0_21 a0_22 a0_23 a0_24 a0_25 l0_26 a0_0 a0_1 a0_2 a0_3 a0_4 a0_5 a0_6 a0_7 a0_8 a0_9 a0_10 l0_11 l0_12 l0_13 a0_14 a0_15 a0_16 a0_17 a0_18 a0_19 a0_20 a0_21 a0_22 a0_23 a0_24 a0_25 l0_26 = [] := by
  unfold told slotLines epochLines tokenLines
  rw [slot_self, slot_self, epoch_self, epoch_self, token_self, token_self]
  simp [unlikes, segSame]
theorem told_len (a0_0 : ByteArray) (a0_1 : ByteArray) (a0_2 : ByteArray) (a0_3 : ByteArray) (a0_4 : Int) (a0_5 : Int) (a0_6 : Int) (a0_7 : Int) (a0_8 : Int) (a0_9 : ByteArray) (a0_10 : ByteArray) (l0_11 : List S50) (l0_12 : List S56) (l0_13 : List S46) (a0_14 : Bool) (a0_15 : Int) (a0_16 : Int) (a0_17 : Bool) (a0_18 : Int) (a0_19 : Int) (a0_20 : Int) (a0_21 : Int) (a0_22 : Int) (a0_23 : Bool) (a0_24 : Int) (a0_25 : ByteArray) (l0_26 : List S63) (a1_0 : ByteArray) (a1_1 : ByteArray) (a1_2 : ByteArray) (a1_3 : ByteArray) (a1_4 : Int) (a1_5 : Int) (a1_6 : Int) (a1_7 : Int) (a1_8 : Int) (a1_9 : ByteArray) (a1_10 : ByteArray) (l1_11 : List S50) (l1_12 : List S56) (l1_13 : List S46) (a1_14 : Bool) (a1_15 : Int) (a1_16 : Int) (a1_17 : Bool) (a1_18 : Int) (a1_19 : Int) (a1_20 : Int) (a1_21 : Int) (a1_22 : Int) (a1_23 : Bool) (a1_24 : Int) (a1_25 : ByteArray) (l1_26 : List S63) (b0 : l0_11.length ≤ 1048576) (b1 : l1_11.length ≤ 1048576) (b2 : l0_12.length ≤ 1048576) (b3 : l1_12.length ≤ 1048576) (b4 : l0_26.length ≤ 1048576) (b5 : l1_26.length ≤ 1048576) : (told a0_0 a0_1 a0_2 a0_3 a0_4 a0_5 a0_6 a0_7 a0_8 a0_9 a0_10 l0_11 l0_12 l0_13 a0_14 a0_15 a0_16 a0_17 a0_18 a0_19 a0_20 a0_21 a0_22 a0_23 a0_24 a0_25 l0_26 a1_0 a1_1 a1_2 a1_3 a1_4 a1_5 a1_6 a1_7 a1_8 a1_9 a1_10 l1_11 l1_12 l1_13 a1_14 a1_15 a1_16 a1_17 a1_18 a1_19 a1_20 a1_21 a1_22 a1_23 a1_24 a1_25 l1_26).length < 1000000000 := by
  unfold told slotLines epochLines tokenLines
  simp only [List.length_append]
  have g1 := cmpSlot.lines_le l0_11 l1_11 (fun x => (⟨#[45, 32]⟩ : ByteArray) ++ cmpSlot.nm x)
  have g2 := cmpSlot.lines_le l1_11 l0_11 (fun x => (⟨#[43, 32]⟩ : ByteArray) ++ cmpSlot.nm x)
  have g3 := cmpEpoch.lines_le l0_12 l1_12 (fun x => (⟨#[45, 32]⟩ : ByteArray) ++ cmpEpoch.nm x)
  have g4 := cmpEpoch.lines_le l1_12 l0_12 (fun x => (⟨#[43, 32]⟩ : ByteArray) ++ cmpEpoch.nm x)
  have g5 := cmpToken.lines_le l0_26 l1_26 (fun x => (⟨#[45, 32]⟩ : ByteArray) ++ cmpToken.nm x)
  have g6 := cmpToken.lines_le l1_26 l0_26 (fun x => (⟨#[43, 32]⟩ : ByteArray) ++ cmpToken.nm x)
  refine Nat.lt_of_le_of_lt (Nat.add_le_add (Nat.add_le_add (Nat.add_le_add (unlikes_le _) (Nat.add_le_add g1 g2)) (Nat.add_le_add g3 g4)) (Nat.add_le_add g5 g6)) ?_
  show 8 + _ + _ + _ < _
  omega
theorem same_loop (l : List ByteArray) (h : l.length < 17592186044416) : ∀ (n i : Nat), l.length - i = n → cofferbook_SameTexts.l0 (n + 1) l l i = some true
  | 0, i, hi => by
    rw [cofferbook_SameTexts.l0, if_neg (by omega)]
  | n + 1, i, hi => by
    rw [cofferbook_SameTexts.l0, if_pos (by omega), if_pos (by omega), if_pos (by omega), if_pos rfl, turnedPlain.w64 _ (by omega)]
    exact same_loop l h n (i + 1) (by omega)
theorem same_refl (l : List ByteArray) (h : l.length < 17592186044416) : cofferbook_SameTexts.f (l.length + 1) l l = some true := by
  unfold cofferbook_SameTexts.f
  rw [if_pos rfl]
  exact same_loop l h l.length 0 (by omega)
end Go.Proofs.YtkpgklkplmljdaaDoor.toldPlain
