/- A row of the call's own, its tail sorted in place by the library: over any world. -/
import Derived.Test.YtkpgklkplmljdaaOrderPlain
import Derived.Sort.OwnSortedInts
namespace Go.Proofs.Ytkpgklkplmljdaa.PProbeOrders
open Go Go.Sort Go.RowKit Go.Proofs.YtkpgklkplmljdaaW.PrintWords

theorem own_form {w : World} {base : Nat} {e g cap : Nat} {xs : List Int} (h : w.ownsRow base e 1 (.slice (some ⟨g, 0, none⟩) xs.length cap) xs.length (encs (Value.int .i64) xs)) :
    ∃ cur, base ≤ g ∧ w.heap[g]? = some (.cells cur e (0, 0)) ∧ xs.length ≤ cap ∧ cap ≤ maxLen ∧ cur.size = cap ∧ cur.toList.take xs.length = xs.map (Value.int .i64) := by
  obtain ⟨_, ⟨h0, _⟩ | ⟨g', cap', cur, hv, hg, hb, h1, h2, h3, h4⟩⟩ := h
  · cases h0
  · cases hv
    exact ⟨cur, hg, hb, h1, h2, by simpa using h3, by simpa [encs] using h4⟩

theorem tail_holds {w : World} {base : Nat} {e g cap n : Nat} {xs : List Int} (h : w.ownsRow base e 1 (.slice (some ⟨g, 0, none⟩) xs.length cap) xs.length (encs (Value.int .i64) xs)) (hn : n ≤ xs.length) :
    Holds (Value.int .i64) w g n (xs.drop n).toArray := by
  obtain ⟨cur, hg, hb, h1, h2, h3, h4⟩ := own_form h
  intro j hj
  have hj' : n + j < xs.length := by simp at hj; omega
  refine ⟨?_, by simp [World.frozen?, hb]⟩
  have h5 : (cur.toList.take xs.length)[n + j]? = (xs.map (Value.int .i64))[n + j]? := by rw [h4]
  rw [List.getElem?_take_of_lt hj'] at h5
  simp only [World.cell?, hb]
  simp only [Option.isSome_none, Bool.false_eq_true, if_false]
  rw [← Array.getElem?_toList, h5]
  simp [hj']

theorem tail_sorted {w : World} {base : Nat} {e g cap n m : Nat} {xs ts : List Int} {os : Array Obj} (h : w.ownsRow base e 1 (.slice (some ⟨g, 0, none⟩) xs.length cap) xs.length (encs (Value.int .i64) xs)) (hn : n ≤ xs.length) (hl : ts.length = xs.length - n) :
    (grow (putRow (Value.int .i64) (Sort.ahead w m) g n ts.toArray) os).ownsRow base e 1 (.slice (some ⟨g, 0, none⟩) (xs.take n ++ ts).length cap) (xs.take n ++ ts).length (encs (Value.int .i64) (xs.take n ++ ts)) := by
  obtain ⟨cur, hg, hb, h1, h2, h3, h4⟩ := own_form h
  have hlen : (xs.take n ++ ts).length = xs.length := by simp [hl]; omega
  have hgs : g < w.heap.size := (Array.getElem?_eq_some_iff.1 hb).1
  refine ⟨by simp [encs], .inr ⟨g, cap, putCells (Value.int .i64) n ts.toArray cur, rfl, hg, ?_, by omega, h2, by simp [putCells, h3], ?_⟩⟩
  · rw [heap_grow_old _ _ (by simpa using hgs)]
    simp [putRow, mapBlock, Sort.ahead, Array.getElem?_modify, hb, onCells]
  · apply List.ext_getElem?
    intro j
    rw [Nat.mul_one, hlen]
    rcases Nat.lt_or_ge j xs.length with hj | hj
    · rw [List.getElem?_take_of_lt hj, Array.getElem?_toList]
      have h5 : (cur.toList.take xs.length)[j]? = (xs.map (Value.int .i64))[j]? := by rw [h4]
      rw [List.getElem?_take_of_lt hj, Array.getElem?_toList] at h5
      rcases Nat.lt_or_ge j n with hjn | hjn
      · simp only [putCells, encs, List.map_append]
        rw [List.getElem?_append_left (by simp; omega)]
        simp [hjn, show j < cur.size by omega, show ¬ n ≤ j by omega] at h5 ⊢
        rw [h5]
      · simp only [putCells, encs, List.map_append]
        rw [List.getElem?_append_right (by simp; omega)]
        have : min n xs.length = n := by omega
        simp [hjn, show j < cur.size by omega, show j - n < ts.length by omega, this, show j < n + ts.length by omega]
    · rw [List.getElem?_take_eq_none (by omega), List.getElem?_eq_none (by simp [encs]; simp at hlen; omega)]

theorem tail_grown {w : World} {g n m : Nat} {os : Array Obj} (d : Array Int) : w.grownBy (grow (putRow (Value.int .i64) (Sort.ahead w m) g n d) os) (some g) := by
  refine ⟨rfl, rfl, rfl, by simp, fun k hk hne => ?_⟩
  rw [heap_grow_old _ _ (by simpa using hk)]
  have : g ≠ k := fun e => hne (by rw [e])
  simp [putRow, mapBlock, Sort.ahead, Array.getElem?_modify, this]
end Go.Proofs.Ytkpgklkplmljdaa.PProbeOrders
