/- What a row's list of variables gives: the tables of the digest, the beginnings of a copy. (Merged by merge.py.) -/
import Derived.Test.YtglcapkmeecknaaDoorRows
import Derived.Test.YtglcapkmeecknaaDoorQN
import Derived.Test.YtglcapkmeecknaaDoorQW
import Derived.Lib.LaidTab
/-! ## Tabs -/
namespace Go.Proofs.YtglcapkmeecknaaDoor.tabs
open Go Go.RowKit Go.Proofs.YtglcapkmeecknaaDoor.sha Go.Proofs.YtglcapkmeecknaaDoor.s28 Go.Proofs.YtglcapkmeecknaaDoor.d40 Go.Proofs.YtglcapkmeecknaaDoor.k07
set_option linter.unusedVariables false
def nums_ : DataW Unit → List Int
  | .agg l => l.map fun
    | .lit (.int _ z) => z
    | _ => 0
  | _ => []
def cubTab : List Int := nums_ Rows.laid_coffer_digest_cubes
def sqTab : List Int := nums_ Rows.laid_coffer_digest_squares
theorem cub_len : cubTab.length = 80 := by kernel_rfl
theorem sq_len : sqTab.length = 16 := by kernel_rfl
theorem cub_all : cubTab.all (fun c => decide (0 ≤ c) && decide (c < 18446744073709551616)) = true := by kernel_rfl
theorem sq_all : sqTab.all (fun c => decide (0 ≤ c) && decide (c < 18446744073709551616)) = true := by kernel_rfl
def high (c : Int) : BitVec 32 := BitVec.ofNat 32 (c / 4294967296).toNat
theorem high_nn {c : Int} (h0 : 0 ≤ c) (h1 : c < 18446744073709551616) : c / 4294967296 = nn (high c) := by
  unfold nn high
  rw [BitVec.toNat_ofNat]
  omega
/-- The constants of SHA-256. -/
def kf (t : Nat) : BitVec 32 := high (cubTab.getD t 0)
/-- The words that SHA-256 begins with. -/
def x0 : St := ⟨high (sqTab.getD 0 0), high (sqTab.getD 1 0), high (sqTab.getD 2 0), high (sqTab.getD 3 0), high (sqTab.getD 4 0), high (sqTab.getD 5 0), high (sqTab.getD 6 0), high (sqTab.getD 7 0)⟩
theorem x0_at (t : Nat) (h : t < 8) : stf x0 t = high (sqTab.getD t 0) := by
  obtain rfl | rfl | rfl | rfl | rfl | rfl | rfl | rfl : t = 0 ∨ t = 1 ∨ t = 2 ∨ t = 3 ∨ t = 4 ∨ t = 5 ∨ t = 6 ∨ t = 7 := by omega
  all_goals rfl
theorem all_at {l : List Int} (h : l.all (fun c => decide (0 ≤ c) && decide (c < 18446744073709551616)) = true) (t : Nat) (ht : t < l.length) : 0 ≤ l.getD t 0 ∧ l.getD t 0 < 18446744073709551616 := by
  have hm : l.getD t 0 ∈ l := by
    rw [List.getD_eq_getElem?_getD, List.getElem?_eq_getElem ht]
    exact List.getElem_mem ht
  have := List.all_eq_true.1 h _ hm
  simpa using this
theorem cub_ok (t : Nat) (ht : t < 64) : 0 ≤ cubTab.getD t 0 ∧ cubTab.getD t 0 < 18446744073709551616 ∧ cubTab.getD t 0 / 4294967296 = nn (kf t) := by
  obtain ⟨h0, h1⟩ := all_at cub_all t (by rw [cub_len]; omega)
  exact ⟨h0, h1, high_nn h0 h1⟩
theorem sq_ok (t : Nat) (ht : t < 8) : 0 ≤ sqTab.getD t 0 ∧ sqTab.getD t 0 < 18446744073709551616 ∧ sqTab.getD t 0 / 4294967296 = nn (stf x0 t) := by
  obtain ⟨h0, h1⟩ := all_at sq_all t (by rw [sq_len]; omega)
  exact ⟨h0, h1, by rw [x0_at t ht]; exact high_nn h0 h1⟩
theorem laidMet_tail {P : Program} {W : World} {x : String × DataW Unit} {rest : List (String × DataW Unit)} (h : laidMet P (x :: rest) W) : laidMet P rest W := by
  obtain ⟨ps, hv, hn, ha⟩ := h
  obtain ⟨n, d⟩ := x
  obtain ⟨g, t, cs, fuel, p, q, _, _, _, _, hq, rfl⟩ := hv
  refine ⟨q, hq, (List.nodup_append.1 hn).2.1, fun b off hb => ha b off (List.mem_append_right _ hb)⟩
/-- An array of strings that reads as its data holds them. -/
theorem cells_of_texts {H : Type} {enc : TypeId × Value → H} {P : Program} {w : World} {base : Nat} {sp : Nat → Bool} {held : Bool} {fuel : Nat} {t e : TypeId} {n : Nat} {cs : List Value} {ss : List (List UInt8)} {p : List MemPlace}
    (ht : P.underlying t = some (.array n e)) (he : P.underlying e = some .string) (hce : P.cellsOf e = 1) (hct : P.cellsOf t = n)
    (h : DataW.trod enc P w base sp held fuel t cs = some (.agg (ss.map fun s => .lit (.string s)), p)) (i : Nat) (s : List UInt8) (hs : ss[i]? = some s) : cs[i]? = some (.string ⟨s.toArray⟩) := by
  cases fuel with
  | zero => simp [DataW.trod] at h
  | succ fuel =>
    simp only [DataW.trod, ht, hce, hct, Nat.mul_one] at h
    split at h
    · rename_i hl
      obtain ⟨xs, hm, hx⟩ := Option.map_eq_some_iff.1 h
      have hxs : xs.map (·.1) = ss.map fun z => (DataW.lit (.string z) : DataW H) := by
        have := congrArg Prod.fst hx
        simpa using this
      have hxl : xs.length = n := by simpa using Lib.mapM_length hm
      have hzl : ss.length = n := by
        have := congrArg List.length hxs
        simp at this
        omega
      have hi : i < n := by have := (List.getElem?_eq_some_iff.1 hs).1; omega
      obtain ⟨b, hb, hf⟩ := Lib.mapM_at hm i i (by simp [hi])
      obtain ⟨z, hc, rfl, _⟩ := DataW.trod_string he hf
      have h1 : cs[i]? = some (.string z) := by
        have := congrArg (·[0]?) hc
        simpa [List.getElem?_take, List.getElem?_drop] using this
      have h2 : (xs.map (·.1))[i]? = some (DataW.lit (.string z.data.toList) : DataW H) := by simp [hb]
      rw [hxs] at h2
      simp only [List.getElem?_map, Option.map_eq_some_iff, DataW.lit.injEq, Lit.string.injEq] at h2
      obtain ⟨z', hz', e⟩ := h2
      rw [hs] at hz'
      cases hz'
      rw [h1, e]
    · cases h
theorem texts_of_head {P : Program} {W : World} {name : String} {ss : List (List UInt8)} {rest : List (String × DataW Unit)} {g : Nat} {t e : TypeId} {n : Nat}
    (hg : P.globalNamed name = some g) (hty : (P.globals[g]?).map (·.type) = some t) (ht : P.underlying t = some (.array n e)) (he : P.underlying e = some .string) (hce : P.cellsOf e = 1) (hct : P.cellsOf t = n)
    (h : laidMet P ((name, .agg (ss.map fun s => .lit (.string s))) :: rest) W) (i : Nat) (s : List UInt8) (hs : ss[i]? = some s) : W.cell? ⟨g, i, none⟩ = some (.string ⟨s.toArray⟩) := by
  obtain ⟨ps, ⟨g', t', cs, fuel, p, q, hg', ht', hvar, hd, _, _⟩, _⟩ := h
  obtain rfl := Option.some.inj (hg.symm.trans hg')
  obtain rfl := Option.some.inj (hty.symm.trans ht')
  rw [World.var?_cell hg hvar i]
  have := cells_of_texts ht he hce hct hd i s hs
  simpa using this
theorem g0 : Tryd.prog.globalNamed "coffer/header.magics" = some 0 := by kernel_rfl
theorem g1 : Tryd.prog.globalNamed "coffer/cofferref01.squares" = some 1 := by kernel_rfl
theorem g2 : Tryd.prog.globalNamed "coffer/cofferref01.cubes" = some 2 := by kernel_rfl
theorem g4 : Tryd.prog.globalNamed "coffer/digest.squares" = some 4 := by kernel_rfl
theorem g5 : Tryd.prog.globalNamed "coffer/digest.cubes" = some 5 := by kernel_rfl
theorem t0 : (Tryd.prog.globals[0]?).map (·.type) = some 70 := by kernel_rfl
theorem c70 : Tryd.prog.cellsOf 70 = 2 := by kernel_rfl
theorem c9 : Tryd.prog.cellsOf 9 = 1 := by kernel_rfl
theorem c22 : Tryd.prog.cellsOf 22 = 1 := by kernel_rfl
def magicTab : List (List UInt8) := [[76, 85, 75, 83, 186, 190], [83, 75, 85, 76, 186, 190]]
theorem y1 : (Tryd.prog.globals[1]?).map (·.type) = some 89 := by kernel_rfl
theorem y2 : (Tryd.prog.globals[2]?).map (·.type) = some 92 := by kernel_rfl
theorem y4 : (Tryd.prog.globals[4]?).map (·.type) = some 89 := by kernel_rfl
theorem y5 : (Tryd.prog.globals[5]?).map (·.type) = some 92 := by kernel_rfl
theorem c89 : Tryd.prog.cellsOf 89 = 16 := by kernel_rfl
theorem c92 : Tryd.prog.cellsOf 92 = 80 := by kernel_rfl
theorem ref_tab {W : World} (hc : Lib.TabIs Tryd.prog W "coffer/cofferref01.cubes" .u64 cubTab) (hs : Lib.TabIs Tryd.prog W "coffer/cofferref01.squares" .u64 sqTab) : RefTab kf x0 W := by
  have h2 : ∀ t, t < 64 → W.cell? ⟨2, t, none⟩ = some (.int .u64 (cubTab.getD t 0)) := fun t ht => hc.cell g2 t (by rw [cub_len]; omega)
  exact ⟨⟨fun t => sqTab.getD t 0, sq_ok, fun t ht => hs.cell g1 t (by rw [sq_len]; omega)⟩, ⟨fun t => cubTab.getD t 0, cub_ok, h2⟩, World.block_lt_of_cell? W _ (h2 0 (by omega))⟩
theorem dig_tab {W : World} (hc : Lib.TabIs Tryd.prog W "coffer/digest.cubes" .u64 cubTab) (hs : Lib.TabIs Tryd.prog W "coffer/digest.squares" .u64 sqTab) : DigTab kf x0 W := by
  have h5 : ∀ t, t < 64 → W.cell? ⟨5, t, none⟩ = some (.int .u64 (cubTab.getD t 0)) := fun t ht => hc.cell g5 t (by rw [cub_len]; omega)
  exact ⟨⟨fun t => sqTab.getD t 0, sq_ok, fun t ht => hs.cell g4 t (by rw [sq_len]; omega)⟩, ⟨fun t => cubTab.getD t 0, cub_ok, h5⟩, World.block_lt_of_cell? W _ (h5 0 (by omega))⟩
theorem head_tab {W : World} {rest : List (String × DataW Unit)} (h : laidMet Tryd.prog (("coffer/header.magics", .agg (magicTab.map fun s => .lit (.string s))) :: rest) W) : HeadTab W :=
  ⟨texts_of_head g0 t0 Tryd.underlying70 Tryd.underlying9 c9 c70 h 0 _ rfl, texts_of_head g0 t0 Tryd.underlying70 Tryd.underlying9 c9 c70 h 1 _ rfl⟩
theorem tab_cub {W : World} {name : String} {rest : List (String × DataW Unit)} {g : Nat} (hg : Tryd.prog.globalNamed name = some g) (ht : (Tryd.prog.globals[g]?).map (·.type) = some 92) (h : laidMet Tryd.prog ((name, Lib.tabData .u64 cubTab) :: rest) W) : Lib.TabIs Tryd.prog W name .u64 cubTab :=
  Lib.tabIs_of_head hg ht Tryd.underlying92 Tryd.underlying22 c22 c92 h
theorem tab_sq {W : World} {name : String} {rest : List (String × DataW Unit)} {g : Nat} (hg : Tryd.prog.globalNamed name = some g) (ht : (Tryd.prog.globals[g]?).map (·.type) = some 89) (h : laidMet Tryd.prog ((name, Lib.tabData .u64 sqTab) :: rest) W) : Lib.TabIs Tryd.prog W name .u64 sqTab :=
  Lib.tabIs_of_head hg ht Tryd.underlying89 Tryd.underlying22 c22 c89 h
end Go.Proofs.YtglcapkmeecknaaDoor.tabs
