/- What lies where: probe.spots. (Written by gspd.py.) Metadata that may be: what lies on the device goes through it without a gap. Plain words. probe.Spots: metadata's faults, or what lies on its device. (Merged by merge.py.) -/
import Derived.Test.YtpmbfibjldnaiaaGreatDoorMK
import Derived.BigQuiet
/-! ## SpotD -/
namespace Go.Proofs.YtpmbfibjldnaiaaGreatDoor.spotd
open Go Go.RowKit Go.Proofs.YtpmbfibjldnaiaaGreatDoor.shapea Go.Proofs.YtpmbfibjldnaiaaGreatDoor.rota Go.Proofs.YtpmbfibjldnaiaaGreatDoor.sega Go.Proofs.YtpmbfibjldnaiaaGreatDoor.segc Go.Proofs.YtpmbfibjldnaiaaGreatDoor.rula Go.Proofs.YtpmbfibjldnaiaaGreatDoor.checka Go.Proofs.YtpmbfibjldnaiaaGreatDoor.covp Go.Proofs.YtpmbfibjldnaiaaGreatDoor.spota Go.Proofs.YtpmbfibjldnaiaaGreatDoor.spotb Go.Proofs.YtpmbfibjldnaiaaGreatDoor.spotc Go.Proofs.YtpmbfibjldnaiaaGreatDoor.PProbeSpots Go.Proofs.YtpmbfibjldnaiaaGreatDoorW.PrintWords
set_option linter.unusedVariables false
set_option linter.unusedSimpArgs false
theorem bsp_of : ∀ (l : List Sp), (∀ p ∈ l, 0 ≤ p.s ∧ p.s ≤ 1099511627776) → ∃ lb : List BSp, lb.map (·.1) = l
  | [], _ => ⟨[], rfl⟩
  | p :: t, h => by
    obtain ⟨lb, hl⟩ := bsp_of t (fun q hq => h q (List.mem_cons_of_mem _ hq))
    exact ⟨⟨p, h p (List.mem_cons_self ..)⟩ :: lb, by simp [hl]⟩
theorem div_bd {u x : Int} (u1 : 512 ≤ u) (h0 : 0 ≤ x) (h1 : x ≤ 1099511627776) : 0 ≤ x / u ∧ x / u ≤ 1099511627776 := by
  refine ⟨Int.ediv_nonneg h0 (by omega), ?_⟩
  exact Int.le_trans (Int.ediv_le_self u h0) h1
theorem spotOf_bd {u nx sl off size : Int} (u1 : 512 ≤ u) (h : 0 ≤ off ∧ off ≤ 1099511627776) : 0 ≤ (spotOf u nx sl off size).s ∧ (spotOf u nx sl off size).s ≤ 1099511627776 := by
  unfold spotOf
  split <;> exact div_bd u1 h.1 h.2
theorem spotOf_bc {u nx sl off size : Int} (u1 : 512 ≤ u) (h : 0 ≤ size ∧ size ≤ 1099511627776) : 0 ≤ (spotOf u nx sl off size).c ∧ (spotOf u nx sl off size).c ≤ 1099511627776 := by
  unfold spotOf
  split <;> exact div_bd u1 h.1 h.2
theorem noteOf_bc {u nx : Int} {s : S53} (u1 : 512 ≤ u) (h : 0 ≤ s.f7.f1 ∧ s.f7.f1 ≤ 1099511627776) : 0 ≤ (noteOf u nx s).c ∧ (noteOf u nx s).c ≤ 1099511627776 := spotOf_bc u1 h
theorem noteOf_bd {u nx : Int} {s : S53} (u1 : 512 ≤ u) (h : 0 ≤ s.f7.f0 ∧ s.f7.f0 ≤ 1099511627776) : 0 ≤ (noteOf u nx s).s ∧ (noteOf u nx s).s ≤ 1099511627776 := spotOf_bd u1 h
def segT (g : S65) : Int × Int × Int := (g.f0, g.f1, g.f2)
/-- A row of what lies somewhere, at block g. -/
structure SpotsAt (w : World) (g : Nat) (l : List Sp) : Prop where
  at_ : ∀ i p, l[i]? = some p → ∀ c v, (encS p)[c]? = some v → w.cell? ⟨g, i * 4 + c, none⟩ = some v
  lt : g < w.heap.size
theorem SpotsAt.below {w w' : World} {g : Nat} {l : List Sp} (h : SpotsAt w g l) (hb : Below w.heap.size w w') (hg : g < w.heap.size) : SpotsAt w' g l :=
  ⟨fun i p hp c v hv => (hb.cell (p := ⟨g, i * 4 + c, none⟩) hg).trans (h.at_ i p hp c v hv), Nat.lt_of_lt_of_le h.lt hb.size⟩
theorem len_own {w : World} {b : Nat} {v : Value} {L : List Sp} {p : Sp} {xs : List Value} (h : w.ownsRow b 44 4 v (L ++ [p]).length xs) : w.ownsRow b 44 4 v (L.length + 1) xs := by
  rw [List.length_append] at h
  exact h
theorem own_base {w : World} {b n size : Nat} {e : TypeId} {v : Value} {xs : List Value} (h : w.ownsRow (b + 2) e size v n xs) : w.ownsRow b e size v n xs := by
  obtain ⟨h1, h2⟩ := h
  rcases h2 with h2 | ⟨g, cap, cur, q1, q2, q3⟩
  · exact ⟨h1, .inl h2⟩
  · exact ⟨h1, .inr ⟨g, cap, cur, q1, by omega, q3⟩⟩
theorem fold_len : ∀ (d : List Sp) (st : List Sp × Int), st.1.length ≤ (d.foldl stepS st).1.length
  | [], st => Nat.le_refl _
  | p :: t, st => by
    refine Nat.le_trans ?_ (fold_len t (stepS st p))
    have := free_len st.1 st.2 p.s
    unfold stepS
    split
    · exact this
    · rw [List.length_append]
      exact Nat.le_trans this (Nat.le_add_right _ _)
theorem laid_len (hd a E : Int) (d : List Sp) : 2 ≤ (laidS hd a E d).length := fold_len _ ([⟨1, 0, 0, hd⟩, ⟨2, 0, hd, hd⟩], a)
/-- A list that grows in blocks from H + 2 on, beside a row that stays. -/
structure LIn (W wr : World) (H g2 : Nat) (v : Value) (L P : List Sp) : Prop where
  own : wr.ownsRow (H + 2) 44 4 v L.length (cellsS L)
  ne : v.ownBlock ≠ some g2
  sp : SpotsAt wr g2 P
  below : Below (H + 2) W wr
  le : H + 2 ≤ wr.heap.size
theorem LIn.push {W wr X w' : World} {H g2 g' n cap : Nat} {v : Value} {L P : List Sp} (h : LIn W wr H g2 v L P) (p : Sp) (hn : n = L.length) (hX : Below wr.heap.size wr X) (q1 : w'.ownsRow (H + 2) 44 4 (.slice (some ⟨g', 0, none⟩) (n + 1) cap) (n + 1) (cellsS L ++ encS p)) (q2 : X.grownBy w' v.ownBlock) (q3 : v.ownBlock = some g' ∨ g' = X.heap.size) :
    LIn W w' H g2 (.slice (some ⟨g', 0, none⟩) (n + 1) cap) (L ++ [p]) P := by
  subst hn
  have hs := hX.size
  have hg2 := h.sp.lt
  refine ⟨by rw [cellsS_snoc, List.length_append]; exact q1, ?_, ?_, ?_, Nat.le_trans h.le (Nat.le_trans hs q2.size)⟩
  · show some g' ≠ some g2
    intro e
    have e := Option.some.inj e
    rcases q3 with q3 | q3
    · exact h.ne (by rw [q3, e])
    · omega
  · have hb : w'.heap[g2]? = wr.heap[g2]? := (q2.block g2 (by omega) (fun e => h.ne e.symm)).trans (hX.block g2 hg2)
    exact ⟨fun i p hp c v hv => by
      have := h.sp.at_ i p hp c v hv
      rw [← this]
      exact World.cell?_of_block (a := ⟨g2, i * 4 + c, none⟩) hb, by have := q2.size; omega⟩
  · exact (h.below.trans (hX.mono h.le)).grown q2 (by have := h.le; omega) (fun k hk => (h.own.lt k hk).1)
theorem LIn.alloc {W wr : World} {H g2 : Nat} {v : Value} {L P : List Sp} (h : LIn W wr H g2 v L P) (o : Obj) : LIn W (wr.alloc o) H g2 v L P := ⟨h.own.alloc o, h.ne, h.sp.below (b_alloc wr o) h.sp.lt, h.below.alloc h.le o, by have := h.le; simp; omega⟩
theorem LIn.newRow {W wr X : World} {H g2 g' n m cap : Nat} {v : Value} {L P : List Sp} (h : LIn W wr H g2 v L P) (q3 : v.ownBlock = some g' ∨ g' = X.heap.size) (hn : n = wr.heap.size) (hX : wr.heap.size < X.heap.size) : (Value.slice (some ⟨g', 0, none⟩) m cap).ownBlock ≠ some n := by
  show some g' ≠ some n
  intro e
  have e := Option.some.inj e
  rcases q3 with q3 | q3
  · have := (h.own.lt g' q3).2
    omega
  · omega
/-- A block of the round's own stays behind an append. -/
theorem LIn.var {W wr X w' : World} {H g2 n : Nat} {v : Value} {L P : List Sp} {o : Obj} (h : LIn W wr H g2 v L P) (q2 : X.grownBy w' v.ownBlock) (hn : wr.heap.size ≤ n) (ho : X.heap[n]? = some o) : w'.heap[n]? = some o :=
  (q2.block n (Array.getElem?_eq_some_iff.1 ho).1 (fun e => by have := (h.own.lt n e.symm).2; omega)).trans ho
/-- What lies on a device: the areas noted, in some order of where they begin, with what is free between them, and the data. -/
def SpotsIs (hd a E : Int) (cl : List Sp) (sg : List (Int × Int × Int)) (L : List Sp) : Prop := ∃ l' : List Sp, l'.Perm cl ∧ l'.Pairwise (fun p q => p.s ≤ q.s) ∧ L = laidS hd a E l' ++ dataS E sg
def SpotsEnd (w : World) (hd a E : Int) (cl : List Sp) (sg : List (Int × Int × Int)) (e : Ending) (w' : World) : Prop :=
  ∃ (g cap : Nat) (L : List Sp), SpotsIs hd a E cl sg L ∧ e = .returned (.slice (some ⟨g, 0, none⟩) L.length cap) ∧ w'.ownsRow w.heap.size 44 4 (.slice (some ⟨g, 0, none⟩) L.length cap) L.length (cellsS L) ∧ Below w.heap.size w w'
set_option maxHeartbeats 16000000 in
set_option maxRecDepth 100000 in
theorem spots_off (v0 v1 v2 v3 v5 v8 v9 v10 v12 v26 : Value) (u h k : Int) (A B : Option Addr) (c cB : Nat) (l : List S53) (sg : List S65) (r : RotV) (w : World) (hR : Kd.C k53 w A l.length l) (hl1 : 1 ≤ l.length) (hl : l.length ≤ 1000) (hG : Kd.C k65 w B sg.length sg) (hsg : sg.length ≤ 1000) (hsb : ∀ g ∈ sg, 0 ≤ g.f0 ∧ g.f0 ≤ 1099511627776) (u1 : 512 ≤ u) (u2 : u ≤ 4096) (h1 : 16384 ≤ h) (h2 : h ≤ 4194304) (k1 : 4096 ≤ k) (k2 : k ≤ 134217728) (hb : ∀ s ∈ l, (0 ≤ s.f0 ∧ s.f0 ≤ 1000000) ∧ (0 ≤ s.f7.f0 ∧ s.f7.f0 ≤ 1099511627776) ∧ 0 ≤ s.f7.f1 ∧ s.f7.f1 ≤ 1099511627776) :
    Calls Tryz.prog 12 #[.agg #[v0, v1, v2, v3, .int .i64 u, v5, .int .i64 h, .int .i64 k, v8, v9, v10, .slice A l.length c, v12, .slice B sg.length cB, .bool false, .int .u64 r.fr, .int .u64 r.nx, .bool r.back, .int .i64 r.mode, .int .u64 r.hot, .int .u64 r.dn, .int .i64 r.off, .int .i64 r.size, .bool r.act, .int .u64 r.cnt, .string r.sum, v26]] w (SpotsEnd w (h / u) (2 * h / u) ((2 * h + k) / u) (l.map (noteOf u r.nx)) (sg.map segT)) := by
  have hmf : ∀ (fn : Fn) (first cap : Array Value) (w : World), (Instr.makeFunc fn first cap).run Tryz.prog w = .ok (.func fn first cap) w := fun _ _ _ _ => rfl
  have HNM := Aside0.mk (blk_new w (.cells #[v0, v1, v2, v3, .int .i64 u, v5, .int .i64 h, .int .i64 k, v8, v9, v10, .slice A l.length c, v12, .slice B sg.length cB, .bool false, .int .u64 r.fr, .int .u64 r.nx, .bool r.back, .int .i64 r.mode, .int .u64 r.hot, .int .u64 r.dn, .int .i64 r.off, .int .i64 r.size, .bool r.act, .int .u64 r.cnt, .string r.sum, v26] 36))
  have HZ := Aside0.mk (b_alloc w (.cells #[v0, v1, v2, v3, .int .i64 u, v5, .int .i64 h, .int .i64 k, v8, v9, v10, .slice A l.length c, v12, .slice B sg.length cB, .bool false, .int .u64 r.fr, .int .u64 r.nx, .bool r.back, .int .i64 r.mode, .int .u64 r.hot, .int .u64 r.dn, .int .i64 r.off, .int .i64 r.size, .bool r.act, .int .u64 r.cnt, .string r.sum, v26] 36))
  have HIN : Aside0 ((Tryz.prog.info? 36).map (fun i => i.size) = some (#[v0, v1, v2, v3, .int .i64 u, v5, .int .i64 h, .int .i64 k, v8, v9, v10, .slice A l.length c, v12, .slice B sg.length cB, .bool false, .int .u64 r.fr, .int .u64 r.nx, .bool r.back, .int .i64 r.mode, .int .u64 r.hot, .int .u64 r.dn, .int .i64 r.off, .int .i64 r.size, .bool r.act, .int .u64 r.cnt, .string r.sum, v26]).size) := ⟨info36⟩
  have hu0 : (u == 0) = false := by simp; omega
  have HR := Aside0.mk hR
  have HG := Aside0.mk hG
  have HB := Aside0.mk hb
  have HSB := Aside0.mk hsb
  clear hR hG hb hsb
  go_enter Tryz.func12, Tryz.ntmps12
  go_wp2_with fail
  go_quiet (fail)
  go_wp2_with fail
  go_region
  have hbk := blk_alloc (blk_alloc (blk_drewN (blk_alloc HNM.out (.cells #[.int .u64 u] 22)) (nq + 1)) (.cells #[.int .i64 1, .int .u64 0, .int .u64 0, .int .u64 (h / u), .int .i64 2, .int .u64 0, .int .u64 (h / u), .int .u64 (h / u)] 44)) (.cells #[.slice none 0 0] 37)
  have hbu := blk_alloc (blk_alloc (blk_drewN (blk_new' (w.alloc (.cells #[v0, v1, v2, v3, .int .i64 u, v5, .int .i64 h, .int .i64 k, v8, v9, v10, .slice A l.length c, v12, .slice B sg.length cB, .bool false, .int .u64 r.fr, .int .u64 r.nx, .bool r.back, .int .i64 r.mode, .int .u64 r.hot, .int .u64 r.dn, .int .i64 r.off, .int .i64 r.size, .bool r.act, .int .u64 r.cnt, .string r.sum, v26] 36)) (.cells #[.int .u64 u] 22) (w.heap.size + 1) (by simp)) (nq + 1)) (.cells #[.int .i64 1, .int .u64 0, .int .u64 0, .int .u64 (h / u), .int .i64 2, .int .u64 0, .int .u64 (h / u), .int .u64 (h / u)] 44)) (.cells #[.slice none 0 0] 37)
  have hbl := blk_alloc (blk_new' (((w.alloc (.cells #[v0, v1, v2, v3, .int .i64 u, v5, .int .i64 h, .int .i64 k, v8, v9, v10, .slice A l.length c, v12, .slice B sg.length cB, .bool false, .int .u64 r.fr, .int .u64 r.nx, .bool r.back, .int .i64 r.mode, .int .u64 r.hot, .int .u64 r.dn, .int .i64 r.off, .int .i64 r.size, .bool r.act, .int .u64 r.cnt, .string r.sum, v26] 36)).alloc (.cells #[.int .u64 u] 22)).drewN (nq + 1)) (.cells #[.int .i64 1, .int .u64 0, .int .u64 0, .int .u64 (h / u), .int .i64 2, .int .u64 0, .int .u64 (h / u), .int .u64 (h / u)] 44) (w.heap.size + 2) (by simp)) (.cells #[.slice none 0 0] 37)
  have hbc := blk_new' ((((w.alloc (.cells #[v0, v1, v2, v3, .int .i64 u, v5, .int .i64 h, .int .i64 k, v8, v9, v10, .slice A l.length c, v12, .slice B sg.length cB, .bool false, .int .u64 r.fr, .int .u64 r.nx, .bool r.back, .int .i64 r.mode, .int .u64 r.hot, .int .u64 r.dn, .int .i64 r.off, .int .i64 r.size, .bool r.act, .int .u64 r.cnt, .string r.sum, v26] 36)).alloc (.cells #[.int .u64 u] 22)).drewN (nq + 1)).alloc (.cells #[.int .i64 1, .int .u64 0, .int .u64 0, .int .u64 (h / u), .int .i64 2, .int .u64 0, .int .u64 (h / u), .int .u64 (h / u)] 44)) (.cells #[.slice none 0 0] 37) (w.heap.size + 3) (by simp)
  have hbw : Below w.heap.size w (((((w.alloc (.cells #[v0, v1, v2, v3, .int .i64 u, v5, .int .i64 h, .int .i64 k, v8, v9, v10, .slice A l.length c, v12, .slice B sg.length cB, .bool false, .int .u64 r.fr, .int .u64 r.nx, .bool r.back, .int .i64 r.mode, .int .u64 r.hot, .int .u64 r.dn, .int .i64 r.off, .int .i64 r.size, .bool r.act, .int .u64 r.cnt, .string r.sum, v26] 36)).alloc (.cells #[.int .u64 u] 22)).drewN (nq + 1)).alloc (.cells #[.int .i64 1, .int .u64 0, .int .u64 0, .int .u64 (h / u), .int .i64 2, .int .u64 0, .int .u64 (h / u), .int .u64 (h / u)] 44)).alloc (.cells #[.slice none 0 0] 37)) :=
    ((below_dn (HZ.out.alloc (by simp) _) _).alloc (by simp; omega) _).alloc (by simp; omega) _
  have HBK := Aside0.mk hbk
  have HBU := Aside0.mk hbu
  have HBL := Aside0.mk hbl
  have HBC := Aside0.mk hbc
  have HBW := Aside0.mk hbw
  clear hbk hbu hbl hbc hbw
  go_wp2_with ((with_reducible refine gateL (.load 36 (.tmp 1)) rfl ?_); refine wpList_load_row rfl 36 (.tmp 1) rfl w.heap.size rfl 36 #[v0, v1, v2, v3, .int .i64 u, v5, .int .i64 h, .int .i64 k, v8, v9, v10, .slice A l.length c, v12, .slice B sg.length cB, .bool false, .int .u64 r.fr, .int .u64 r.nx, .bool r.back, .int .i64 r.mode, .int .u64 r.hot, .int .u64 r.dn, .int .i64 r.off, .int .i64 r.size, .bool r.act, .int .u64 r.cnt, .string r.sum, v26] (0, 0) _ HBK.out Tryz.underlying36 rfl HIN.out ?_)
  generalize hWd : (((((w.alloc (.cells #[v0, v1, v2, v3, .int .i64 u, v5, .int .i64 h, .int .i64 k, v8, v9, v10, .slice A l.length c, v12, .slice B sg.length cB, .bool false, .int .u64 r.fr, .int .u64 r.nx, .bool r.back, .int .i64 r.mode, .int .u64 r.hot, .int .u64 r.dn, .int .i64 r.off, .int .i64 r.size, .bool r.act, .int .u64 r.cnt, .string r.sum, v26] 36)).alloc (.cells #[.int .u64 u] 22)).drewN (nq + 1)).alloc (.cells #[.int .i64 1, .int .u64 0, .int .u64 0, .int .u64 (h / u), .int .i64 2, .int .u64 0, .int .u64 (h / u), .int .u64 (h / u)] 44)).alloc (.cells #[.slice none 0 0] 37)) = W at *
  clear hWd
  refine (areas_off (v0) (v1) (v2) (v3) (.int .i64 u) (v5) (.int .i64 h) (.int .i64 k) (v8) (v9) (v10) (v12) (.slice B sg.length cB) (v26) (w.heap.size + 1) w.heap.size (w.heap.size + 3) u r.nx A c l r w W HBC.out ((blk_cell HBU.out 0).trans rfl) ((blk_cell HBK.out 16).trans rfl) (by omega) (by omega) (by omega) HBW.out HR.out hl u1 u2 HB.out).mono ?_
  rintro e W1 ⟨rfl, v, hcl⟩
  obtain ⟨cl, hcd⟩ : ∃ cl, cl = l.map (noteOf u r.nx) := ⟨_, rfl⟩
  have hclb : ∀ p ∈ cl, 0 ≤ p.s ∧ p.s ≤ 1099511627776 := fun p hp => by
    rw [hcd] at hp
    obtain ⟨s, hs, rfl⟩ := List.mem_map.1 hp
    exact noteOf_bd u1 (HB.out s hs).2.1
  have hclc : ∀ p ∈ cl, 0 ≤ p.c ∧ p.c ≤ 1099511627776 := fun p hp => by
    rw [hcd] at hp
    obtain ⟨s, hs, rfl⟩ := List.mem_map.1 hp
    exact noteOf_bc u1 (HB.out s hs).2.2
  rw [← hcd] at hcl ⊢
  have hcn : 1 ≤ cl.length ∧ cl.length ≤ 1001 := by rw [hcd]; simp; omega
  obtain ⟨lb, hlb⟩ := bsp_of cl hclb
  have HCD := Aside0.mk (hlb.trans hcd)
  subst hlb
  clear hcd hclb
  have HCC := Aside0.mk hclc
  clear hclc
  have hown := hcl.own
  simp only [List.length_map] at hown hcn
  obtain ⟨g, cap, hv, hg1, hg2⟩ := hown.form (by omega)
  subst hv
  have cv : W1.cell? ⟨w.heap.size + 3, 0, none⟩ = some (.slice (some ⟨g, 0, none⟩) lb.length cap) := (blk_cell hcl.at_ 0).trans rfl
  have HCL := Aside0.mk hcl
  have HSO := Aside0.mk (sort_call (w.heap.size + 3 + 1) g cap lb W1 hown (by omega))
  clear hcl hown
  go_wp2_with fail
  refine HSO.out.mono ?_
  rintro e W2 ⟨l', rfl, hpm, hst, hown2, hgr⟩
  have hlt2 : w.heap.size + 3 < W1.heap.size := blk_lt HCL.out.at_
  have hb12 : Below (w.heap.size + 4) W1 W2 := ⟨hgr.os, hgr.tape, hgr.output, hgr.size, fun i hi => hgr.block i (by omega) (fun e => by have := Option.some.inj e; omega)⟩
  have HB2 : Aside0 (Below (w.heap.size + 3) W W2) := ⟨HCL.out.below.trans (hb12.mono (by omega))⟩
  have cv2 : W2.cell? ⟨w.heap.size + 3, 0, none⟩ = some (.slice (some ⟨g, 0, none⟩) lb.length cap) := (hb12.cell (by show w.heap.size + 3 < _; omega)).trans cv
  have cu2 : W2.cell? ⟨w.heap.size + 1, 0, none⟩ = some (.int .u64 u) := (HB2.out.cell (by show w.heap.size + 1 < _; omega)).trans ((blk_cell HBU.out 0).trans rfl)
  have hlt22 : w.heap.size + 3 < W2.heap.size := by have := hgr.size; omega
  have HPM := Aside0.mk hpm
  have HST := Aside0.mk hst
  have HO2 := Aside0.mk hown2
  obtain ⟨i0, hi0, hz0, hs0, hb0⟩ := info_parts info44
  clear cv hpm hst hown2 hgr hb12
  have e1 : 0 ≤ 2 * h / u := Int.ediv_nonneg (by omega) (by omega)
  have e2 : 0 ≤ (2 * h + k) / u := Int.ediv_nonneg (by omega) (by omega)
  go_wp2_with fail
  go_quiet (fail)
  go_wp2_with (at_builtin; refine wpList_append_lies _ rfl (.tmp 53) (.tmp 56) 37 rfl (w.heap.size + 3 + 1) 44 i0 _ 4 32 Tryz.underlying37 hi0 hz0 hs0 hb0 rfl (by decide) _ lb.length _ rfl (HO2.out.alloc _) ⟨W2.heap.size, 0, none⟩ 1 1 (encS ⟨0, 0, (2 * h + k) / u, 0⟩) rfl rfl (World.news_of_block (blk_new' _ _ _ (by simp))) (encS_one _) (by decide) (by unfold maxLen; omega) (by omega) (by simp; omega) _ rfl ?_; intro g2 cap2 w3 q1 q2 q3 q4; have HO3 := Aside0.mk q1; have q2' : ((W2.drewN nq).alloc (.cells #[.int .i64 0, .int .u64 0, .int .u64 ((2 * h + k) / u), .int .u64 0] 44)).grownBy w3 (some g) := q2; have HG3 := Aside0.mk q2'; clear q1 q2 q2' q3 q4; generalize hN : lb.length + 1 = N at *; have HN := Aside0.mk hN; clear hN)
  have hpl : l'.length = lb.length := HPM.out.length_eq
  obtain ⟨P, hP⟩ : ∃ P : List Sp, P = l'.map (·.1) ++ [⟨0, 0, (2 * h + k) / u, 0⟩] := ⟨_, rfl⟩
  have HPD := Aside0.mk hP
  have HPN : Aside0 (P.length = N) := ⟨by rw [hP, ← HN.out]; simp [hpl]⟩
  have he2 : (2 * h + k) / u ≤ 1099511627776 := Int.le_trans (Int.ediv_le_self u (by omega)) (by omega)
  have he1 : 2 * h / u ≤ 1099511627776 := Int.le_trans (Int.ediv_le_self u (by omega)) (by omega)
  have HPB : Aside0 (∀ p ∈ P, (0 ≤ p.s ∧ p.s ≤ 1099511627776) ∧ 0 ≤ p.c ∧ p.c ≤ 1099511627776) := ⟨fun p hp => by
    rw [hP] at hp
    rcases List.mem_append.1 hp with hp | hp
    · obtain ⟨b, hb1, rfl⟩ := List.mem_map.1 hp
      exact ⟨b.2, HCC.out b.1 (List.mem_map_of_mem (HPM.out.subset hb1))⟩
    · rw [List.mem_singleton.1 hp]
      exact ⟨⟨e2, he2⟩, by show (0 : Int) ≤ 0; omega, by show (0 : Int) ≤ _; omega⟩⟩
  have hgg : w.heap.size + 3 + 1 ≤ g := hg1
  have HB3 : Aside0 (Below (w.heap.size + 3) W w3) := ⟨((below_dn HB2.out _).alloc (by show w.heap.size + 3 ≤ W2.heap.size; omega) _).grown HG3.out (by simp; omega) (fun q hq => by have := Option.some.inj hq; omega)⟩
  have hg2 : w.heap.size + 3 + 1 ≤ g2 ∧ g2 < w3.heap.size := HO3.out.lt g2 rfl
  have HL0 : Aside0 (LIn W w3 w.heap.size g2 (.slice (some ⟨w.heap.size + 2, 0, none⟩) 2 2) [⟨1, 0, 0, h / u⟩, ⟨2, 0, h / u, h / u⟩] P) := ⟨by
    have hblk := (HB3.out.block (w.heap.size + 2) (by omega)).trans HBL.out
    have hcl := HO3.out.cells (g := g2) rfl
    refine ⟨⟨rfl, .inr ⟨w.heap.size + 2, 2, _, rfl, Nat.le_refl _, hblk, Nat.le_refl _, by unfold maxLen; omega, rfl, rfl⟩⟩, ?_, ⟨fun i q hq c v hv => ?_, hg2.2⟩, HB3.out.mono (by omega), by omega⟩
    · show some (w.heap.size + 2) ≠ some g2
      intro e
      have := Option.some.inj e
      omega
    · have h1 := cellsS_at P i q c v hq hv
      rw [hP, cellsS_snoc] at h1
      have ea : (⟨g2, 0, none⟩ : Addr).add (i * 4 + c) = ⟨g2, i * 4 + c, none⟩ := by unfold Addr.add; split <;> simp_all
      rw [← ea]
      exact hcl _ _ h1⟩
  clear hP
  have hN1 : N ≤ 1002 := by rw [← HN.out]; omega
  go_loopg [6, 8, 59] (N + 1) (fun kq s6 s8 s59 wr => ∃ (i : Nat) (L : List Sp) (z : Int), Aside0 (s59 = .int .i64 (i : Int)) ∧ Aside0 (s8 = .int .u64 z) ∧ Aside0 (i ≤ N ∧ kq + i = N + 1) ∧ Aside0 ((P.take i).foldl stepS ([⟨1, 0, 0, h / u⟩, ⟨2, 0, h / u, h / u⟩], 2 * h / u) = (L, z)) ∧ Aside0 (0 ≤ z ∧ z ≤ 4398046511104) ∧ Aside0 (LIn W wr w.heap.size g2 s6 L P) ∧ Aside0 (L.length ≤ 2 + 2 * i))
  case atStart => exact ⟨0, _, _, ⟨rfl⟩, ⟨rfl⟩, ⟨by omega⟩, ⟨rfl⟩, ⟨by omega⟩, HL0, ⟨Nat.le_refl _⟩⟩
  case round =>
    obtain ⟨i, L, z, H59, H8, HI, HF, HZZ, HL, HLL⟩ := hrel
    obtain rfl := H59.out
    obtain rfl := H8.out
    obtain ⟨hi, hk⟩ := HI.out
    obtain ⟨z0, z1⟩ := HZZ.out
    have hll := HLL.out
    have HQ := Aside0.mk hk
    clear hk
    have hle := HL.out.le
    by_cases hlt : i < N
    · have hlt2 : i < P.length := by rw [HPN.out]; exact hlt
      obtain ⟨p, hp⟩ : ∃ p, P[i] = p := ⟨_, rfl⟩
      have hps : P[i]? = some p := by rw [List.getElem?_eq_getElem hlt2, hp]
      have c0 := HL.out.sp.at_ i p hps 0 _ rfl
      have c1 := HL.out.sp.at_ i p hps 1 _ rfl
      have c2 := HL.out.sp.at_ i p hps 2 _ rfl
      have c3 := HL.out.sp.at_ i p hps 3 _ rfl
      rw [Nat.add_zero] at c0
      obtain ⟨⟨b1, b2⟩, b3, b4⟩ := HPB.out p (List.mem_of_getElem? hps)
      have HFS : Aside0 ((P.take (i + 1)).foldl stepS ([⟨1, 0, 0, h / u⟩, ⟨2, 0, h / u, h / u⟩], 2 * h / u) = stepS (L, z) p) := ⟨by rw [ara.take_snoc' P i hlt2, List.foldl_append, HF.out, hp]; rfl⟩
      have g0 : (0 : Int) ≤ (i : Int) := by omega
      clear hps hp
      by_cases a1 : z < p.s
      · have a1' : decide (z < p.s) = true := decide_eq_true a1
        by_cases a2 : p.k = 0
        · have a2' : (p.k != 0) = false := by simp [a2]
          have HST2 : Aside0 (stepS (L, z) p = (L ++ [⟨5, 0, z, p.s - z⟩], z)) := ⟨by unfold stepS; rw [if_pos a2, if_pos a1]⟩
          have a3 : 0 ≤ p.s - z := by omega
          clear a2
          go_wp2_with (first | (at_builtin; refine wpList_append_lies _ rfl (.tmp 67) (.tmp 74) 37 rfl (w.heap.size + 2) 44 i0 _ 4 32 Tryz.underlying37 hi0 hz0 hs0 hb0 rfl (by decide) _ L.length _ rfl ((HL.out.own.alloc _).alloc _) ⟨wr.heap.size + 1, 0, none⟩ 1 1 (encS ⟨5, 0, z, p.s - z⟩) rfl rfl (World.news_of_block (blk_new' _ _ _ (by simp))) (encS_one _) (by decide) (by unfold maxLen; omega) (by omega) (by simp; omega) _ rfl ?_; intro g4 cap4 w4 q1 q2 q3 q4; have L4 := Aside0.mk (HL.out.push ⟨5, 0, z, p.s - z⟩ rfl ((b_alloc wr _).alloc (by simp) _) q1 q2 q3); have O4 := Aside0.mk (len_own L4.out.own); have K4 := Aside0.mk (HL.out.var q2 (Nat.le_refl _) (blk_alloc (blk_new wr (.cells #[.int .i64 p.k, .int .u64 p.n, .int .u64 p.s, .int .u64 p.c] 44)) _)); have r0 : w4.cell? ⟨wr.heap.size, 0, none⟩ = some (.int .i64 p.k) := (blk_cell K4.out 0).trans rfl; have r1 : w4.cell? ⟨wr.heap.size, 1, none⟩ = some (.int .u64 p.n) := (blk_cell K4.out 1).trans rfl; have r2 : w4.cell? ⟨wr.heap.size, 2, none⟩ = some (.int .u64 p.s) := (blk_cell K4.out 2).trans rfl; have r3 : w4.cell? ⟨wr.heap.size, 3, none⟩ = some (.int .u64 p.c) := (blk_cell K4.out 3).trans rfl; have hw4 : wr.heap.size < w4.heap.size := blk_lt K4.out; have K4N : Aside0 ((Value.slice (some ⟨g4, 0, none⟩) (L.length + 1) cap4).ownBlock ≠ some wr.heap.size) := ⟨LIn.newRow HL.out q3 rfl (by simp; omega)⟩; clear q1 q2 q3 q4) | fail)
          go_roundg (N - i)
          case rel => exact ⟨i + 1, _, z, ⟨by go_num⟩, ⟨rfl⟩, ⟨by omega, by omega⟩, ⟨by rw [HFS.out, HST2.out]⟩, HZZ, L4, ⟨by rw [List.length_append]; simp; omega⟩⟩
          case measure => have := HQ.out; omega
        · have a2' : (p.k != 0) = true := by simp [a2]
          have HST2 : Aside0 (stepS (L, z) p = (L ++ [⟨5, 0, z, p.s - z⟩] ++ [p], p.s + p.c)) := ⟨by unfold stepS; rw [if_neg a2, if_pos a1]⟩
          have a3 : 0 ≤ p.s - z := by omega
          clear a2
          go_wp2_with (first | (at_builtin; refine wpList_append_lies _ rfl (.tmp 67) (.tmp 74) 37 rfl (w.heap.size + 2) 44 i0 _ 4 32 Tryz.underlying37 hi0 hz0 hs0 hb0 rfl (by decide) _ L.length _ rfl ((HL.out.own.alloc _).alloc _) ⟨wr.heap.size + 1, 0, none⟩ 1 1 (encS ⟨5, 0, z, p.s - z⟩) rfl rfl (World.news_of_block (blk_new' _ _ _ (by simp))) (encS_one _) (by decide) (by unfold maxLen; omega) (by omega) (by simp; omega) _ rfl ?_; intro g4 cap4 w4 q1 q2 q3 q4; have L4 := Aside0.mk (HL.out.push ⟨5, 0, z, p.s - z⟩ rfl ((b_alloc wr _).alloc (by simp) _) q1 q2 q3); have O4 := Aside0.mk (len_own L4.out.own); have K4 := Aside0.mk (HL.out.var q2 (Nat.le_refl _) (blk_alloc (blk_new wr (.cells #[.int .i64 p.k, .int .u64 p.n, .int .u64 p.s, .int .u64 p.c] 44)) _)); have r0 : w4.cell? ⟨wr.heap.size, 0, none⟩ = some (.int .i64 p.k) := (blk_cell K4.out 0).trans rfl; have r1 : w4.cell? ⟨wr.heap.size, 1, none⟩ = some (.int .u64 p.n) := (blk_cell K4.out 1).trans rfl; have r2 : w4.cell? ⟨wr.heap.size, 2, none⟩ = some (.int .u64 p.s) := (blk_cell K4.out 2).trans rfl; have r3 : w4.cell? ⟨wr.heap.size, 3, none⟩ = some (.int .u64 p.c) := (blk_cell K4.out 3).trans rfl; have hw4 : wr.heap.size < w4.heap.size := blk_lt K4.out; have K4N : Aside0 ((Value.slice (some ⟨g4, 0, none⟩) (L.length + 1) cap4).ownBlock ≠ some wr.heap.size) := ⟨LIn.newRow HL.out q3 rfl (by simp; omega)⟩; clear q1 q2 q3 q4) | (at_builtin; refine wpList_append_lies _ rfl (.tmp 79) (.tmp 81) 37 rfl (w.heap.size + 2) 44 i0 _ 4 32 Tryz.underlying37 hi0 hz0 hs0 hb0 rfl (by decide) _ (L.length + 1) _ rfl (O4.out.alloc _) ⟨w4.heap.size, 0, none⟩ 1 1 (encS p) rfl rfl (World.news_of_block (blk_new' _ _ _ (by simp))) (encS_one _) (by decide) (by unfold maxLen; omega) (by omega) (by simp; omega) _ rfl ?_; intro g5 cap5 w5 q1 q2 q3 q4; have L5 := Aside0.mk (L4.out.push p (by simp) (b_alloc w4 _) q1 q2 q3); have K5 := Aside0.mk ((q2.block wr.heap.size (by simp; omega) (fun e => by rcases (L4.out.own.lt wr.heap.size e.symm) with ⟨x1, x2⟩; exact K4N.out (e.symm))).trans (blk_alloc K4.out _)); have r2' : w5.cell? ⟨wr.heap.size, 2, none⟩ = some (.int .u64 p.s) := (blk_cell K5.out 2).trans rfl; have r3' : w5.cell? ⟨wr.heap.size, 3, none⟩ = some (.int .u64 p.c) := (blk_cell K5.out 3).trans rfl; clear q1 q2 q3 q4) | fail)
          go_roundg (N - i)
          case rel => exact ⟨i + 1, _, p.s + p.c, ⟨by go_num⟩, ⟨rfl⟩, ⟨by omega, by omega⟩, ⟨by rw [HFS.out, HST2.out]⟩, ⟨by omega⟩, L5, ⟨by simp only [List.length_append, List.length_cons, List.length_nil]; omega⟩⟩
          case measure => have := HQ.out; omega
      · have a1' : decide (z < p.s) = false := decide_eq_false a1
        by_cases a2 : p.k = 0
        · have a2' : (p.k != 0) = false := by simp [a2]
          have HST2 : Aside0 (stepS (L, z) p = (L, z)) := ⟨by unfold stepS; rw [if_pos a2, if_neg a1]⟩
          clear a1 a2
          go_wp2_with fail
          go_roundg (N - i)
          case rel => exact ⟨i + 1, L, z, ⟨by go_num⟩, ⟨rfl⟩, ⟨by omega, by omega⟩, ⟨by rw [HFS.out, HST2.out]⟩, HZZ, ⟨HL.out.alloc _⟩, ⟨by omega⟩⟩
          case measure => have := HQ.out; omega
        · have a2' : (p.k != 0) = true := by simp [a2]
          have HST2 : Aside0 (stepS (L, z) p = (L ++ [p], p.s + p.c)) := ⟨by unfold stepS; rw [if_neg a2, if_neg a1]⟩
          clear a1 a2
          go_wp2_with (first | (at_builtin; refine wpList_append_lies _ rfl (.tmp 79) (.tmp 81) 37 rfl (w.heap.size + 2) 44 i0 _ 4 32 Tryz.underlying37 hi0 hz0 hs0 hb0 rfl (by decide) _ L.length _ rfl ((HL.out.own.alloc _).alloc _) ⟨wr.heap.size + 1, 0, none⟩ 1 1 (encS p) rfl rfl (World.news_of_block (blk_new' _ _ _ (by simp))) (encS_one _) (by decide) (by unfold maxLen; omega) (by omega) (by simp; omega) _ rfl ?_; intro g5 cap5 w5 q1 q2 q3 q4; have L5 := Aside0.mk (HL.out.push p rfl ((b_alloc wr _).alloc (by simp) _) q1 q2 q3); have K5 := Aside0.mk (HL.out.var q2 (Nat.le_refl _) (blk_alloc (blk_new wr (.cells #[.int .i64 p.k, .int .u64 p.n, .int .u64 p.s, .int .u64 p.c] 44)) _)); have r2' : w5.cell? ⟨wr.heap.size, 2, none⟩ = some (.int .u64 p.s) := (blk_cell K5.out 2).trans rfl; have r3' : w5.cell? ⟨wr.heap.size, 3, none⟩ = some (.int .u64 p.c) := (blk_cell K5.out 3).trans rfl; clear q1 q2 q3 q4) | fail)
          go_roundg (N - i)
          case rel => exact ⟨i + 1, _, p.s + p.c, ⟨by go_num⟩, ⟨rfl⟩, ⟨by omega, by omega⟩, ⟨by rw [HFS.out, HST2.out]⟩, ⟨by omega⟩, L5, ⟨by simp only [List.length_append, List.length_cons, List.length_nil]; omega⟩⟩
          case measure => have := HQ.out; omega
    · obtain rfl : i = N := by omega
      have m13 : wr.cell? ⟨w.heap.size, 13, none⟩ = some (.slice B sg.length cB) := (blk_cell ((HL.out.below.block _ (by omega)).trans HBK.out) 13).trans rfl
      have HLA : Aside0 (laidS (h / u) (2 * h / u) ((2 * h + k) / u) (l'.map (·.1)) = L) := ⟨by
        unfold laidS
        have := HF.out
        rw [List.take_of_length_le (by rw [HPN.out]; exact Nat.le_refl _), HPD.out] at this
        rw [this]⟩
      have HD0 : Aside0 (LIn W wr w.heap.size g2 _ (L ++ dataS ((2 * h + k) / u) ((sg.take 0).map segT)) P) := ⟨by
        have := HL.out
        simpa [dataS] using this⟩
      go_wp2_with fail
      obtain ⟨wo, rfl⟩ : ∃ wo : World, wo = wr := ⟨_, rfl⟩
      go_loopg [6, 92] (sg.length + 1) (fun kq s6 s92 wr => ∃ (i : Nat), Aside0 (s92 = .int .i64 (i : Int)) ∧ Aside0 (i ≤ sg.length ∧ kq + i = sg.length + 1) ∧ Aside0 (LIn W wr w.heap.size g2 s6 (L ++ dataS ((2 * h + k) / u) ((sg.take i).map segT)) P))
      case atStart => exact ⟨0, ⟨rfl⟩, ⟨by omega⟩, HD0⟩
      case round =>
        obtain ⟨j, H92, HJ, HL2⟩ := hrel
        obtain rfl := H92.out
        obtain ⟨hj, hkj⟩ := HJ.out
        have HQJ := Aside0.mk hkj
        clear hkj
        have hle2 := HL2.out.le
        have HWW : Aside0 (Below w.heap.size w wr) := ⟨HBW.out.trans (HL2.out.below.mono (by omega))⟩
        by_cases hjl : j < sg.length
        · obtain ⟨ad, e, d0, d1, d2⟩ := at_T65 HG.out (j : Int) (by omega) (by omega)
          have hx : rd_T65 sg (j : Int) = sg[j] := by
            unfold rd_T65
            rw [Int.toNat_natCast, List.getD_eq_getElem?_getD, List.getElem?_eq_getElem hjl]
            rfl
          rw [hx] at d0 d1 d2
          rw [Int.toNat_natCast] at d0 d1 d2
          have mv : ∀ {a : Addr} {u : Value}, w.cell? a = some u → wr.cell? a = some u := fun h => (HWW.out.cell (World.block_lt_of_cell? w _ h)).trans h
          replace d0 := mv d0
          replace d1 := mv d1
          replace d2 := mv d2
          obtain ⟨b1, b2⟩ := HSB.out sg[j] (List.getElem_mem hjl)
          have HTK : Aside0 (L ++ dataS ((2 * h + k) / u) ((sg.take (j + 1)).map segT) = (L ++ dataS ((2 * h + k) / u) ((sg.take j).map segT)) ++ [⟨6, sg[j].f2, (2 * h + k) / u + sg[j].f0, sg[j].f1⟩]) := ⟨by
            rw [ara.take_snoc' sg j hjl, List.map_append, List.append_assoc]
            simp [dataS, segT]⟩
          have hll2 : (L ++ dataS ((2 * h + k) / u) ((sg.take j).map segT)).length ≤ 5000 := by
            simp [dataS]
            omega
          obtain ⟨M, hM⟩ : ∃ M, M = L ++ dataS ((2 * h + k) / u) ((sg.take j).map segT) := ⟨_, rfl⟩
          rw [← hM] at HL2 HTK hll2
          clear mv hx hM
          cases e
          go_wp2_with (first | (at_builtin; refine wpList_append_lies _ rfl (.tmp 96) (.tmp 106) 37 rfl (w.heap.size + 2) 44 i0 _ 4 32 Tryz.underlying37 hi0 hz0 hs0 hb0 rfl (by decide) _ M.length _ rfl ((HL2.out.own.alloc _).alloc _) ⟨wr.heap.size + 1, 0, none⟩ 1 1 (encS ⟨6, sg[j].f2, (2 * h + k) / u + sg[j].f0, sg[j].f1⟩) rfl rfl (World.news_of_block (blk_new' _ _ _ (by simp))) (encS_one _) (by decide) (by unfold maxLen; omega) (by omega) (by simp; omega) _ rfl ?_; intro g4 cap4 w4 q1 q2 q3 q4; have L4 := Aside0.mk (HL2.out.push ⟨6, sg[j].f2, (2 * h + k) / u + sg[j].f0, sg[j].f1⟩ rfl ((b_alloc wr _).alloc (by simp) _) q1 q2 q3); clear q1 q2 q3 q4) | fail)
          go_roundg (sg.length - j)
          case rel => exact ⟨j + 1, ⟨by go_num⟩, ⟨by omega, by omega⟩, ⟨by rw [HTK.out]; exact L4.out⟩⟩
          case measure => have := HQJ.out; omega
        · obtain rfl : j = sg.length := by omega
          have hL3 := HL2.out
          rw [List.take_length] at hL3
          obtain ⟨g6, cap6, hv6, hg6, hg66⟩ := hL3.own.form (by
            have := (laid_len (h / u) (2 * h / u) ((2 * h + k) / u) (l'.map (·.1)))
            rw [HLA.out] at this
            rw [List.length_append]
            omega)
          subst hv6
          have HL3 := Aside0.mk hL3
          clear hL3
          go_wp2_with fail
          go_ret
          refine ⟨g6, cap6, L ++ dataS ((2 * h + k) / u) (sg.map segT), ⟨l'.map (·.1), (by rw [← HCD.out]; exact HPM.out.map (fun x : BSp => x.1)), ?_, by rw [HLA.out]⟩, (by rw [List.length_append]; rfl), own_base HL3.out.own, HBW.out.trans (HL3.out.below.mono (by omega))⟩
          rw [List.pairwise_map]
          exact HST.out
set_option maxHeartbeats 16000000 in
set_option maxRecDepth 100000 in
theorem spots_on (v0 v1 v2 v3 v5 v8 v9 v10 v12 v26 : Value) (u h k : Int) (A B : Option Addr) (c cB : Nat) (l : List S53) (sg : List S65) (r : RotV) (w : World) (hR : Kd.C k53 w A l.length l) (hl1 : 1 ≤ l.length) (hl : l.length ≤ 1000) (hG : Kd.C k65 w B sg.length sg) (hsg : sg.length ≤ 1000) (hsb : ∀ g ∈ sg, 0 ≤ g.f0 ∧ g.f0 ≤ 1099511627776) (u1 : 512 ≤ u) (u2 : u ≤ 4096) (h1 : 16384 ≤ h) (h2 : h ≤ 4194304) (k1 : 4096 ≤ k) (k2 : k ≤ 134217728) (hb : ∀ s ∈ l, (0 ≤ s.f0 ∧ s.f0 ≤ 1000000) ∧ (0 ≤ s.f7.f0 ∧ s.f7.f0 ≤ 1099511627776) ∧ 0 ≤ s.f7.f1 ∧ s.f7.f1 ≤ 1099511627776) (j1 : 0 ≤ r.off) (j2 : r.off ≤ 1099511627776) (j3 : 0 ≤ r.size) (j4 : r.size ≤ 1099511627776) :
    Calls Tryz.prog 12 #[.agg #[v0, v1, v2, v3, .int .i64 u, v5, .int .i64 h, .int .i64 k, v8, v9, v10, .slice A l.length c, v12, .slice B sg.length cB, .bool true, .int .u64 r.fr, .int .u64 r.nx, .bool r.back, .int .i64 r.mode, .int .u64 r.hot, .int .u64 r.dn, .int .i64 r.off, .int .i64 r.size, .bool r.act, .int .u64 r.cnt, .string r.sum, v26]] w (SpotsEnd w (h / u) (2 * h / u) ((2 * h + k) / u) (l.map (noteOf u r.nx) ++ [spotOf u r.nx (-1) r.off r.size]) (sg.map segT)) := by
  have hmf : ∀ (fn : Fn) (first cap : Array Value) (w : World), (Instr.makeFunc fn first cap).run Tryz.prog w = .ok (.func fn first cap) w := fun _ _ _ _ => rfl
  have HNM := Aside0.mk (blk_new w (.cells #[v0, v1, v2, v3, .int .i64 u, v5, .int .i64 h, .int .i64 k, v8, v9, v10, .slice A l.length c, v12, .slice B sg.length cB, .bool true, .int .u64 r.fr, .int .u64 r.nx, .bool r.back, .int .i64 r.mode, .int .u64 r.hot, .int .u64 r.dn, .int .i64 r.off, .int .i64 r.size, .bool r.act, .int .u64 r.cnt, .string r.sum, v26] 36))
  have HZ := Aside0.mk (b_alloc w (.cells #[v0, v1, v2, v3, .int .i64 u, v5, .int .i64 h, .int .i64 k, v8, v9, v10, .slice A l.length c, v12, .slice B sg.length cB, .bool true, .int .u64 r.fr, .int .u64 r.nx, .bool r.back, .int .i64 r.mode, .int .u64 r.hot, .int .u64 r.dn, .int .i64 r.off, .int .i64 r.size, .bool r.act, .int .u64 r.cnt, .string r.sum, v26] 36))
  have HIN : Aside0 ((Tryz.prog.info? 36).map (fun i => i.size) = some (#[v0, v1, v2, v3, .int .i64 u, v5, .int .i64 h, .int .i64 k, v8, v9, v10, .slice A l.length c, v12, .slice B sg.length cB, .bool true, .int .u64 r.fr, .int .u64 r.nx, .bool r.back, .int .i64 r.mode, .int .u64 r.hot, .int .u64 r.dn, .int .i64 r.off, .int .i64 r.size, .bool r.act, .int .u64 r.cnt, .string r.sum, v26]).size) := ⟨info36⟩
  have hu0 : (u == 0) = false := by simp; omega
  have HR := Aside0.mk hR
  have HG := Aside0.mk hG
  have HB := Aside0.mk hb
  have HSB := Aside0.mk hsb
  clear hR hG hb hsb
  go_enter Tryz.func12, Tryz.ntmps12
  go_wp2_with fail
  go_quiet (fail)
  go_wp2_with fail
  go_region
  have hbk := blk_alloc (blk_alloc (blk_drewN (blk_alloc HNM.out (.cells #[.int .u64 u] 22)) (nq + 1)) (.cells #[.int .i64 1, .int .u64 0, .int .u64 0, .int .u64 (h / u), .int .i64 2, .int .u64 0, .int .u64 (h / u), .int .u64 (h / u)] 44)) (.cells #[.slice none 0 0] 37)
  have hbu := blk_alloc (blk_alloc (blk_drewN (blk_new' (w.alloc (.cells #[v0, v1, v2, v3, .int .i64 u, v5, .int .i64 h, .int .i64 k, v8, v9, v10, .slice A l.length c, v12, .slice B sg.length cB, .bool true, .int .u64 r.fr, .int .u64 r.nx, .bool r.back, .int .i64 r.mode, .int .u64 r.hot, .int .u64 r.dn, .int .i64 r.off, .int .i64 r.size, .bool r.act, .int .u64 r.cnt, .string r.sum, v26] 36)) (.cells #[.int .u64 u] 22) (w.heap.size + 1) (by simp)) (nq + 1)) (.cells #[.int .i64 1, .int .u64 0, .int .u64 0, .int .u64 (h / u), .int .i64 2, .int .u64 0, .int .u64 (h / u), .int .u64 (h / u)] 44)) (.cells #[.slice none 0 0] 37)
  have hbl := blk_alloc (blk_new' (((w.alloc (.cells #[v0, v1, v2, v3, .int .i64 u, v5, .int .i64 h, .int .i64 k, v8, v9, v10, .slice A l.length c, v12, .slice B sg.length cB, .bool true, .int .u64 r.fr, .int .u64 r.nx, .bool r.back, .int .i64 r.mode, .int .u64 r.hot, .int .u64 r.dn, .int .i64 r.off, .int .i64 r.size, .bool r.act, .int .u64 r.cnt, .string r.sum, v26] 36)).alloc (.cells #[.int .u64 u] 22)).drewN (nq + 1)) (.cells #[.int .i64 1, .int .u64 0, .int .u64 0, .int .u64 (h / u), .int .i64 2, .int .u64 0, .int .u64 (h / u), .int .u64 (h / u)] 44) (w.heap.size + 2) (by simp)) (.cells #[.slice none 0 0] 37)
  have hbc := blk_new' ((((w.alloc (.cells #[v0, v1, v2, v3, .int .i64 u, v5, .int .i64 h, .int .i64 k, v8, v9, v10, .slice A l.length c, v12, .slice B sg.length cB, .bool true, .int .u64 r.fr, .int .u64 r.nx, .bool r.back, .int .i64 r.mode, .int .u64 r.hot, .int .u64 r.dn, .int .i64 r.off, .int .i64 r.size, .bool r.act, .int .u64 r.cnt, .string r.sum, v26] 36)).alloc (.cells #[.int .u64 u] 22)).drewN (nq + 1)).alloc (.cells #[.int .i64 1, .int .u64 0, .int .u64 0, .int .u64 (h / u), .int .i64 2, .int .u64 0, .int .u64 (h / u), .int .u64 (h / u)] 44)) (.cells #[.slice none 0 0] 37) (w.heap.size + 3) (by simp)
  have hbw : Below w.heap.size w (((((w.alloc (.cells #[v0, v1, v2, v3, .int .i64 u, v5, .int .i64 h, .int .i64 k, v8, v9, v10, .slice A l.length c, v12, .slice B sg.length cB, .bool true, .int .u64 r.fr, .int .u64 r.nx, .bool r.back, .int .i64 r.mode, .int .u64 r.hot, .int .u64 r.dn, .int .i64 r.off, .int .i64 r.size, .bool r.act, .int .u64 r.cnt, .string r.sum, v26] 36)).alloc (.cells #[.int .u64 u] 22)).drewN (nq + 1)).alloc (.cells #[.int .i64 1, .int .u64 0, .int .u64 0, .int .u64 (h / u), .int .i64 2, .int .u64 0, .int .u64 (h / u), .int .u64 (h / u)] 44)).alloc (.cells #[.slice none 0 0] 37)) :=
    ((below_dn (HZ.out.alloc (by simp) _) _).alloc (by simp; omega) _).alloc (by simp; omega) _
  have HBK := Aside0.mk hbk
  have HBU := Aside0.mk hbu
  have HBL := Aside0.mk hbl
  have HBC := Aside0.mk hbc
  have HBW := Aside0.mk hbw
  clear hbk hbu hbl hbc hbw
  go_wp2_with ((with_reducible refine gateL (.load 36 (.tmp 1)) rfl ?_); refine wpList_load_row rfl 36 (.tmp 1) rfl w.heap.size rfl 36 #[v0, v1, v2, v3, .int .i64 u, v5, .int .i64 h, .int .i64 k, v8, v9, v10, .slice A l.length c, v12, .slice B sg.length cB, .bool true, .int .u64 r.fr, .int .u64 r.nx, .bool r.back, .int .i64 r.mode, .int .u64 r.hot, .int .u64 r.dn, .int .i64 r.off, .int .i64 r.size, .bool r.act, .int .u64 r.cnt, .string r.sum, v26] (0, 0) _ HBK.out Tryz.underlying36 rfl HIN.out ?_)
  generalize hWd : (((((w.alloc (.cells #[v0, v1, v2, v3, .int .i64 u, v5, .int .i64 h, .int .i64 k, v8, v9, v10, .slice A l.length c, v12, .slice B sg.length cB, .bool true, .int .u64 r.fr, .int .u64 r.nx, .bool r.back, .int .i64 r.mode, .int .u64 r.hot, .int .u64 r.dn, .int .i64 r.off, .int .i64 r.size, .bool r.act, .int .u64 r.cnt, .string r.sum, v26] 36)).alloc (.cells #[.int .u64 u] 22)).drewN (nq + 1)).alloc (.cells #[.int .i64 1, .int .u64 0, .int .u64 0, .int .u64 (h / u), .int .i64 2, .int .u64 0, .int .u64 (h / u), .int .u64 (h / u)] 44)).alloc (.cells #[.slice none 0 0] 37)) = W at *
  clear hWd
  refine (areas_on (v0) (v1) (v2) (v3) (.int .i64 u) (v5) (.int .i64 h) (.int .i64 k) (v8) (v9) (v10) (v12) (.slice B sg.length cB) (v26) (w.heap.size + 1) w.heap.size (w.heap.size + 3) u r.nx A c l r w W HBC.out ((blk_cell HBU.out 0).trans rfl) ((blk_cell HBK.out 16).trans rfl) (by omega) (by omega) (by omega) HBW.out HR.out hl u1 u2 HB.out j1 j2 j3 j4).mono ?_
  rintro e W1 ⟨rfl, v, hcl⟩
  obtain ⟨cl, hcd⟩ : ∃ cl, cl = l.map (noteOf u r.nx) ++ [spotOf u r.nx (-1) r.off r.size] := ⟨_, rfl⟩
  have hclb : ∀ p ∈ cl, 0 ≤ p.s ∧ p.s ≤ 1099511627776 := fun p hp => by
    rw [hcd] at hp
    rcases List.mem_append.1 hp with hp | hp
    · obtain ⟨s, hs, rfl⟩ := List.mem_map.1 hp
      exact noteOf_bd u1 (HB.out s hs).2.1
    · rw [List.mem_singleton.1 hp]
      exact spotOf_bd u1 ⟨j1, j2⟩
  have hclc : ∀ p ∈ cl, 0 ≤ p.c ∧ p.c ≤ 1099511627776 := fun p hp => by
    rw [hcd] at hp
    rcases List.mem_append.1 hp with hp | hp
    · obtain ⟨s, hs, rfl⟩ := List.mem_map.1 hp
      exact noteOf_bc u1 (HB.out s hs).2.2
    · rw [List.mem_singleton.1 hp]
      exact spotOf_bc u1 ⟨j3, j4⟩
  rw [← hcd] at hcl ⊢
  have hcn : 1 ≤ cl.length ∧ cl.length ≤ 1001 := by rw [hcd]; simp; omega
  obtain ⟨lb, hlb⟩ := bsp_of cl hclb
  have HCD := Aside0.mk (hlb.trans hcd)
  subst hlb
  clear hcd hclb
  have HCC := Aside0.mk hclc
  clear hclc
  have hown := hcl.own
  simp only [List.length_map] at hown hcn
  obtain ⟨g, cap, hv, hg1, hg2⟩ := hown.form (by omega)
  subst hv
  have cv : W1.cell? ⟨w.heap.size + 3, 0, none⟩ = some (.slice (some ⟨g, 0, none⟩) lb.length cap) := (blk_cell hcl.at_ 0).trans rfl
  have HCL := Aside0.mk hcl
  have HSO := Aside0.mk (sort_call (w.heap.size + 3 + 1) g cap lb W1 hown (by omega))
  clear hcl hown
  go_wp2_with fail
  refine HSO.out.mono ?_
  rintro e W2 ⟨l', rfl, hpm, hst, hown2, hgr⟩
  have hlt2 : w.heap.size + 3 < W1.heap.size := blk_lt HCL.out.at_
  have hb12 : Below (w.heap.size + 4) W1 W2 := ⟨hgr.os, hgr.tape, hgr.output, hgr.size, fun i hi => hgr.block i (by omega) (fun e => by have := Option.some.inj e; omega)⟩
  have HB2 : Aside0 (Below (w.heap.size + 3) W W2) := ⟨HCL.out.below.trans (hb12.mono (by omega))⟩
  have cv2 : W2.cell? ⟨w.heap.size + 3, 0, none⟩ = some (.slice (some ⟨g, 0, none⟩) lb.length cap) := (hb12.cell (by show w.heap.size + 3 < _; omega)).trans cv
  have cu2 : W2.cell? ⟨w.heap.size + 1, 0, none⟩ = some (.int .u64 u) := (HB2.out.cell (by show w.heap.size + 1 < _; omega)).trans ((blk_cell HBU.out 0).trans rfl)
  have hlt22 : w.heap.size + 3 < W2.heap.size := by have := hgr.size; omega
  have HPM := Aside0.mk hpm
  have HST := Aside0.mk hst
  have HO2 := Aside0.mk hown2
  obtain ⟨i0, hi0, hz0, hs0, hb0⟩ := info_parts info44
  clear cv hpm hst hown2 hgr hb12
  have e1 : 0 ≤ 2 * h / u := Int.ediv_nonneg (by omega) (by omega)
  have e2 : 0 ≤ (2 * h + k) / u := Int.ediv_nonneg (by omega) (by omega)
  go_wp2_with fail
  go_quiet (fail)
  go_wp2_with (at_builtin; refine wpList_append_lies _ rfl (.tmp 53) (.tmp 56) 37 rfl (w.heap.size + 3 + 1) 44 i0 _ 4 32 Tryz.underlying37 hi0 hz0 hs0 hb0 rfl (by decide) _ lb.length _ rfl (HO2.out.alloc _) ⟨W2.heap.size, 0, none⟩ 1 1 (encS ⟨0, 0, (2 * h + k) / u, 0⟩) rfl rfl (World.news_of_block (blk_new' _ _ _ (by simp))) (encS_one _) (by decide) (by unfold maxLen; omega) (by omega) (by simp; omega) _ rfl ?_; intro g2 cap2 w3 q1 q2 q3 q4; have HO3 := Aside0.mk q1; have q2' : ((W2.drewN nq).alloc (.cells #[.int .i64 0, .int .u64 0, .int .u64 ((2 * h + k) / u), .int .u64 0] 44)).grownBy w3 (some g) := q2; have HG3 := Aside0.mk q2'; clear q1 q2 q2' q3 q4; generalize hN : lb.length + 1 = N at *; have HN := Aside0.mk hN; clear hN)
  have hpl : l'.length = lb.length := HPM.out.length_eq
  obtain ⟨P, hP⟩ : ∃ P : List Sp, P = l'.map (·.1) ++ [⟨0, 0, (2 * h + k) / u, 0⟩] := ⟨_, rfl⟩
  have HPD := Aside0.mk hP
  have HPN : Aside0 (P.length = N) := ⟨by rw [hP, ← HN.out]; simp [hpl]⟩
  have he2 : (2 * h + k) / u ≤ 1099511627776 := Int.le_trans (Int.ediv_le_self u (by omega)) (by omega)
  have he1 : 2 * h / u ≤ 1099511627776 := Int.le_trans (Int.ediv_le_self u (by omega)) (by omega)
  have HPB : Aside0 (∀ p ∈ P, (0 ≤ p.s ∧ p.s ≤ 1099511627776) ∧ 0 ≤ p.c ∧ p.c ≤ 1099511627776) := ⟨fun p hp => by
    rw [hP] at hp
    rcases List.mem_append.1 hp with hp | hp
    · obtain ⟨b, hb1, rfl⟩ := List.mem_map.1 hp
      exact ⟨b.2, HCC.out b.1 (List.mem_map_of_mem (HPM.out.subset hb1))⟩
    · rw [List.mem_singleton.1 hp]
      exact ⟨⟨e2, he2⟩, by show (0 : Int) ≤ 0; omega, by show (0 : Int) ≤ _; omega⟩⟩
  have hgg : w.heap.size + 3 + 1 ≤ g := hg1
  have HB3 : Aside0 (Below (w.heap.size + 3) W w3) := ⟨((below_dn HB2.out _).alloc (by show w.heap.size + 3 ≤ W2.heap.size; omega) _).grown HG3.out (by simp; omega) (fun q hq => by have := Option.some.inj hq; omega)⟩
  have hg2 : w.heap.size + 3 + 1 ≤ g2 ∧ g2 < w3.heap.size := HO3.out.lt g2 rfl
  have HL0 : Aside0 (LIn W w3 w.heap.size g2 (.slice (some ⟨w.heap.size + 2, 0, none⟩) 2 2) [⟨1, 0, 0, h / u⟩, ⟨2, 0, h / u, h / u⟩] P) := ⟨by
    have hblk := (HB3.out.block (w.heap.size + 2) (by omega)).trans HBL.out
    have hcl := HO3.out.cells (g := g2) rfl
    refine ⟨⟨rfl, .inr ⟨w.heap.size + 2, 2, _, rfl, Nat.le_refl _, hblk, Nat.le_refl _, by unfold maxLen; omega, rfl, rfl⟩⟩, ?_, ⟨fun i q hq c v hv => ?_, hg2.2⟩, HB3.out.mono (by omega), by omega⟩
    · show some (w.heap.size + 2) ≠ some g2
      intro e
      have := Option.some.inj e
      omega
    · have h1 := cellsS_at P i q c v hq hv
      rw [hP, cellsS_snoc] at h1
      have ea : (⟨g2, 0, none⟩ : Addr).add (i * 4 + c) = ⟨g2, i * 4 + c, none⟩ := by unfold Addr.add; split <;> simp_all
      rw [← ea]
      exact hcl _ _ h1⟩
  clear hP
  have hN1 : N ≤ 1002 := by rw [← HN.out]; omega
  go_loopg [6, 8, 59] (N + 1) (fun kq s6 s8 s59 wr => ∃ (i : Nat) (L : List Sp) (z : Int), Aside0 (s59 = .int .i64 (i : Int)) ∧ Aside0 (s8 = .int .u64 z) ∧ Aside0 (i ≤ N ∧ kq + i = N + 1) ∧ Aside0 ((P.take i).foldl stepS ([⟨1, 0, 0, h / u⟩, ⟨2, 0, h / u, h / u⟩], 2 * h / u) = (L, z)) ∧ Aside0 (0 ≤ z ∧ z ≤ 4398046511104) ∧ Aside0 (LIn W wr w.heap.size g2 s6 L P) ∧ Aside0 (L.length ≤ 2 + 2 * i))
  case atStart => exact ⟨0, _, _, ⟨rfl⟩, ⟨rfl⟩, ⟨by omega⟩, ⟨rfl⟩, ⟨by omega⟩, HL0, ⟨Nat.le_refl _⟩⟩
  case round =>
    obtain ⟨i, L, z, H59, H8, HI, HF, HZZ, HL, HLL⟩ := hrel
    obtain rfl := H59.out
    obtain rfl := H8.out
    obtain ⟨hi, hk⟩ := HI.out
    obtain ⟨z0, z1⟩ := HZZ.out
    have hll := HLL.out
    have HQ := Aside0.mk hk
    clear hk
    have hle := HL.out.le
    by_cases hlt : i < N
    · have hlt2 : i < P.length := by rw [HPN.out]; exact hlt
      obtain ⟨p, hp⟩ : ∃ p, P[i] = p := ⟨_, rfl⟩
      have hps : P[i]? = some p := by rw [List.getElem?_eq_getElem hlt2, hp]
      have c0 := HL.out.sp.at_ i p hps 0 _ rfl
      have c1 := HL.out.sp.at_ i p hps 1 _ rfl
      have c2 := HL.out.sp.at_ i p hps 2 _ rfl
      have c3 := HL.out.sp.at_ i p hps 3 _ rfl
      rw [Nat.add_zero] at c0
      obtain ⟨⟨b1, b2⟩, b3, b4⟩ := HPB.out p (List.mem_of_getElem? hps)
      have HFS : Aside0 ((P.take (i + 1)).foldl stepS ([⟨1, 0, 0, h / u⟩, ⟨2, 0, h / u, h / u⟩], 2 * h / u) = stepS (L, z) p) := ⟨by rw [ara.take_snoc' P i hlt2, List.foldl_append, HF.out, hp]; rfl⟩
      have g0 : (0 : Int) ≤ (i : Int) := by omega
      clear hps hp
      by_cases a1 : z < p.s
      · have a1' : decide (z < p.s) = true := decide_eq_true a1
        by_cases a2 : p.k = 0
        · have a2' : (p.k != 0) = false := by simp [a2]
          have HST2 : Aside0 (stepS (L, z) p = (L ++ [⟨5, 0, z, p.s - z⟩], z)) := ⟨by unfold stepS; rw [if_pos a2, if_pos a1]⟩
          have a3 : 0 ≤ p.s - z := by omega
          clear a2
          go_wp2_with (first | (at_builtin; refine wpList_append_lies _ rfl (.tmp 67) (.tmp 74) 37 rfl (w.heap.size + 2) 44 i0 _ 4 32 Tryz.underlying37 hi0 hz0 hs0 hb0 rfl (by decide) _ L.length _ rfl ((HL.out.own.alloc _).alloc _) ⟨wr.heap.size + 1, 0, none⟩ 1 1 (encS ⟨5, 0, z, p.s - z⟩) rfl rfl (World.news_of_block (blk_new' _ _ _ (by simp))) (encS_one _) (by decide) (by unfold maxLen; omega) (by omega) (by simp; omega) _ rfl ?_; intro g4 cap4 w4 q1 q2 q3 q4; have L4 := Aside0.mk (HL.out.push ⟨5, 0, z, p.s - z⟩ rfl ((b_alloc wr _).alloc (by simp) _) q1 q2 q3); have O4 := Aside0.mk (len_own L4.out.own); have K4 := Aside0.mk (HL.out.var q2 (Nat.le_refl _) (blk_alloc (blk_new wr (.cells #[.int .i64 p.k, .int .u64 p.n, .int .u64 p.s, .int .u64 p.c] 44)) _)); have r0 : w4.cell? ⟨wr.heap.size, 0, none⟩ = some (.int .i64 p.k) := (blk_cell K4.out 0).trans rfl; have r1 : w4.cell? ⟨wr.heap.size, 1, none⟩ = some (.int .u64 p.n) := (blk_cell K4.out 1).trans rfl; have r2 : w4.cell? ⟨wr.heap.size, 2, none⟩ = some (.int .u64 p.s) := (blk_cell K4.out 2).trans rfl; have r3 : w4.cell? ⟨wr.heap.size, 3, none⟩ = some (.int .u64 p.c) := (blk_cell K4.out 3).trans rfl; have hw4 : wr.heap.size < w4.heap.size := blk_lt K4.out; have K4N : Aside0 ((Value.slice (some ⟨g4, 0, none⟩) (L.length + 1) cap4).ownBlock ≠ some wr.heap.size) := ⟨LIn.newRow HL.out q3 rfl (by simp; omega)⟩; clear q1 q2 q3 q4) | fail)
          go_roundg (N - i)
          case rel => exact ⟨i + 1, _, z, ⟨by go_num⟩, ⟨rfl⟩, ⟨by omega, by omega⟩, ⟨by rw [HFS.out, HST2.out]⟩, HZZ, L4, ⟨by rw [List.length_append]; simp; omega⟩⟩
          case measure => have := HQ.out; omega
        · have a2' : (p.k != 0) = true := by simp [a2]
          have HST2 : Aside0 (stepS (L, z) p = (L ++ [⟨5, 0, z, p.s - z⟩] ++ [p], p.s + p.c)) := ⟨by unfold stepS; rw [if_neg a2, if_pos a1]⟩
          have a3 : 0 ≤ p.s - z := by omega
          clear a2
          go_wp2_with (first | (at_builtin; refine wpList_append_lies _ rfl (.tmp 67) (.tmp 74) 37 rfl (w.heap.size + 2) 44 i0 _ 4 32 Tryz.underlying37 hi0 hz0 hs0 hb0 rfl (by decide) _ L.length _ rfl ((HL.out.own.alloc _).alloc _) ⟨wr.heap.size + 1, 0, none⟩ 1 1 (encS ⟨5, 0, z, p.s - z⟩) rfl rfl (World.news_of_block (blk_new' _ _ _ (by simp))) (encS_one _) (by decide) (by unfold maxLen; omega) (by omega) (by simp; omega) _ rfl ?_; intro g4 cap4 w4 q1 q2 q3 q4; have L4 := Aside0.mk (HL.out.push ⟨5, 0, z, p.s - z⟩ rfl ((b_alloc wr _).alloc (by simp) _) q1 q2 q3); have O4 := Aside0.mk (len_own L4.out.own); have K4 := Aside0.mk (HL.out.var q2 (Nat.le_refl _) (blk_alloc (blk_new wr (.cells #[.int .i64 p.k, .int .u64 p.n, .int .u64 p.s, .int .u64 p.c] 44)) _)); have r0 : w4.cell? ⟨wr.heap.size, 0, none⟩ = some (.int .i64 p.k) := (blk_cell K4.out 0).trans rfl; have r1 : w4.cell? ⟨wr.heap.size, 1, none⟩ = some (.int .u64 p.n) := (blk_cell K4.out 1).trans rfl; have r2 : w4.cell? ⟨wr.heap.size, 2, none⟩ = some (.int .u64 p.s) := (blk_cell K4.out 2).trans rfl; have r3 : w4.cell? ⟨wr.heap.size, 3, none⟩ = some (.int .u64 p.c) := (blk_cell K4.out 3).trans rfl; have hw4 : wr.heap.size < w4.heap.size := blk_lt K4.out; have K4N : Aside0 ((Value.slice (some ⟨g4, 0, none⟩) (L.length + 1) cap4).ownBlock ≠ some wr.heap.size) := ⟨LIn.newRow HL.out q3 rfl (by simp; omega)⟩; clear q1 q2 q3 q4) | (at_builtin; refine wpList_append_lies _ rfl (.tmp 79) (.tmp 81) 37 rfl (w.heap.size + 2) 44 i0 _ 4 32 Tryz.underlying37 hi0 hz0 hs0 hb0 rfl (by decide) _ (L.length + 1) _ rfl (O4.out.alloc _) ⟨w4.heap.size, 0, none⟩ 1 1 (encS p) rfl rfl (World.news_of_block (blk_new' _ _ _ (by simp))) (encS_one _) (by decide) (by unfold maxLen; omega) (by omega) (by simp; omega) _ rfl ?_; intro g5 cap5 w5 q1 q2 q3 q4; have L5 := Aside0.mk (L4.out.push p (by simp) (b_alloc w4 _) q1 q2 q3); have K5 := Aside0.mk ((q2.block wr.heap.size (by simp; omega) (fun e => by rcases (L4.out.own.lt wr.heap.size e.symm) with ⟨x1, x2⟩; exact K4N.out (e.symm))).trans (blk_alloc K4.out _)); have r2' : w5.cell? ⟨wr.heap.size, 2, none⟩ = some (.int .u64 p.s) := (blk_cell K5.out 2).trans rfl; have r3' : w5.cell? ⟨wr.heap.size, 3, none⟩ = some (.int .u64 p.c) := (blk_cell K5.out 3).trans rfl; clear q1 q2 q3 q4) | fail)
          go_roundg (N - i)
          case rel => exact ⟨i + 1, _, p.s + p.c, ⟨by go_num⟩, ⟨rfl⟩, ⟨by omega, by omega⟩, ⟨by rw [HFS.out, HST2.out]⟩, ⟨by omega⟩, L5, ⟨by simp only [List.length_append, List.length_cons, List.length_nil]; omega⟩⟩
          case measure => have := HQ.out; omega
      · have a1' : decide (z < p.s) = false := decide_eq_false a1
        by_cases a2 : p.k = 0
        · have a2' : (p.k != 0) = false := by simp [a2]
          have HST2 : Aside0 (stepS (L, z) p = (L, z)) := ⟨by unfold stepS; rw [if_pos a2, if_neg a1]⟩
          clear a1 a2
          go_wp2_with fail
          go_roundg (N - i)
          case rel => exact ⟨i + 1, L, z, ⟨by go_num⟩, ⟨rfl⟩, ⟨by omega, by omega⟩, ⟨by rw [HFS.out, HST2.out]⟩, HZZ, ⟨HL.out.alloc _⟩, ⟨by omega⟩⟩
          case measure => have := HQ.out; omega
        · have a2' : (p.k != 0) = true := by simp [a2]
          have HST2 : Aside0 (stepS (L, z) p = (L ++ [p], p.s + p.c)) := ⟨by unfold stepS; rw [if_neg a2, if_neg a1]⟩
          clear a1 a2
          go_wp2_with (first | (at_builtin; refine wpList_append_lies _ rfl (.tmp 79) (.tmp 81) 37 rfl (w.heap.size + 2) 44 i0 _ 4 32 Tryz.underlying37 hi0 hz0 hs0 hb0 rfl (by decide) _ L.length _ rfl ((HL.out.own.alloc _).alloc _) ⟨wr.heap.size + 1, 0, none⟩ 1 1 (encS p) rfl rfl (World.news_of_block (blk_new' _ _ _ (by simp))) (encS_one _) (by decide) (by unfold maxLen; omega) (by omega) (by simp; omega) _ rfl ?_; intro g5 cap5 w5 q1 q2 q3 q4; have L5 := Aside0.mk (HL.out.push p rfl ((b_alloc wr _).alloc (by simp) _) q1 q2 q3); have K5 := Aside0.mk (HL.out.var q2 (Nat.le_refl _) (blk_alloc (blk_new wr (.cells #[.int .i64 p.k, .int .u64 p.n, .int .u64 p.s, .int .u64 p.c] 44)) _)); have r2' : w5.cell? ⟨wr.heap.size, 2, none⟩ = some (.int .u64 p.s) := (blk_cell K5.out 2).trans rfl; have r3' : w5.cell? ⟨wr.heap.size, 3, none⟩ = some (.int .u64 p.c) := (blk_cell K5.out 3).trans rfl; clear q1 q2 q3 q4) | fail)
          go_roundg (N - i)
          case rel => exact ⟨i + 1, _, p.s + p.c, ⟨by go_num⟩, ⟨rfl⟩, ⟨by omega, by omega⟩, ⟨by rw [HFS.out, HST2.out]⟩, ⟨by omega⟩, L5, ⟨by simp only [List.length_append, List.length_cons, List.length_nil]; omega⟩⟩
          case measure => have := HQ.out; omega
    · obtain rfl : i = N := by omega
      have m13 : wr.cell? ⟨w.heap.size, 13, none⟩ = some (.slice B sg.length cB) := (blk_cell ((HL.out.below.block _ (by omega)).trans HBK.out) 13).trans rfl
      have HLA : Aside0 (laidS (h / u) (2 * h / u) ((2 * h + k) / u) (l'.map (·.1)) = L) := ⟨by
        unfold laidS
        have := HF.out
        rw [List.take_of_length_le (by rw [HPN.out]; exact Nat.le_refl _), HPD.out] at this
        rw [this]⟩
      have HD0 : Aside0 (LIn W wr w.heap.size g2 _ (L ++ dataS ((2 * h + k) / u) ((sg.take 0).map segT)) P) := ⟨by
        have := HL.out
        simpa [dataS] using this⟩
      go_wp2_with fail
      obtain ⟨wo, rfl⟩ : ∃ wo : World, wo = wr := ⟨_, rfl⟩
      go_loopg [6, 92] (sg.length + 1) (fun kq s6 s92 wr => ∃ (i : Nat), Aside0 (s92 = .int .i64 (i : Int)) ∧ Aside0 (i ≤ sg.length ∧ kq + i = sg.length + 1) ∧ Aside0 (LIn W wr w.heap.size g2 s6 (L ++ dataS ((2 * h + k) / u) ((sg.take i).map segT)) P))
      case atStart => exact ⟨0, ⟨rfl⟩, ⟨by omega⟩, HD0⟩
      case round =>
        obtain ⟨j, H92, HJ, HL2⟩ := hrel
        obtain rfl := H92.out
        obtain ⟨hj, hkj⟩ := HJ.out
        have HQJ := Aside0.mk hkj
        clear hkj
        have hle2 := HL2.out.le
        have HWW : Aside0 (Below w.heap.size w wr) := ⟨HBW.out.trans (HL2.out.below.mono (by omega))⟩
        by_cases hjl : j < sg.length
        · obtain ⟨ad, e, d0, d1, d2⟩ := at_T65 HG.out (j : Int) (by omega) (by omega)
          have hx : rd_T65 sg (j : Int) = sg[j] := by
            unfold rd_T65
            rw [Int.toNat_natCast, List.getD_eq_getElem?_getD, List.getElem?_eq_getElem hjl]
            rfl
          rw [hx] at d0 d1 d2
          rw [Int.toNat_natCast] at d0 d1 d2
          have mv : ∀ {a : Addr} {u : Value}, w.cell? a = some u → wr.cell? a = some u := fun h => (HWW.out.cell (World.block_lt_of_cell? w _ h)).trans h
          replace d0 := mv d0
          replace d1 := mv d1
          replace d2 := mv d2
          obtain ⟨b1, b2⟩ := HSB.out sg[j] (List.getElem_mem hjl)
          have HTK : Aside0 (L ++ dataS ((2 * h + k) / u) ((sg.take (j + 1)).map segT) = (L ++ dataS ((2 * h + k) / u) ((sg.take j).map segT)) ++ [⟨6, sg[j].f2, (2 * h + k) / u + sg[j].f0, sg[j].f1⟩]) := ⟨by
            rw [ara.take_snoc' sg j hjl, List.map_append, List.append_assoc]
            simp [dataS, segT]⟩
          have hll2 : (L ++ dataS ((2 * h + k) / u) ((sg.take j).map segT)).length ≤ 5000 := by
            simp [dataS]
            omega
          obtain ⟨M, hM⟩ : ∃ M, M = L ++ dataS ((2 * h + k) / u) ((sg.take j).map segT) := ⟨_, rfl⟩
          rw [← hM] at HL2 HTK hll2
          clear mv hx hM
          cases e
          go_wp2_with (first | (at_builtin; refine wpList_append_lies _ rfl (.tmp 96) (.tmp 106) 37 rfl (w.heap.size + 2) 44 i0 _ 4 32 Tryz.underlying37 hi0 hz0 hs0 hb0 rfl (by decide) _ M.length _ rfl ((HL2.out.own.alloc _).alloc _) ⟨wr.heap.size + 1, 0, none⟩ 1 1 (encS ⟨6, sg[j].f2, (2 * h + k) / u + sg[j].f0, sg[j].f1⟩) rfl rfl (World.news_of_block (blk_new' _ _ _ (by simp))) (encS_one _) (by decide) (by unfold maxLen; omega) (by omega) (by simp; omega) _ rfl ?_; intro g4 cap4 w4 q1 q2 q3 q4; have L4 := Aside0.mk (HL2.out.push ⟨6, sg[j].f2, (2 * h + k) / u + sg[j].f0, sg[j].f1⟩ rfl ((b_alloc wr _).alloc (by simp) _) q1 q2 q3); clear q1 q2 q3 q4) | fail)
          go_roundg (sg.length - j)
          case rel => exact ⟨j + 1, ⟨by go_num⟩, ⟨by omega, by omega⟩, ⟨by rw [HTK.out]; exact L4.out⟩⟩
          case measure => have := HQJ.out; omega
        · obtain rfl : j = sg.length := by omega
          have hL3 := HL2.out
          rw [List.take_length] at hL3
          obtain ⟨g6, cap6, hv6, hg6, hg66⟩ := hL3.own.form (by
            have := (laid_len (h / u) (2 * h / u) ((2 * h + k) / u) (l'.map (·.1)))
            rw [HLA.out] at this
            rw [List.length_append]
            omega)
          subst hv6
          have HL3 := Aside0.mk hL3
          clear hL3
          go_wp2_with fail
          go_ret
          refine ⟨g6, cap6, L ++ dataS ((2 * h + k) / u) (sg.map segT), ⟨l'.map (·.1), (by rw [← HCD.out]; exact HPM.out.map (fun x : BSp => x.1)), ?_, by rw [HLA.out]⟩, (by rw [List.length_append]; rfl), own_base HL3.out.own, HBW.out.trans (HL3.out.below.mono (by omega))⟩
          rw [List.pairwise_map]
          exact HST.out
end Go.Proofs.YtpmbfibjldnaiaaGreatDoor.spotd
/-! ## CovQ -/
namespace Go.Proofs.YtpmbfibjldnaiaaGreatDoor.covq
open Go Go.RowKit Go.Proofs.YtpmbfibjldnaiaaGreatDoor.shapea Go.Proofs.YtpmbfibjldnaiaaGreatDoor.shapeb Go.Proofs.YtpmbfibjldnaiaaGreatDoor.risea Go.Proofs.YtpmbfibjldnaiaaGreatDoor.slotsa Go.Proofs.YtpmbfibjldnaiaaGreatDoor.epa Go.Proofs.YtpmbfibjldnaiaaGreatDoor.rota Go.Proofs.YtpmbfibjldnaiaaGreatDoor.segb Go.Proofs.YtpmbfibjldnaiaaGreatDoor.segc Go.Proofs.YtpmbfibjldnaiaaGreatDoor.segd Go.Proofs.YtpmbfibjldnaiaaGreatDoor.metab Go.Proofs.YtpmbfibjldnaiaaGreatDoor.checka Go.Proofs.YtpmbfibjldnaiaaGreatDoor.covp Go.Proofs.YtpmbfibjldnaiaaGreatDoor.spotb Go.Proofs.YtpmbfibjldnaiaaGreatDoor.spotc Go.Proofs.YtpmbfibjldnaiaaGreatDoor.spotd Go.Proofs.YtpmbfibjldnaiaaGreatDoor.PProbeSpots Go.Proofs.YtpmbfibjldnaiaaGreatDoorW.PrintWords
set_option linter.unusedVariables false
set_option linter.unusedSimpArgs false
theorem bits_and (a b : Nat) (ha : a < 9223372036854775808) (hb : b < 9223372036854775808) : Go.bits .and .i64 (a : Int) (b : Int) = ((a &&& b : Nat) : Int) := by
  unfold Go.bits
  have e1 : (BitVec.ofInt 64 (a : Int)) = BitVec.ofNat 64 a := by simp
  have e2 : (BitVec.ofInt 64 (b : Int)) = BitVec.ofNat 64 b := by simp
  show IntKind.i64.wrap (((BitVec.ofInt 64 (a : Int) &&& BitVec.ofInt 64 (b : Int)).toNat : Nat) : Int) = _
  rw [e1, e2, BitVec.toNat_and, BitVec.toNat_ofNat, BitVec.toNat_ofNat, Nat.mod_eq_of_lt (by omega), Nat.mod_eq_of_lt (by omega)]
  have hle : a &&& b ≤ a := Nat.and_le_left
  have : IntKind.i64.wrap (((a &&& b : Nat)) : Int) = ((a &&& b : Nat) : Int) := by
    simp [IntKind.wrap, IntKind.bits, IntKind.signed]
    omega
  exact this
theorem pow_4096 {h : Int} (hp : powB h = true) (h1 : 16384 ≤ h) (h2 : h ≤ 4194304) : h % 4096 = 0 := by
  unfold powB at hp
  rw [if_pos (by omega)] at hp
  obtain ⟨n, rfl⟩ : ∃ n : Nat, h = (n : Int) := ⟨h.toNat, by omega⟩
  have e : wrap64 ((n : Int) - 1) = ((n - 1 : Nat) : Int) := by rw [IntWalk.wrap64_in _ (by omega)]; omega
  rw [e, bits_and n (n - 1) (by omega) (by omega)] at hp
  have h0 : n &&& (n - 1) = 0 := by simpa using hp
  have := pow_mul (n := n) (by omega) h0
  omega
theorem isUnit_of {u : Int} (h : isUnit u = true) : u = 512 ∨ u = 1024 ∨ u = 2048 ∨ u = 4096 := by
  unfold isUnit at h
  simp only [Bool.or_eq_true, beq_iff_eq] at h
  omega
theorem riseB_bd : ∀ (l : List Int) (most last : Int), riseB most last l = true → ∀ n ∈ l, last < n ∧ n ≤ most
  | [], _, _, _, n, hn => by simp at hn
  | x :: t, most, last, h, n, hn => by
    unfold riseB at h
    split at h
    · cases h
    · rename_i hx
      rcases List.mem_cons.1 hn with rfl | hn
      · omega
      · have := riseB_bd t most x h n hn
        omega
theorem chk_spec : ∀ (t : List (Int × Int)) (F E : Int) (dn : List (Int × Int)), ara.chkA F E dn t = true → (∀ a ∈ t, ara.okA F E a = true) ∧ (∀ a ∈ t, ∀ b ∈ dn, ara.meetsB a b = false) ∧ t.Pairwise (fun p q => ara.meetsB q p = false)
  | [], F, E, dn, h => ⟨fun a ha => by simp at ha, fun a ha => by simp at ha, List.Pairwise.nil⟩
  | x :: t, F, E, dn, h => by
    unfold ara.chkA at h
    simp only [Bool.and_eq_true, Bool.not_eq_true'] at h
    obtain ⟨⟨h1, h2⟩, h3⟩ := h
    obtain ⟨r1, r2, r3⟩ := chk_spec t F E (dn ++ [x]) h3
    refine ⟨fun a ha => ?_, fun a ha b hb => ?_, List.pairwise_cons.2 ⟨fun q hq => r2 q hq x (by simp), r3⟩⟩
    · rcases List.mem_cons.1 ha with rfl | ha
      · exact h1
      · exact r1 a ha
    · rcases List.mem_cons.1 ha with rfl | ha
      · have := List.any_eq_false.1 h2 b hb
        simpa using this
      · exact r2 a ha b (by simp [hb])
theorem meets_of {a b : Int × Int} (h : ara.meetsB a b = false) : ¬ Meets a b := by
  unfold ara.meetsB at h
  unfold Meets
  intro ⟨h1, h2⟩
  rw [decide_eq_true h1, decide_eq_true h2] at h
  cases h
theorem ok_of {F E : Int} {a : Int × Int} (h : ara.okA F E a = true) : okArea F E a := by
  unfold ara.okA at h
  unfold okArea
  simpa using h
theorem segsEq_eq : ∀ (l m : List S65), segsEq l m = true → l = m
  | [], [], _ => rfl
  | x :: s, y :: t, h => by
    unfold segsEq segEq at h
    simp only [Bool.and_eq_true, beq_iff_eq] at h
    obtain ⟨⟨h1, h2, h3⟩, h4⟩ := h
    have := segsEq_eq s t h4
    subst this
    cases x
    cases y
    simp only at h1 h2 h3
    subst h1 h2 h3
    rfl
  | [], y :: t, h => by cases h
  | x :: s, [], h => by cases h
/-- What checked metadata says. -/
structure Good (m : MetaV) : Prop where
  sec : (secsRes m.u m.c m.h m.k).2 = 0
  slen : 1 ≤ m.slots.length ∧ m.slots.length ≤ 32
  no : ∀ s ∈ m.slots, 0 ≤ s.f0 ∧ s.f0 ≤ 31
  size : ∀ s ∈ m.slots, 1 ≤ s.f7.f1
  rot : m.on = true → 1 ≤ m.rot.size ∧ m.rot.dn ≤ nSec m
  ok : ∀ a ∈ ara.areasL m.on m.slots m.rot, okArea (2 * m.h) (2 * m.h + m.k) a
  apart : (ara.areasL m.on m.slots m.rot).Pairwise (fun p q => ¬ Meets q p)
  segs : m.segs = segsL m
theorem up_pos {n : Int} (h : 1 ≤ n) : 1 ≤ upv n := by unfold upv; omega
theorem good_of {m : MetaV} (hB : MetaBd m) (h : checkRes m = 0) : Good m := by
  have hr := fun j hj => check_ok m 8 0 h j (Nat.zero_le _) hj
  have h0 : (secsRes m.u m.c m.h m.k).2 = 0 := by simpa [ruleB] using hr 0 (by omega)
  have h2 : slotsB m.slots = true := hr 2 (by omega)
  have h4 : rotB m = true := hr 4 (by omega)
  have h5 : segsEq m.segs (segsL m) = true := hr 5 (by omega)
  have h6 : ara.areasB m.on m.u m.h m.k m.slots m.rot = true := hr 6 (by omega)
  have hu := isUnit_bd (secs_facts h0 hB.c).1
  have hiu := (secs_facts h0 hB.c).1
  have hl := slots_len h2
  unfold slotsB at h2
  simp only [Bool.and_eq_true] at h2
  obtain ⟨⟨_, hri⟩, hall⟩ := h2
  unfold ara.areasB at h6
  simp only [Bool.and_eq_true] at h6
  obtain ⟨⟨hsz, hj⟩, hch⟩ := h6
  obtain ⟨c1, _, c3⟩ := chk_spec _ _ _ _ hch
  refine ⟨h0, hl, fun s hs => ?_, fun s hs => ?_, fun hon => ?_, fun a ha => ok_of (c1 a ha), c3.imp fun h => meets_of h, segsEq_eq _ _ h5⟩
  · have := riseB_bd _ _ _ hri s.f0 (List.mem_map_of_mem hs)
    omega
  · have e1 := List.all_eq_true.1 hsz s hs
    unfold ara.szOk at e1
    have e1' : s.f7.f1 = slotSize s.f6 := by simpa using e1
    have e2 := List.all_eq_true.1 hall s hs
    unfold slotOk inB at e2
    simp only [Bool.and_eq_true, decide_eq_true_eq] at e2
    obtain ⟨⟨_, q1, q2⟩, _⟩ := e2
    rw [e1']
    unfold slotSize
    rw [if_neg (by omega), if_neg (by omega)]
    exact up_pos (by omega)
  · unfold rotB at h4
    rw [hon, if_pos rfl] at h4
    unfold rotOn at h4
    simp only [Bool.and_eq_true, decide_eq_true_eq] at h4
    obtain ⟨⟨_, _, hmode, q1, q2, q3⟩, _⟩ := h4
    refine ⟨?_, q3⟩
    rw [hon] at hj
    have hj' : journalSize m.rot.mode m.rot.hot m.u ≤ m.rot.size := by simpa using hj
    have : 1 ≤ journalSize m.rot.mode m.rot.hot m.u := by
      unfold journalSize
      rw [if_neg (by rw [hiu]; simp; omega)]
      have hm : 1 ≤ m.rot.hot * m.u := by
        have := Int.mul_le_mul q1 hu.1 (by omega) (by omega)
        omega
      rcases hmode with e | e
      · rw [if_pos e]
        exact up_pos hm
      · rw [if_neg (by omega), if_pos e]
        exact up_pos (by omega)
    omega
/-- The areas as they are noted. -/
def clL (m : MetaV) : List Sp := m.slots.map (noteOf m.u m.rot.nx) ++ (if m.on then [spotOf m.u m.rot.nx (-1) m.rot.off m.rot.size] else [])
def prs (m : MetaV) : List ((Int × Int) × (Int × Int)) := m.slots.map (fun s => ((3, s.f0), ara.slA s)) ++ (if m.on then [((4, m.rot.nx), (m.rot.off, m.rot.size))] else [])
theorem prs_snd (m : MetaV) : (prs m).map Prod.snd = ara.areasL m.on m.slots m.rot := by
  unfold prs ara.areasL
  rw [List.map_append, List.map_map]
  congr 1
  cases m.on <;> rfl
theorem prs_cl {m : MetaV} (hn : ∀ s ∈ m.slots, 0 ≤ s.f0) : clL m = (prs m).map (fun p => inU m.u p.1.1 p.1.2 p.2) := by
  unfold clL prs
  rw [List.map_append, List.map_map]
  congr 1
  · refine List.map_congr_left fun s hs => ?_
    have := hn s hs
    show noteOf m.u m.rot.nx s = inU m.u 3 s.f0 (ara.slA s)
    unfold noteOf spotOf
    rw [if_neg (by omega)]
    rfl
  · cases m.on
    · rfl
    · show [spotOf m.u m.rot.nx (-1) m.rot.off m.rot.size] = [inU m.u 4 m.rot.nx (m.rot.off, m.rot.size)]
      unfold spotOf
      rw [if_pos (by omega)]
      rfl
theorem segsL_chain {m : MetaV} (hn : 1 ≤ nSec m) (hd : m.on = true → 0 ≤ m.rot.dn ∧ m.rot.dn ≤ nSec m) : SegChain ((segsL m).map segT) 0 (nSec m) := by
  unfold segsL
  by_cases ho : m.on = true
  · obtain ⟨d0, d1⟩ := hd ho
    rw [if_pos ho]
    generalize nSec m = n at *
    unfold segsOn
    cases m.rot.back
    · rw [if_neg (by simp)]
      unfold fil
      dsimp only
      by_cases e1 : m.rot.dn = 0
      · rw [if_pos e1, if_neg (by omega)]
        exact ⟨e1, by show 1 ≤ n - m.rot.dn; omega, by show 0 + (n - m.rot.dn) = n; omega⟩
      · rw [if_neg e1]
        by_cases e2 : n - m.rot.dn = 0
        · rw [if_pos e2]
          exact ⟨rfl, by show 1 ≤ m.rot.dn; omega, by show 0 + m.rot.dn = n; omega⟩
        · rw [if_neg e2]
          exact ⟨rfl, by show 1 ≤ m.rot.dn; omega, by show m.rot.dn = 0 + m.rot.dn; omega, by show 1 ≤ n - m.rot.dn; omega, by show 0 + m.rot.dn + (n - m.rot.dn) = n; omega⟩
    · rw [if_pos rfl]
      unfold fil
      dsimp only
      by_cases e1 : n - m.rot.dn = 0
      · rw [if_pos e1, if_neg (by omega)]
        exact ⟨e1, by show 1 ≤ m.rot.dn; omega, by show 0 + m.rot.dn = n; omega⟩
      · rw [if_neg e1]
        by_cases e2 : m.rot.dn = 0
        · rw [if_pos e2]
          exact ⟨rfl, by show 1 ≤ n - m.rot.dn; omega, by show 0 + (n - m.rot.dn) = n; omega⟩
        · rw [if_neg e2]
          exact ⟨rfl, by show 1 ≤ n - m.rot.dn; omega, by show n - m.rot.dn = 0 + (n - m.rot.dn); omega, by show 1 ≤ m.rot.dn; omega, by show 0 + (n - m.rot.dn) + m.rot.dn = n; omega⟩
  · rw [if_neg ho]
    exact ⟨rfl, hn, by show 0 + nSec m = nSec m; omega⟩
theorem apart_symm {p q : Sp} (h : Apart p q) : Apart q p := h.symm
/-- The plain law: without a gap, and three and one for each slot at the least. -/
theorem covers {m : MetaV} (hB : MetaBd m) (hG : Good m) {L : List Sp} (hL : SpotsIs (m.h / m.u) (2 * m.h / m.u) ((2 * m.h + m.k) / m.u) (clL m) (m.segs.map segT) L) : Chain L 0 m.c ∧ 3 + m.slots.length ≤ L.length := by
  obtain ⟨l', hp, hs, rfl⟩ := hL
  obtain ⟨f1, f2, f3, f4, f5, f6, f7, f8, f9, f10, f11⟩ := secs_facts hG.sec hB.c
  have hu := isUnit_of f1
  have hh := pow_4096 f2 f3 f4
  have hn0 : nSec m = m.c - (2 * m.h + m.k) / m.u := f10
  have hcl := prs_cl (m := m) (fun s hs => (hG.no s hs).1)
  have hmem : ∀ p ∈ prs m, okArea (2 * m.h) (2 * m.h + m.k) p.2 ∧ 1 ≤ p.2.2 ∧ (p.1.1 = 3 ∨ p.1.1 = 4) := by
    intro p hp'
    have h1 : okArea (2 * m.h) (2 * m.h + m.k) p.2 := hG.ok p.2 (by rw [← prs_snd]; exact List.mem_map_of_mem hp')
    refine ⟨h1, ?_⟩
    unfold prs at hp'
    rcases List.mem_append.1 hp' with h | h
    · obtain ⟨s, hs', rfl⟩ := List.mem_map.1 h
      exact ⟨hG.size s hs', .inl rfl⟩
    · by_cases ho : m.on = true
      · rw [if_pos ho] at h
        have := List.mem_singleton.1 h
        subst this
        exact ⟨(hG.rot ho).1, .inr rfl⟩
      · rw [if_neg ho] at h
        cases h
  have hap : (clL m).Pairwise Apart := by
    rw [hcl]
    refine areas_apart hu (prs m) ?_ (fun p hp' => ⟨(hmem p hp').1.1, (hmem p hp').1.2.1⟩)
    have := hG.apart
    rw [← prs_snd, List.pairwise_map] at this
    exact this
  have hap' : l'.Pairwise Apart := hp.symm.pairwise hap (fun {a b} h => apart_symm h)
  have hin : InOrder ((2 * m.h + m.k) / m.u) l' (2 * m.h / m.u) := by
    refine inOrder_of l' _ (fun p hp' => ?_) ?_ hs hap'
    · have hp2 := hp.mem_iff.1 hp'
      rw [hcl] at hp2
      obtain ⟨q, hq, rfl⟩ := List.mem_map.1 hp2
      obtain ⟨q1, q2, q3⟩ := hmem q hq
      obtain ⟨r1, r2, r3⟩ := inU_ok (x := q.1.1) (y := q.1.2) hu hh f7 q1 q2
      exact ⟨r1, r2, q3, r3⟩
    · rcases hu with e | e | e | e <;> rw [e] <;> omega
  have hseg := segsL_chain (m := m) (by rw [hn0]; omega) (fun ho => ⟨hB.dn, (hG.rot ho).2⟩)
  rw [← hG.segs] at hseg
  obtain ⟨r1, r2⟩ := all_chain (hd := m.h / m.u) (a := 2 * m.h / m.u) (E := (2 * m.h + m.k) / m.u) (by rcases hu with e | e | e | e <;> rw [e] <;> omega) (by rcases hu with e | e | e | e <;> rw [e] <;> omega) hin (by rw [hn0]; omega) hseg
  refine ⟨by have e : (2 * m.h + m.k) / m.u + nSec m = m.c := by rw [hn0]; omega
             rw [e] at r1; exact r1, ?_⟩
  have := hp.length_eq
  have : m.slots.length ≤ (clL m).length := by
    unfold clL
    rw [List.length_append, List.length_map]
    exact Nat.le_add_right _ _
  omega
end Go.Proofs.YtpmbfibjldnaiaaGreatDoor.covq
/-! ## SpotE -/
namespace Go.Proofs.YtpmbfibjldnaiaaGreatDoor.spote
open Go Go.RowKit Go.Proofs.YtpmbfibjldnaiaaGreatDoor.shapea Go.Proofs.YtpmbfibjldnaiaaGreatDoor.risea Go.Proofs.YtpmbfibjldnaiaaGreatDoor.slotsa Go.Proofs.YtpmbfibjldnaiaaGreatDoor.rota Go.Proofs.YtpmbfibjldnaiaaGreatDoor.rula Go.Proofs.YtpmbfibjldnaiaaGreatDoor.segb Go.Proofs.YtpmbfibjldnaiaaGreatDoor.segc Go.Proofs.YtpmbfibjldnaiaaGreatDoor.segd Go.Proofs.YtpmbfibjldnaiaaGreatDoor.metab Go.Proofs.YtpmbfibjldnaiaaGreatDoor.checka Go.Proofs.YtpmbfibjldnaiaaGreatDoor.covp Go.Proofs.YtpmbfibjldnaiaaGreatDoor.spota Go.Proofs.YtpmbfibjldnaiaaGreatDoor.spotb Go.Proofs.YtpmbfibjldnaiaaGreatDoor.spotc Go.Proofs.YtpmbfibjldnaiaaGreatDoor.spotd Go.Proofs.YtpmbfibjldnaiaaGreatDoor.covq Go.Proofs.YtpmbfibjldnaiaaGreatDoor.PProbeSpots Go.Proofs.YtpmbfibjldnaiaaGreatDoorW.PrintWords
set_option linter.unusedVariables false
set_option linter.unusedSimpArgs false
theorem segs_bd {m : MetaV} (hn : 1 ≤ nSec m ∧ nSec m ≤ 4294967296) (hd : m.on = true → 0 ≤ m.rot.dn ∧ m.rot.dn ≤ nSec m) : (segsL m).length ≤ 2 ∧ ∀ g ∈ segsL m, 0 ≤ g.f0 ∧ g.f0 ≤ 1099511627776 := by
  unfold segsL
  by_cases ho : m.on = true
  · obtain ⟨d0, d1⟩ := hd ho
    rw [if_pos ho]
    generalize nSec m = n at *
    unfold segsOn
    refine ⟨by split <;> exact fil_le _ _, fun g hg => ?_⟩
    split at hg
    · unfold fil at hg
      dsimp only at hg
      split at hg <;> split at hg <;> simp at hg
      · subst hg; constructor <;> dsimp only <;> omega
      · subst hg; constructor <;> dsimp only <;> omega
      · rcases hg with rfl | rfl <;> constructor <;> dsimp only <;> omega
    · unfold fil at hg
      dsimp only at hg
      split at hg <;> split at hg <;> simp at hg
      · subst hg; constructor <;> dsimp only <;> omega
      · subst hg; constructor <;> dsimp only <;> omega
      · rcases hg with rfl | rfl <;> constructor <;> dsimp only <;> omega
  · rw [if_neg ho]
    refine ⟨by simp, fun g hg => ?_⟩
    have := List.mem_singleton.1 hg
    subst this
    constructor <;> dsimp only <;> omega
/-- What lies on a device. -/
theorem spots_any (A11 A12 A13 A26 : Option Addr) (c11 c12 c13 c26 : Nat) (m : MetaV) (w : World) (hM : MetaIn w m A11 A12 A13 A26 c11 c12 c13 c26) (hB : MetaBd m) (hG : covq.Good m) :
    Calls Tryz.prog 12 #[.agg (mrow m A11 A12 A13 A26 c11 c12 c13 c26)] w (SpotsEnd w (m.h / m.u) (2 * m.h / m.u) ((2 * m.h + m.k) / m.u) (clL m) (m.segs.map segT)) := by
  obtain ⟨f1, f2, f3, f4, f5, f6, f7, f8, f9, f10, f11⟩ := secs_facts hG.sec hB.c
  have hu := isUnit_bd f1
  have hn0 : nSec m = m.c - (2 * m.h + m.k) / m.u := f10
  obtain ⟨s1, s2⟩ := segs_bd (m := m) (by rw [hn0]; omega) (fun ho => ⟨hB.dn, (hG.rot ho).2⟩)
  rw [← hG.segs] at s1 s2
  have hb : ∀ s ∈ m.slots, (0 ≤ s.f0 ∧ s.f0 ≤ 1000000) ∧ (0 ≤ s.f7.f0 ∧ s.f7.f0 ≤ 1099511627776) ∧ 0 ≤ s.f7.f1 ∧ s.f7.f1 ≤ 1099511627776 := by
    intro s hs
    have h1 := hG.no s hs
    have h2 := hG.size s hs
    obtain ⟨o1, o2, o3, o4, o5⟩ := hG.ok (ara.slA s) (by unfold ara.areasL; exact List.mem_append_left _ (List.mem_map_of_mem hs))
    have e1 : (ara.slA s).1 = s.f7.f0 := rfl
    have e2 : (ara.slA s).2 = s.f7.f1 := rfl
    rw [e1] at o3 o4 o5
    rw [e2] at o5
    omega
  have hl := hG.slen
  cases ho : m.on with
  | false =>
    have h := spots_off (.string m.label) (.string m.sub) (.string m.uuid) (.string m.salt) (.int .u64 m.c) (.int .i64 m.dt) (.string m.ds) (.string m.dd) (.slice A12 m.eps.length c12) (.slice A26 m.toks.length c26) m.u m.h m.k A11 A13 c11 c13 m.slots m.segs m.rot w hM.slots hl.1 (by omega) hM.segs (by omega) s2 (by omega) (by omega) f3 f4 f5 f6 hb
    unfold mrow clL
    rw [ho, if_neg (by simp), List.append_nil]
    exact h
  | true =>
    have hj := hG.rot ho
    obtain ⟨o1, o2, o3, o4, o5⟩ := hG.ok (m.rot.off, m.rot.size) (by unfold ara.areasL; rw [ho, if_pos rfl]; simp)
    dsimp only at o3 o4 o5
    have h := spots_on (.string m.label) (.string m.sub) (.string m.uuid) (.string m.salt) (.int .u64 m.c) (.int .i64 m.dt) (.string m.ds) (.string m.dd) (.slice A12 m.eps.length c12) (.slice A26 m.toks.length c26) m.u m.h m.k A11 A13 c11 c13 m.slots m.segs m.rot w hM.slots hl.1 (by omega) hM.segs (by omega) s2 (by omega) (by omega) f3 f4 f5 f6 hb (by omega) (by omega) (by omega) (by omega)
    unfold mrow clL
    rw [ho, if_pos rfl]
    exact h
theorem own_mono {w : World} {b b' n size : Nat} {e : TypeId} {v : Value} {xs : List Value} (h : w.ownsRow b e size v n xs) (hb : b' ≤ b) : w.ownsRow b' e size v n xs := by
  obtain ⟨h1, h2⟩ := h
  rcases h2 with h2 | ⟨g, cap, cur, q1, q2, q3⟩
  · exact ⟨h1, .inl h2⟩
  · exact ⟨h1, .inr ⟨g, cap, cur, q1, by omega, q3⟩⟩
/-- What probe.Spots answers. -/
def SpotsAns (w : World) (m : MetaV) (e : Ending) (w' : World) : Prop :=
  (checkRes m ≠ 0 ∧ e = .returned (.tuple #[.slice none 0 0, .int .i64 (checkRes m)]) ∧ Below w.heap.size w w') ∨
  (checkRes m = 0 ∧ ∃ (g cap : Nat) (L : List Sp), Chain L 0 m.c ∧ 3 + m.slots.length ≤ L.length ∧ e = .returned (.tuple #[.slice (some ⟨g, 0, none⟩) L.length cap, .int .i64 0]) ∧ w'.ownsRow w.heap.size 44 4 (.slice (some ⟨g, 0, none⟩) L.length cap) L.length (cellsS L) ∧ Below w.heap.size w w')
set_option maxHeartbeats 8000000 in
set_option maxRecDepth 100000 in
theorem spots_ans (A11 A12 A13 A26 : Option Addr) (c11 c12 c13 c26 : Nat) (m : MetaV) (w : World) (gs o : Nat) (hM : MetaIn w m A11 A12 A13 A26 c11 c12 c13 c26) (hB : MetaBd m) (hT : TabsAt w gs o) :
    Calls Tryz.prog 5 #[.agg (mrow m A11 A12 A13 A26 c11 c12 c13 c26)] w (SpotsAns w m) := by
  have HAN := Aside0.mk (fun W (hb : Below w.heap.size w W) => check_call A11 A12 A13 A26 c11 c12 c13 c26 m W gs o (hM.below hb) hB (hT.later hb))
  have HSP := Aside0.mk (fun W (hb : Below w.heap.size w W) (hG : covq.Good m) => spots_any A11 A12 A13 A26 c11 c12 c13 c26 m W (hM.below hb) hB hG)
  have HGD := Aside0.mk (fun h : checkRes m = 0 => good_of hB h)
  have HCV := Aside0.mk (fun (h : covq.Good m) L hL => covers hB h (L := L) hL)
  obtain ⟨cs, hcs⟩ : ∃ cs, cs = mrow m A11 A12 A13 A26 c11 c12 c13 c26 := ⟨_, rfl⟩
  rw [← hcs] at HAN HSP ⊢
  have h27 : cs.size = 27 := by rw [hcs]; rfl
  have HNM := Aside0.mk (blk_new w (.cells cs 36))
  have HZ := Aside0.mk (b_alloc w (.cells cs 36))
  have HIN : Aside0 ((Tryz.prog.info? 36).map (fun i => i.size) = some cs.size) := ⟨by rw [info36, h27]⟩
  clear hM hB hT hcs h27
  go_enter Tryz.func5, Tryz.ntmps5
  go_wp2_with ((with_reducible refine gateL (.load 36 (.tmp 1)) rfl ?_); refine wpList_load_row rfl 36 (.tmp 1) rfl w.heap.size rfl 36 cs (0, 0) _ HNM.out Tryz.underlying36 rfl HIN.out ?_)
  refine (HAN.out _ HZ.out).mono ?_
  rintro e W1 ⟨rfl, b1⟩
  have HB1 := Aside0.mk (Go.Proofs.YtpmbfibjldnaiaaGreatDoorW.PrintWords.below_step HZ.out b1)
  have HN1 := Aside0.mk ((b1.block w.heap.size (by simp)).trans HNM.out)
  clear b1
  by_cases hc : checkRes m = 0
  · have HC := Aside0.mk hc
    rw [hc]
    clear hc
    go_wp2_with ((with_reducible refine gateL (.load 36 (.tmp 1)) rfl ?_); refine wpList_load_row rfl 36 (.tmp 1) rfl w.heap.size rfl 36 cs (0, 0) _ HN1.out Tryz.underlying36 rfl HIN.out ?_)
    refine (HSP.out _ HB1.out (HGD.out HC.out)).mono ?_
    rintro e W2 ⟨g, cap, L, q1, rfl, q2, q3⟩
    have Q1 := Aside0.mk (HCV.out (HGD.out HC.out) L q1)
    have Q2 := Aside0.mk (own_mono q2 HB1.out.size)
    have Q3 := Aside0.mk (Go.Proofs.YtpmbfibjldnaiaaGreatDoorW.PrintWords.below_step HB1.out q3)
    clear q1 q2 q3
    go_wp2_with fail
    go_ret2
    exact .inr ⟨HC.out, g, cap, L, Q1.out.1, Q1.out.2, rfl, Q2.out, Q3.out⟩
  · have HC := Aside0.mk hc
    generalize hq : checkRes m = q at *
    go_wp2_with fail
    go_ret2
    unfold SpotsAns
    rw [hq]
    exact .inl ⟨HC.out, rfl, HB1.out⟩
end Go.Proofs.YtpmbfibjldnaiaaGreatDoor.spote
