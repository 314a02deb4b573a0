/- The metadata in one word; the eight rules in one form. (Written by gmeta.py.) What may be of metadata: ledger.Check. (Written by gchk.py.) (Merged by merge.py.) -/
import Derived.Test.YtpmbfibjldnaiaaGreatDoorMI
import Derived.Laws.EntriesVeiled
import Derived.Shelf.Lay
/-! ## MetaB -/
namespace Go.Proofs.YtpmbfibjldnaiaaGreatDoor.metab
open Go Go.RowKit Go.Proofs.YtpmbfibjldnaiaaGreatDoor.kindsc Go.Proofs.YtpmbfibjldnaiaaGreatDoor.kindsd Go.Proofs.YtpmbfibjldnaiaaGreatDoor.shapea Go.Proofs.YtpmbfibjldnaiaaGreatDoor.shapeb Go.Proofs.YtpmbfibjldnaiaaGreatDoor.risea Go.Proofs.YtpmbfibjldnaiaaGreatDoor.slotsa Go.Proofs.YtpmbfibjldnaiaaGreatDoor.epa Go.Proofs.YtpmbfibjldnaiaaGreatDoor.rota Go.Proofs.YtpmbfibjldnaiaaGreatDoor.sega Go.Proofs.YtpmbfibjldnaiaaGreatDoor.segb Go.Proofs.YtpmbfibjldnaiaaGreatDoor.segc Go.Proofs.YtpmbfibjldnaiaaGreatDoor.segd Go.Proofs.YtpmbfibjldnaiaaGreatDoor.rula Go.Proofs.YtpmbfibjldnaiaaGreatDoor.ara Go.Proofs.YtpmbfibjldnaiaaGreatDoor.toka Go.Proofs.YtpmbfibjldnaiaaGreatDoor.tokb Go.Proofs.YtpmbfibjldnaiaaGreatDoor.PProbeSpots Go.Proofs.YtpmbfibjldnaiaaGreatDoorW.PrintWords
set_option linter.unusedVariables false
set_option linter.unusedSimpArgs false
structure MetaV where
  label : ByteArray
  sub : ByteArray
  uuid : ByteArray
  salt : ByteArray
  u : Int
  c : Int
  h : Int
  k : Int
  dt : Int
  ds : ByteArray
  dd : ByteArray
  slots : List S53
  eps : List S91
  segs : List S65
  on : Bool
  rot : RotV
  toks : List S98
/-- Its 27 letters. -/
def mrow (m : MetaV) (A11 A12 A13 A26 : Option Addr) (c11 c12 c13 c26 : Nat) : Array Value := #[.string m.label, .string m.sub, .string m.uuid, .string m.salt, .int .i64 m.u, .int .u64 m.c, .int .i64 m.h, .int .i64 m.k, .int .i64 m.dt, .string m.ds, .string m.dd, .slice A11 m.slots.length c11, .slice A12 m.eps.length c12, .slice A13 m.segs.length c13, .bool m.on, .int .u64 m.rot.fr, .int .u64 m.rot.nx, .bool m.rot.back, .int .i64 m.rot.mode, .int .u64 m.rot.hot, .int .u64 m.rot.dn, .int .i64 m.rot.off, .int .i64 m.rot.size, .bool m.rot.act, .int .u64 m.rot.cnt, .string m.rot.sum, .slice A26 m.toks.length c26]
/-- What is read behind them. -/
structure MetaIn (w : World) (m : MetaV) (A11 A12 A13 A26 : Option Addr) (c11 c12 c13 c26 : Nat) : Prop where
  slots : Kd.C k53 w A11 m.slots.length m.slots
  eps : Kd.C k91 w A12 m.eps.length m.eps
  segs : Kd.C k65 w A13 m.segs.length m.segs
  toks : Kd.C k98 w A26 m.toks.length m.toks
theorem MetaIn.below {w W : World} {m : MetaV} {A11 A12 A13 A26 : Option Addr} {c11 c12 c13 c26 : Nat} (h : MetaIn w m A11 A12 A13 A26 c11 c12 c13 c26) (hb : Below w.heap.size w W) : MetaIn W m A11 A12 A13 A26 c11 c12 c13 c26 :=
  ⟨Kd.C_below h.slots hb, Kd.C_below h.eps hb, Kd.C_below h.segs hb, Kd.C_below h.toks hb⟩
/-- What every value of Go's is. -/
structure MetaBd (m : MetaV) : Prop where
  c : 0 ≤ m.c
  fr : 0 ≤ m.rot.fr
  nx : 0 ≤ m.rot.nx
  hot : 0 ≤ m.rot.hot
  dn : 0 ≤ m.rot.dn
  cnt : 0 ≤ m.rot.cnt
  slots : m.slots.length ≤ 4611686018427387904
  eps : m.eps.length ≤ 4611686018427387904
  segs : m.segs.length ≤ 4611686018427387904
  toks : m.toks.length ≤ 4611686018427387904
  ins : ∀ t ∈ m.toks, t.f2.length ≤ 4611686018427387904
/-- The package's tables. -/
structure TabsAt (W : World) (gs o : Nat) : Prop where
  units : UnitsAt W
  sizes : SizesAt W gs o
  u8 : U8At W
theorem TabsAt.later {W W' : World} {gs o : Nat} (h : TabsAt W gs o) (hb : Below W.heap.size W W') : TabsAt W' gs o := ⟨h.units.later hb, h.sizes.later hb, h.u8.later hb⟩
/-- The sectors of data; an epoch's number. -/
def nSec (m : MetaV) : Int := (secsRes m.u m.c m.h m.k).1
def epNo (m : MetaV) (i : Int) : Int := (rd_T91 m.eps i).f0
def rotB (m : MetaV) : Bool := if m.on then rotOn (nSec m) (epNo m 0) (epNo m 1) m.rot else rotZ false m.rot
def segsL (m : MetaV) : List S65 := if m.on then segsOn (nSec m) m.rot else [⟨0, nSec m, epNo m 0⟩]
/-- The rules, in their order. -/
def ruleB (m : MetaV) : Nat → Bool
  | 0 => (secsRes m.u m.c m.h m.k).2 == 0
  | 1 => digOk m.dt m.ds m.dd
  | 2 => slotsB m.slots
  | 3 => epochsB m.on m.eps
  | 4 => rotB m
  | 5 => segsEq m.segs (segsL m)
  | 6 => areasB m.on m.u m.h m.k m.slots m.rot
  | 7 => tokensB m.slots m.toks
  | _ => true
/-- Whose function a rule is. -/
def ruleF : Nat → Nat
  | 0 => 22
  | 1 => 24
  | 2 => 26
  | 3 => 27
  | 4 => 28
  | 5 => 29
  | 6 => 32
  | _ => 33
theorem secs_facts {u c h k : Int} (h0 : (secsRes u c h k).2 = 0) (hc : 0 ≤ c) : isUnit u = true ∧ powB h = true ∧ 16384 ≤ h ∧ h ≤ 4194304 ∧ 4096 ≤ k ∧ k ≤ 134217728 ∧ k % 4096 = 0 ∧ c ≤ 4294967296 ∧ (2 * h + k) / u < c ∧ (secsRes u c h k).1 = c - (2 * h + k) / u ∧ 0 ≤ (2 * h + k) / u := by
  unfold secsRes at h0 ⊢
  cases hs : secs u c h k with
  | none => rw [hs] at h0; exact absurd h0 (by decide)
  | some n =>
    unfold secs at hs
    split at hs
    · rename_i a
      split at hs
      · rename_i b
        split at hs
        · cases hs
        · rename_i d
          have hu := isUnit_bd a.1
          have hz : 0 ≤ (2 * h + k) / u := Int.ediv_nonneg (by omega) (by omega)
          exact ⟨a.1, a.2.1, a.2.2.1, a.2.2.2, b.1, b.2.1, b.2.2.1, b.2.2.2, by omega, by have := Option.some.inj hs; show n = _; omega, hz⟩
      · cases hs
    · cases hs
theorem rules_12 (A11 A12 A13 A26 : Option Addr) (c11 c12 c13 c26 : Nat) (m : MetaV) (w : World) (gs o : Nat) (hB : MetaBd m) (hT : TabsAt w gs o) : Calls Tryz.prog 22 #[.agg (mrow m A11 A12 A13 A26 c11 c12 c13 c26)] w (RuleEnd w (ruleB m 0)) ∧ Calls Tryz.prog 24 #[.agg (mrow m A11 A12 A13 A26 c11 c12 c13 c26)] w (RuleEnd w (ruleB m 1)) :=
  ⟨rule1_call (.string m.label) (.string m.sub) (.string m.uuid) (.string m.salt) (.int .i64 m.dt) (.string m.ds) (.string m.dd) (.slice A11 m.slots.length c11) (.slice A12 m.eps.length c12) (.slice A13 m.segs.length c13) (.bool m.on) (.int .u64 m.rot.fr) (.int .u64 m.rot.nx) (.bool m.rot.back) (.int .i64 m.rot.mode) (.int .u64 m.rot.hot) (.int .u64 m.rot.dn) (.int .i64 m.rot.off) (.int .i64 m.rot.size) (.bool m.rot.act) (.int .u64 m.rot.cnt) (.string m.rot.sum) (.slice A26 m.toks.length c26) m.u m.c m.h m.k w hB.c hT.units, rule2_call (.string m.label) (.string m.sub) (.string m.uuid) (.string m.salt) (.int .i64 m.u) (.int .u64 m.c) (.int .i64 m.h) (.int .i64 m.k) (.slice A11 m.slots.length c11) (.slice A12 m.eps.length c12) (.slice A13 m.segs.length c13) (.bool m.on) (.int .u64 m.rot.fr) (.int .u64 m.rot.nx) (.bool m.rot.back) (.int .i64 m.rot.mode) (.int .u64 m.rot.hot) (.int .u64 m.rot.dn) (.int .i64 m.rot.off) (.int .i64 m.rot.size) (.bool m.rot.act) (.int .u64 m.rot.cnt) (.string m.rot.sum) (.slice A26 m.toks.length c26) m.dt m.ds m.dd w⟩
theorem rule_slots (A11 A12 A13 A26 : Option Addr) (c11 c12 c13 c26 : Nat) (m : MetaV) (w : World) (gs o : Nat) (hM : MetaIn w m A11 A12 A13 A26 c11 c12 c13 c26) (hB : MetaBd m) (hT : TabsAt w gs o) : Calls Tryz.prog 26 #[.agg (mrow m A11 A12 A13 A26 c11 c12 c13 c26)] w (RuleEnd w (ruleB m 2)) :=
  slots_call (.string m.label) (.string m.sub) (.string m.uuid) (.string m.salt) (.int .i64 m.u) (.int .u64 m.c) (.int .i64 m.h) (.int .i64 m.k) (.int .i64 m.dt) (.string m.ds) (.string m.dd) (.slice A12 m.eps.length c12) (.slice A13 m.segs.length c13) (.bool m.on) (.int .u64 m.rot.fr) (.int .u64 m.rot.nx) (.bool m.rot.back) (.int .i64 m.rot.mode) (.int .u64 m.rot.hot) (.int .u64 m.rot.dn) (.int .i64 m.rot.off) (.int .i64 m.rot.size) (.bool m.rot.act) (.int .u64 m.rot.cnt) (.string m.rot.sum) (.slice A26 m.toks.length c26) A11 c11 m.slots gs o w hM.slots hB.slots hT.sizes
theorem rule_epochs (A11 A12 A13 A26 : Option Addr) (c11 c12 c13 c26 : Nat) (m : MetaV) (w : World) (gs o : Nat) (hM : MetaIn w m A11 A12 A13 A26 c11 c12 c13 c26) (hB : MetaBd m) (hT : TabsAt w gs o) : Calls Tryz.prog 27 #[.agg (mrow m A11 A12 A13 A26 c11 c12 c13 c26)] w (RuleEnd w (ruleB m 3)) :=
  epochs_call (.string m.label) (.string m.sub) (.string m.uuid) (.string m.salt) (.int .i64 m.u) (.int .u64 m.c) (.int .i64 m.h) (.int .i64 m.k) (.int .i64 m.dt) (.string m.ds) (.string m.dd) (.slice A11 m.slots.length c11) (.slice A13 m.segs.length c13) (.int .u64 m.rot.fr) (.int .u64 m.rot.nx) (.bool m.rot.back) (.int .i64 m.rot.mode) (.int .u64 m.rot.hot) (.int .u64 m.rot.dn) (.int .i64 m.rot.off) (.int .i64 m.rot.size) (.bool m.rot.act) (.int .u64 m.rot.cnt) (.string m.rot.sum) (.slice A26 m.toks.length c26) m.on A12 c12 m.eps gs o w hM.eps hB.eps hT.sizes
theorem eps_len {on : Bool} {l : List S91} (h : epochsB on l = true) : (l.length : Int) = wantE on := by
  unfold epochsB at h
  simp only [Bool.and_eq_true, beq_iff_eq] at h
  exact h.1.1
theorem rule_rotation (A11 A12 A13 A26 : Option Addr) (c11 c12 c13 c26 : Nat) (m : MetaV) (w : World) (gs o : Nat) (hM : MetaIn w m A11 A12 A13 A26 c11 c12 c13 c26) (hB : MetaBd m) (hT : TabsAt w gs o) (h0 : ruleB m 0 = true) (h3 : ruleB m 3 = true) : Calls Tryz.prog 28 #[.agg (mrow m A11 A12 A13 A26 c11 c12 c13 c26)] w (RuleEnd w (ruleB m 4)) := by
  have hs : (secsRes m.u m.c m.h m.k).2 = 0 := by simpa [ruleB] using h0
  obtain ⟨_, _, _, _, _, _, _, f8, f9, f10, f11⟩ := secs_facts hs hB.c
  have he := eps_len (on := m.on) (l := m.eps) h3
  show Calls _ _ _ _ (RuleEnd w (rotB m))
  unfold rotB mrow
  cases hon : m.on with
  | false => exact rotation_off (.string m.label) (.string m.sub) (.string m.uuid) (.string m.salt) (.int .i64 m.dt) (.string m.ds) (.string m.dd) (.slice A11 m.slots.length c11) (.slice A13 m.segs.length c13) (.slice A26 m.toks.length c26) m.u m.c m.h m.k A12 c12 m.eps m.rot w
  | true =>
    rw [hon] at he
    exact rotation_on (.string m.label) (.string m.sub) (.string m.uuid) (.string m.salt) (.int .i64 m.dt) (.string m.ds) (.string m.dd) (.slice A11 m.slots.length c11) (.slice A13 m.segs.length c13) (.slice A26 m.toks.length c26) m.u m.c m.h m.k A12 c12 m.eps m.rot w hM.eps (by simp [wantE] at he; omega) hB.c hT.units hB.fr hB.nx hB.hot hB.dn hB.cnt (by omega) (by omega)
theorem slots_len {l : List S53} (h : slotsB l = true) : 1 ≤ l.length ∧ l.length ≤ 32 := by
  unfold slotsB inB at h
  simp only [Bool.and_eq_true, decide_eq_true_eq] at h
  omega
theorem segs_call (A11 A12 A13 A26 : Option Addr) (c11 c12 c13 c26 : Nat) (m : MetaV) (w : World) (gs o : Nat) (hM : MetaIn w m A11 A12 A13 A26 c11 c12 c13 c26) (hB : MetaBd m) (hT : TabsAt w gs o) (h0 : ruleB m 0 = true) (h3 : ruleB m 3 = true) (h4 : ruleB m 4 = true) : Calls Tryz.prog 31 #[.agg (mrow m A11 A12 A13 A26 c11 c12 c13 c26)] w (SegEnd w (segsL m)) := by
  have hs : (secsRes m.u m.c m.h m.k).2 = 0 := by simpa [ruleB] using h0
  obtain ⟨_, _, _, _, _, _, _, f8, f9, f10, f11⟩ := secs_facts hs hB.c
  have he := eps_len (on := m.on) (l := m.eps) h3
  have h4' : rotB m = true := h4
  unfold rotB at h4'
  unfold segsL mrow
  have hl0 : 0 < m.eps.length := by unfold wantE at he; split at he <;> omega
  obtain ⟨ad, e0, a0, _⟩ := at_T91 hM.eps 0 (by omega) (by omega)
  have ea : ad.add (Int.toNat 0 * 5) = ad := by simp [Addr.add]
  rw [ea] at a0
  cases hon : m.on with
  | false =>
    rw [hon] at he
    have hl : m.eps.length = 1 := by simp [wantE] at he; omega
    rw [e0, hl]
    exact segments_off (.string m.label) (.string m.sub) (.string m.uuid) (.string m.salt) (.int .i64 m.dt) (.string m.ds) (.string m.dd) (.slice A11 m.slots.length c11) (.slice A13 m.segs.length c13) (.slice A26 m.toks.length c26) m.u m.c m.h m.k ad c12 (epNo m 0) m.rot w a0 hB.c hT.units hs
  | true =>
    rw [hon] at he h4'
    have hl : m.eps.length = 2 := by simp [wantE] at he; omega
    have hd : m.rot.dn ≤ nSec m := by
      have h5 : rotOn (nSec m) (epNo m 0) (epNo m 1) m.rot = true := h4'
      unfold rotOn at h5
      simp only [Bool.and_eq_true, decide_eq_true_eq] at h5
      exact h5.1.2.2.2.2.2
    rw [e0, hl]
    exact segments_on (.string m.label) (.string m.sub) (.string m.uuid) (.string m.salt) (.int .i64 m.dt) (.string m.ds) (.string m.dd) (.slice A11 m.slots.length c11) (.slice A13 m.segs.length c13) (.slice A26 m.toks.length c26) m.u m.c m.h m.k ad c12 m.rot w hB.c hT.units hs (by omega) (by omega) hB.dn hd
theorem rule_segments (A11 A12 A13 A26 : Option Addr) (c11 c12 c13 c26 : Nat) (m : MetaV) (w : World) (gs o : Nat) (hM : MetaIn w m A11 A12 A13 A26 c11 c12 c13 c26) (hB : MetaBd m) (hT : TabsAt w gs o) (h0 : ruleB m 0 = true) (h3 : ruleB m 3 = true) (h4 : ruleB m 4 = true) : Calls Tryz.prog 29 #[.agg (mrow m A11 A12 A13 A26 c11 c12 c13 c26)] w (RuleEnd w (ruleB m 5)) :=
  rule3_call (mrow m A11 A12 A13 A26 c11 c12 c13 c26) rfl A13 c13 m.segs (segsL m) rfl w hM.segs hB.segs fun W hb => segs_call A11 A12 A13 A26 c11 c12 c13 c26 m W gs o (hM.below hb) hB (hT.later hb) h0 h3 h4
theorem rule_areas (A11 A12 A13 A26 : Option Addr) (c11 c12 c13 c26 : Nat) (m : MetaV) (w : World) (gs o : Nat) (hM : MetaIn w m A11 A12 A13 A26 c11 c12 c13 c26) (hB : MetaBd m) (hT : TabsAt w gs o) (h0 : ruleB m 0 = true) (h2 : ruleB m 2 = true) : Calls Tryz.prog 32 #[.agg (mrow m A11 A12 A13 A26 c11 c12 c13 c26)] w (RuleEnd w (ruleB m 6)) := by
  have hs : (secsRes m.u m.c m.h m.k).2 = 0 := by simpa [ruleB] using h0
  obtain ⟨_, _, f3, f4, f5, f6, _⟩ := secs_facts hs hB.c
  obtain ⟨l1, l2⟩ := slots_len (l := m.slots) h2
  show Calls _ _ _ _ (RuleEnd w (areasB m.on m.u m.h m.k m.slots m.rot))
  unfold mrow
  cases hon : m.on with
  | false => exact areas_off (.string m.label) (.string m.sub) (.string m.uuid) (.string m.salt) (.int .u64 m.c) (.int .i64 m.dt) (.string m.ds) (.string m.dd) (.slice A12 m.eps.length c12) (.slice A13 m.segs.length c13) (.slice A26 m.toks.length c26) m.u m.h m.k A11 c11 m.slots m.rot w hM.slots l1 (by omega) f3 f4 f5 f6
  | true => exact areas_on (.string m.label) (.string m.sub) (.string m.uuid) (.string m.salt) (.int .u64 m.c) (.int .i64 m.dt) (.string m.ds) (.string m.dd) (.slice A12 m.eps.length c12) (.slice A13 m.segs.length c13) (.slice A26 m.toks.length c26) m.u m.h m.k A11 c11 m.slots m.rot w hM.slots l1 (by omega) f3 f4 f5 f6 hB.hot hT.units
theorem rule_tokens (A11 A12 A13 A26 : Option Addr) (c11 c12 c13 c26 : Nat) (m : MetaV) (w : World) (gs o : Nat) (hM : MetaIn w m A11 A12 A13 A26 c11 c12 c13 c26) (hB : MetaBd m) (hT : TabsAt w gs o) (h2 : ruleB m 2 = true) : Calls Tryz.prog 33 #[.agg (mrow m A11 A12 A13 A26 c11 c12 c13 c26)] w (RuleEnd w (ruleB m 7)) := by
  obtain ⟨l1, l2⟩ := slots_len (l := m.slots) h2
  exact tokens_call (.string m.label) (.string m.sub) (.string m.uuid) (.string m.salt) (.int .i64 m.u) (.int .u64 m.c) (.int .i64 m.h) (.int .i64 m.k) (.int .i64 m.dt) (.string m.ds) (.string m.dd) (.slice A12 m.eps.length c12) (.slice A13 m.segs.length c13) (.bool m.on) (.int .u64 m.rot.fr) (.int .u64 m.rot.nx) (.bool m.rot.back) (.int .i64 m.rot.mode) (.int .u64 m.rot.hot) (.int .u64 m.rot.dn) (.int .i64 m.rot.off) (.int .i64 m.rot.size) (.bool m.rot.act) (.int .u64 m.rot.cnt) (.string m.rot.sum) A11 A26 c11 c26 m.slots m.toks w hM.slots (by omega) hM.toks hB.toks hB.ins hT.u8
/-- Any rule, if those ahead of it hold. -/
theorem rule_any (A11 A12 A13 A26 : Option Addr) (c11 c12 c13 c26 : Nat) (m : MetaV) (w : World) (gs o : Nat) (hM : MetaIn w m A11 A12 A13 A26 c11 c12 c13 c26) (hB : MetaBd m) (hT : TabsAt w gs o) (i : Nat) (hi : i < 8) (ha : ∀ j, j < i → ruleB m j = true) : Calls Tryz.prog (ruleF i) #[.agg (mrow m A11 A12 A13 A26 c11 c12 c13 c26)] w (RuleEnd w (ruleB m i)) :=
  match i, hi, ha with
  | 0, _, _ => (rules_12 A11 A12 A13 A26 c11 c12 c13 c26 m w gs o hB hT).1
  | 1, _, _ => (rules_12 A11 A12 A13 A26 c11 c12 c13 c26 m w gs o hB hT).2
  | 2, _, _ => rule_slots A11 A12 A13 A26 c11 c12 c13 c26 m w gs o hM hB hT
  | 3, _, _ => rule_epochs A11 A12 A13 A26 c11 c12 c13 c26 m w gs o hM hB hT
  | 4, _, h => rule_rotation A11 A12 A13 A26 c11 c12 c13 c26 m w gs o hM hB hT (h 0 (by omega)) (h 3 (by omega))
  | 5, _, h => rule_segments A11 A12 A13 A26 c11 c12 c13 c26 m w gs o hM hB hT (h 0 (by omega)) (h 3 (by omega)) (h 4 (by omega))
  | 6, _, h => rule_areas A11 A12 A13 A26 c11 c12 c13 c26 m w gs o hM hB hT (h 0 (by omega)) (h 2 (by omega))
  | 7, _, h => rule_tokens A11 A12 A13 A26 c11 c12 c13 c26 m w gs o hM hB hT (h 2 (by omega))
end Go.Proofs.YtpmbfibjldnaiaaGreatDoor.metab
/-! ## CheckA -/
namespace Go.Proofs.YtpmbfibjldnaiaaGreatDoor.checka
open Go Go.RowKit Go.Proofs.YtpmbfibjldnaiaaGreatDoor.shapea Go.Proofs.YtpmbfibjldnaiaaGreatDoor.rota Go.Proofs.YtpmbfibjldnaiaaGreatDoor.rula Go.Proofs.YtpmbfibjldnaiaaGreatDoor.metab Go.Proofs.YtpmbfibjldnaiaaGreatDoor.PProbeSpots Go.Proofs.YtpmbfibjldnaiaaGreatDoorW.PrintWords
set_option linter.unusedVariables false
set_option linter.unusedSimpArgs false
/-- The rules lie in block g. -/
structure RulesAt (W : World) (g : Nat) : Prop where
  at_ : ∀ i, i < 8 → W.cell? ⟨g, i * 2, none⟩ = some (.int .i64 ((90 + i : Nat) : Int)) ∧ W.cell? ⟨g, i * 2 + 1, none⟩ = some (.func (.func (ruleF i)) #[] #[])
  lt : g < W.heap.size
theorem RulesAt.below {W W' : World} {g B : Nat} (h : RulesAt W g) (hb : Below B W W') (hg : g < B) : RulesAt W' g :=
  ⟨fun i hi => ⟨(hb.cell (p := ⟨g, i * 2, none⟩) hg).trans (h.at_ i hi).1, (hb.cell (p := ⟨g, i * 2 + 1, none⟩) hg).trans (h.at_ i hi).2⟩, Nat.lt_of_lt_of_le h.lt hb.size⟩
theorem ruleF_enters (i : Nat) (hi : i < 8) : ∀ args w, (callFunc (ruleF i) args).run Tryz.prog w = .ok (.enter (ruleF i) args) w :=
  match i, hi with
  | 0, _ => enters_of Tryz.func22 (by kernel_rfl) rfl
  | 1, _ => enters_of Tryz.func24 (by kernel_rfl) rfl
  | 2, _ => enters_of Tryz.func26 (by kernel_rfl) rfl
  | 3, _ => enters_of Tryz.func27 (by kernel_rfl) rfl
  | 4, _ => enters_of Tryz.func28 (by kernel_rfl) rfl
  | 5, _ => enters_of Tryz.func29 (by kernel_rfl) rfl
  | 6, _ => enters_of Tryz.func32 (by kernel_rfl) rfl
  | 7, _ => enters_of Tryz.func33 (by kernel_rfl) rfl
def RulesEnd (w : World) (e : Ending) (w' : World) : Prop := ∃ g, e = .returned (.slice (some ⟨g, 0, none⟩) 8 8) ∧ RulesAt w' g ∧ w.heap.size ≤ g ∧ Below w.heap.size w w'
set_option maxHeartbeats 4000000 in
set_option maxRecDepth 100000 in
theorem rules_call (w : World) : Calls Tryz.prog 13 #[] w (RulesEnd w) := by
  go_enter Tryz.func13, Tryz.ntmps13
  go_wp2_with fail
  go_ret
  refine ⟨w.heap.size, rfl, ⟨fun i hi => ?_, by simp⟩, Nat.le_refl _, b_alloc w _⟩
  match i, hi with
  | 0, _ => exact ⟨(blk_cell (blk_new w _) 0).trans rfl, (blk_cell (blk_new w _) 1).trans rfl⟩
  | 1, _ => exact ⟨(blk_cell (blk_new w _) 2).trans rfl, (blk_cell (blk_new w _) 3).trans rfl⟩
  | 2, _ => exact ⟨(blk_cell (blk_new w _) 4).trans rfl, (blk_cell (blk_new w _) 5).trans rfl⟩
  | 3, _ => exact ⟨(blk_cell (blk_new w _) 6).trans rfl, (blk_cell (blk_new w _) 7).trans rfl⟩
  | 4, _ => exact ⟨(blk_cell (blk_new w _) 8).trans rfl, (blk_cell (blk_new w _) 9).trans rfl⟩
  | 5, _ => exact ⟨(blk_cell (blk_new w _) 10).trans rfl, (blk_cell (blk_new w _) 11).trans rfl⟩
  | 6, _ => exact ⟨(blk_cell (blk_new w _) 12).trans rfl, (blk_cell (blk_new w _) 13).trans rfl⟩
  | 7, _ => exact ⟨(blk_cell (blk_new w _) 14).trans rfl, (blk_cell (blk_new w _) 15).trans rfl⟩
/-- The first rule that does not hold. -/
def checkFrom (m : MetaV) : Nat → Nat → Int
  | _, 0 => 0
  | i, n + 1 => if ruleB m i then checkFrom m (i + 1) n else ((90 + i : Nat) : Int)
def checkRes (m : MetaV) : Int := checkFrom m 0 8
theorem check_ok : ∀ (m : MetaV) (n i : Nat), checkFrom m i n = 0 → ∀ j, i ≤ j → j < i + n → ruleB m j = true
  | m, 0, i, h, j, h1, h2 => by omega
  | m, n + 1, i, h, j, h1, h2 => by
    unfold checkFrom at h
    cases hr : ruleB m i with
    | true =>
      rw [hr, if_pos rfl] at h
      rcases Nat.eq_or_lt_of_le h1 with e | e
      · rw [← e]; exact hr
      · exact check_ok m n (i + 1) h j (by omega) (by omega)
    | false =>
      rw [hr] at h
      exfalso
      have h' : ((90 + i : Nat) : Int) = 0 := h
      omega
def IntEnd (w : World) (n : Int) (e : Ending) (w' : World) : Prop := e = .returned (.int .i64 n) ∧ Below w.heap.size w w'
theorem gateL {P : Program} {ops : Array Oper} {Q : Exit → Act → World → Prop} {rest : List Oper} {o : Oper} {a : Act} {W : World} (x : Op) (_ho : o.op = x) (h : wpList P ops Q (o :: rest) a W) : wpList P ops Q (o :: rest) a W := h
set_option maxHeartbeats 8000000 in
set_option maxRecDepth 100000 in
theorem check_call (A11 A12 A13 A26 : Option Addr) (c11 c12 c13 c26 : Nat) (m : MetaV) (w : World) (gs o : Nat) (hM : MetaIn w m A11 A12 A13 A26 c11 c12 c13 c26) (hB : MetaBd m) (hT : TabsAt w gs o) :
    Calls Tryz.prog 7 #[.agg (mrow m A11 A12 A13 A26 c11 c12 c13 c26)] w (IntEnd w (checkRes m)) := by
  have HAN := Aside0.mk (fun W (hb : Below w.heap.size w W) i hi ha => rule_any A11 A12 A13 A26 c11 c12 c13 c26 m W gs o (hM.below hb) hB (hT.later hb) i hi ha)
  obtain ⟨cs, hcs⟩ : ∃ cs, cs = mrow m A11 A12 A13 A26 c11 c12 c13 c26 := ⟨_, rfl⟩
  rw [← hcs] at HAN ⊢
  have h27 : cs.size = 27 := by rw [hcs]; rfl
  have HNM := Aside0.mk (blk_new w (.cells cs 36))
  have HZ := Aside0.mk (b_alloc w (.cells cs 36))
  have HIN : Aside0 ((Tryz.prog.info? 36).map (fun i => i.size) = some cs.size) := ⟨by rw [info36, h27]⟩
  clear hM hB hT hcs h27
  go_enter Tryz.func7, Tryz.ntmps7
  go_wp2_with fail
  refine (rules_call _).mono ?_
  rintro e W1 ⟨g, rfl, g1, g2, g3⟩
  have HG := Aside0.mk g1
  have hg : w.heap.size + 1 ≤ g := by simpa using g2
  have HW1 : Aside0 (Below (w.heap.size + 1) (w.alloc (.cells cs 36)) W1) := ⟨g3.mono (by simp)⟩
  clear g1 g2 g3
  go_wp2_with fail
  go_loopg [7] 9 (fun kq s7 wr => ∃ i : Nat, Aside0 (s7 = .int .i64 (i : Int)) ∧ Aside0 (i ≤ 8 ∧ kq + i = 9) ∧ Aside0 (checkRes m = checkFrom m i (8 - i)) ∧ Aside0 (∀ j, j < i → ruleB m j = true) ∧ Aside0 (RulesAt wr g) ∧ Aside0 (Below (w.heap.size + 1) (w.alloc (.cells cs 36)) wr))
  case atStart => exact ⟨0, ⟨rfl⟩, ⟨by omega⟩, ⟨rfl⟩, ⟨fun j hj => by omega⟩, HG, HW1⟩
  case round =>
    obtain ⟨i, H7, HI, HF, HA, HGR, HB⟩ := hrel
    obtain rfl := H7.out
    obtain ⟨hi, hk⟩ := HI.out
    have HQ := Aside0.mk hk
    clear hk
    have hbs : w.heap.size + 1 ≤ wr.heap.size := by have := HB.out.size; simp at this; omega
    have HBW : Aside0 (Below w.heap.size w wr) := ⟨HZ.out.trans (HB.out.mono (Nat.le_succ _))⟩
    by_cases hlt : i < 8
    · obtain ⟨d0, d1⟩ := HGR.out.at_ i hlt
      have hgl := HGR.out.lt
      have HRU := Aside0.mk (fun W (hb : Below w.heap.size w W) => HAN.out W hb i hlt HA.out)
      have hm0 := (HB.out.block _ (Nat.lt_succ_self _)).trans HNM.out
      have HBK : Aside0 ((wr.alloc (.cells #[.int .i64 ((90 + i : Nat) : Int), .func (.func (ruleF i)) #[] #[]] 58)).heap[w.heap.size]? = some (.cells cs 36 (0, 0))) := ⟨((b_alloc wr _).block _ (by omega)).trans hm0⟩
      have HST : Aside0 (checkRes m = if ruleB m i then checkFrom m (i + 1) (8 - (i + 1)) else ((90 + i : Nat) : Int)) := ⟨by
        rw [HF.out]
        obtain ⟨q, hq⟩ : ∃ q, 8 - i = q + 1 := ⟨7 - i, by omega⟩
        have hq2 : 8 - (i + 1) = q := by omega
        rw [hq, hq2]
        rfl⟩
      have gi : (0 : Int) ≤ (i : Int) := by omega
      have eg := ruleF_enters i hlt
      clear hm0
      generalize hN : ((90 + i : Nat) : Int) = N at *
      clear hN
      cases hr : ruleB m i with
      | false => 
        rw [hr] at HRU HST
        go_wp2_with ((with_reducible refine gateL (.load 36 (.tmp 1)) rfl ?_); refine wpList_load_row rfl 36 (.tmp 1) rfl w.heap.size rfl 36 cs (0, 0) _ HBK.out Tryz.underlying36 rfl HIN.out ?_)
        refine (HRU.out _ (HBW.out.alloc HBW.out.size _)).mono ?_
        rintro e W2 ⟨rfl, hb2⟩
        have qr := (hb2.block _ (by simp)).trans (blk_new wr (.cells #[.int .i64 N, .func (.func (ruleF i)) #[] #[]] 58))
        have r0 : W2.cell? ⟨wr.heap.size, 0, none⟩ = some (.int .i64 N) := (blk_cell qr 0).trans rfl
        have HB2 : Aside0 (Below (w.heap.size + 1) (w.alloc (.cells cs 36)) W2) := ⟨(HB.out.alloc hbs _).trans (hb2.mono (by simp; omega))⟩
        have HG2 : Aside0 (RulesAt W2 g) := ⟨(HGR.out.below (b_alloc wr _) hgl).below hb2 (by simp; omega)⟩
        clear hb2 qr
        go_wp2_with fail
        go_ret
        exact ⟨by rw [HST.out]; rfl, HZ.out.trans (HB2.out.mono (Nat.le_succ _))⟩
      | true => 
        rw [hr] at HRU HST
        go_wp2_with ((with_reducible refine gateL (.load 36 (.tmp 1)) rfl ?_); refine wpList_load_row rfl 36 (.tmp 1) rfl w.heap.size rfl 36 cs (0, 0) _ HBK.out Tryz.underlying36 rfl HIN.out ?_)
        refine (HRU.out _ (HBW.out.alloc HBW.out.size _)).mono ?_
        rintro e W2 ⟨rfl, hb2⟩
        have qr := (hb2.block _ (by simp)).trans (blk_new wr (.cells #[.int .i64 N, .func (.func (ruleF i)) #[] #[]] 58))
        have r0 : W2.cell? ⟨wr.heap.size, 0, none⟩ = some (.int .i64 N) := (blk_cell qr 0).trans rfl
        have HB2 : Aside0 (Below (w.heap.size + 1) (w.alloc (.cells cs 36)) W2) := ⟨(HB.out.alloc hbs _).trans (hb2.mono (by simp; omega))⟩
        have HG2 : Aside0 (RulesAt W2 g) := ⟨(HGR.out.below (b_alloc wr _) hgl).below hb2 (by simp; omega)⟩
        clear hb2 qr
        have HR1 := Aside0.mk hr
        clear hr
        go_wp2_with fail
        go_roundg (8 - i)
        case rel =>
          refine ⟨i + 1, ⟨by go_num⟩, ⟨by omega, by omega⟩, ⟨by rw [HST.out]; rfl⟩, ⟨fun j hj => ?_⟩, HG2, HB2⟩
          rcases Nat.lt_succ_iff_lt_or_eq.1 hj with q | q
          · exact HA.out j q
          · rw [q]
            exact HR1.out
        case measure => have := HQ.out; omega
    · obtain rfl : i = 8 := by omega
      go_wp2_with fail
      go_ret
      refine ⟨?_, HBW.out⟩
      rw [HF.out]
      rfl
end Go.Proofs.YtpmbfibjldnaiaaGreatDoor.checka
