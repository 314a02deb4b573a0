/- The reference's reader of a line: what it asks of a byte. The reference's reader of a line: the switch of a round, what it leaves. (Merged by merge.py.) -/
import Derived.Test.YtkoldjmhcifpjaaMH
import Derived.Deep.LoopGhost
import Derived.Laws.IdiomStrings
import Derived.Maps.AppendAt
import Derived.Deep.DeepCutAuto
import Derived.Outline
/-! ## RefA -/
namespace Go.Proofs.Ytkoldjmhcifpjaa.refa
open Go Go.RowKit Go.Proofs.Ytkoldjmhcifpjaa.parsep Go.Proofs.Ytkoldjmhcifpjaa.reada Go.Proofs.Ytkoldjmhcifpjaa.readi Go.Proofs.Ytkoldjmhcifpjaa.PShellReads Go.Proofs.YtkoldjmhcifpjaaW.PrintWords
set_option linter.unusedVariables false
theorem rfine_f (c : UInt8) : cofferref16_fine.f (c.toNat : Int) = some (fine c) := of_decide_eq_true (all_u8 (p := fun c => decide (cofferref16_fine.f (c.toNat : Int) = some (fine c))) (by decide +kernel) c)
theorem rblank_f (c : UInt8) : cofferref16_blank.f (c.toNat : Int) = some (isBl c) := of_decide_eq_true (all_u8 (p := fun c => decide (cofferref16_blank.f (c.toNat : Int) = some (isBl c))) (by decide +kernel) c)
theorem rletter_f (c : UInt8) : cofferref16_letter.f (c.toNat : Int) = some (isLet c) := of_decide_eq_true (all_u8 (p := fun c => decide (cofferref16_letter.f (c.toNat : Int) = some (isLet c))) (by decide +kernel) c)
theorem rdigit_f (c : UInt8) : cofferref16_digit.f (c.toNat : Int) = some (isDig c) := of_decide_eq_true (all_u8 (p := fun c => decide (cofferref16_digit.f (c.toNat : Int) = some (isDig c))) (by decide +kernel) c)
/-- The value of a hexadecimal digit, -1 else. -/
def hx (c : UInt8) : Int := if isHex c then ((hexv c).toNat : Int) else -1
theorem rhexa_f (c : UInt8) : cofferref16_hexa.f 4 (c.toNat : Int) = some (hx c) := of_decide_eq_true (all_u8 (p := fun c => decide (cofferref16_hexa.f 4 (c.toNat : Int) = some (hx c))) (by decide +kernel) c)
theorem fineQ (c : UInt8) (W : World) : Calls Try.prog 12 #[.int .u8 (c.toNat : Int)] W fun e w' => e = .returned (.bool (fine c)) ∧ ∃ m, w' = W.drewN m := (cofferref16_fine.calls _ _ W (rfine_f c)).mono fun e w' ⟨h1, h2⟩ => ⟨h1, h2.out⟩
theorem rblankQ (c : UInt8) (W : World) : Calls Try.prog 13 #[.int .u8 (c.toNat : Int)] W fun e w' => e = .returned (.bool (isBl c)) ∧ ∃ m, w' = W.drewN m := (cofferref16_blank.calls _ _ W (rblank_f c)).mono fun e w' ⟨h1, h2⟩ => ⟨h1, h2.out⟩
theorem letterQ (c : UInt8) (W : World) : Calls Try.prog 14 #[.int .u8 (c.toNat : Int)] W fun e w' => e = .returned (.bool (isLet c)) ∧ ∃ m, w' = W.drewN m := (cofferref16_letter.calls _ _ W (rletter_f c)).mono fun e w' ⟨h1, h2⟩ => ⟨h1, h2.out⟩
theorem digitQ (c : UInt8) (W : World) : Calls Try.prog 15 #[.int .u8 (c.toNat : Int)] W fun e w' => e = .returned (.bool (isDig c)) ∧ ∃ m, w' = W.drewN m := (cofferref16_digit.calls _ _ W (rdigit_f c)).mono fun e w' ⟨h1, h2⟩ => ⟨h1, h2.out⟩
theorem hexaQ (c : UInt8) (W : World) : Calls Try.prog 16 #[.int .u8 (c.toNat : Int)] W fun e w' => e = .returned (.int .i64 (hx c)) ∧ ∃ m, w' = W.drewN m := (cofferref16_hexa.calls _ _ _ W (rhexa_f c)).mono fun e w' ⟨h1, h2⟩ => ⟨h1, h2.out⟩
end Go.Proofs.Ytkoldjmhcifpjaa.refa
/-! ## RefC -/
namespace Go.Proofs.Ytkoldjmhcifpjaa.refc
open Go Go.RowKit Go.Proofs.Ytkoldjmhcifpjaa.parsep Go.Proofs.Ytkoldjmhcifpjaa.reada Go.Proofs.Ytkoldjmhcifpjaa.readi Go.Proofs.Ytkoldjmhcifpjaa.refa Go.Proofs.Ytkoldjmhcifpjaa.PShellReads Go.Proofs.YtkoldjmhcifpjaaW.PrintWords
set_option linter.unusedVariables false
set_option linter.unusedSimpArgs false
/-- The switch of the loop's round. -/
def swOf : Code → Code
  | .seq _ (.seq _ (.seq _ (.seq _ (.seq _ (.seq _ (.seq _ (.seq _ (.seq _ (.seq (.seq _ (.block _ (.loop (.seq _ (.seq (.block _ (.seq _ (.seq _ (.seq _ (.seq _ (.seq _ (.seq (.seq _ c) _))))))) _))))) _))))))))) => c
  | _ => .skip
noncomputable def swC : Code := swOf (Try.f6.body.getD .skip)
/-- What lies where at the loop's head: the result's cell, the zero line. -/
structure Rz (w W : World) : Prop where
  below : Below w.heap.size w W
  z0 : W.heap[w.heap.size]? = some (.cells #[.string ⟨#[]⟩, .string ⟨#[]⟩, .slice none 0 0] 25 (0, 0))
  z1 : W.heap[w.heap.size + 1]? = some (.cells #[.string ⟨#[]⟩, .string ⟨#[]⟩, .slice none 0 0] 25 (0, 0))
/-- The line, too. -/
structure Rq (w W : World) (L : Ln) (v : Value) : Prop where
  z : Rz w W
  ln : LnS w.heap.size W (w.heap.size + 1 + 1) L v
/-- What the switch leaves: a byte (or the end: en) read in the state x. -/
def SwR (w : World) (x : Sv) (c : UInt8) (en : Bool) (v7 v8 v9 v10 v11 v16 : Value) (W : World) : Prop :=
  ∃ bad : Bool, v16 = .bool bad ∧ Rz w W ∧ (bad = true → (if en then stepe x = none else stepc x c = none)) ∧
    (bad = false → ∃ x' v', (if en then stepe x = some x'.ln else stepc x c = some x') ∧ v7 = .int .i64 (x'.st : Int) ∧ v8 = .int .i64 (x'.fields : Int) ∧ v9 = .string ⟨x'.word.toArray⟩ ∧ v10 = .string ⟨x'.val.toArray⟩ ∧ v11 = .int .i64 (x'.half.toNat : Int) ∧ Rq w W x'.ln v')
theorem conv1 (W : World) (c : UInt8) : (Go.convert 39 9 (.slice (some ⟨W.heap.size, 0, none⟩) 1 1)).run Try.prog (W.alloc (.cells #[.int .u8 (c.toNat : Int)] 5)) = .ok (.string ⟨#[c]⟩) (W.alloc (.cells #[.int .u8 (c.toNat : Int)] 5)) :=
  run_convert_bytes_back _ 39 9 5 ⟨W.heap.size, 0, none⟩ 1 [c] Try.underlying39 Try.underlying5 Try.underlying9 (fun j hj => by
    obtain rfl : j = 0 := by simpa using hj
    exact (blk_cell (blk_new W _) 0).trans rfl)
theorem str_snoc (l : Bs) (c : UInt8) : (⟨l.toArray⟩ : ByteArray) ++ ⟨#[c]⟩ = ⟨(l ++ [c]).toArray⟩ := by
  apply ByteArray.ext
  simp [ByteArray.data_append]
theorem conv1d (W : World) (m : Nat) (c : UInt8) : (Go.convert 39 9 (.slice (some ⟨W.heap.size, 0, none⟩) 1 1)).run Try.prog ((W.drewN m).alloc (.cells #[.int .u8 (c.toNat : Int)] 5)) = .ok (.string ⟨#[c]⟩) ((W.drewN m).alloc (.cells #[.int .u8 (c.toNat : Int)] 5)) := conv1 (W.drewN m) c
theorem conv1d2 (W : World) (m m2 : Nat) (c : UInt8) : (Go.convert 39 9 (.slice (some ⟨W.heap.size, 0, none⟩) 1 1)).run Try.prog (((W.drewN m).drewN m2).alloc (.cells #[.int .u8 (c.toNat : Int)] 5)) = .ok (.string ⟨#[c]⟩) (((W.drewN m).drewN m2).alloc (.cells #[.int .u8 (c.toNat : Int)] 5)) := conv1 ((W.drewN m).drewN m2) c
theorem conv1d3 (W : World) (m m2 m3 : Nat) (c : UInt8) : (Go.convert 39 9 (.slice (some ⟨W.heap.size, 0, none⟩) 1 1)).run Try.prog ((((W.drewN m).drewN m2).drewN m3).alloc (.cells #[.int .u8 (c.toNat : Int)] 5)) = .ok (.string ⟨#[c]⟩) ((((W.drewN m).drewN m2).drewN m3).alloc (.cells #[.int .u8 (c.toNat : Int)] 5)) := conv1 (((W.drewN m).drewN m2).drewN m3) c
theorem SwR.good {w W' : World} {x : Sv} {c : UInt8} {en : Bool} {v7 v8 v9 v10 v11 : Value} (x' : Sv) (v' : Value) (h7 : v7 = .int .i64 (x'.st : Int)) (h8 : v8 = .int .i64 (x'.fields : Int)) (h9 : v9 = .string ⟨x'.word.toArray⟩) (h10 : v10 = .string ⟨x'.val.toArray⟩) (h11 : v11 = .int .i64 (x'.half.toNat : Int))
    (hq : Rq w W' x'.ln v') (h : if en = true then stepe x = some x'.ln else stepc x c = some x') : SwR w x c en v7 v8 v9 v10 v11 (.bool false) W' :=
  ⟨false, rfl, hq.z, fun h => (Bool.false_ne_true h).elim, fun _ => ⟨x', v', h, h7, h8, h9, h10, h11, hq⟩⟩
theorem SwR.bad {w W' : World} {x : Sv} {c : UInt8} {en : Bool} {v7 v8 v9 v10 v11 : Value} (hz : Rz w W') (h : if en = true then stepe x = none else stepc x c = none) : SwR w x c en v7 v8 v9 v10 v11 (.bool true) W' :=
  ⟨true, rfl, hz, fun _ => h, fun h => (Bool.false_ne_true h.symm).elim⟩
theorem rz_alloc {w W : World} (h : Rz w W) (o : Obj) : Rz w (W.alloc o) :=
  ⟨h.below.alloc h.below.size _, blk_alloc h.z0 _, blk_alloc h.z1 _⟩
theorem rz_drewN {w W : World} (h : Rz w W) (n : Nat) : Rz w (W.drewN n) := ⟨⟨h.below.os, h.below.tape, h.below.output, h.below.size, h.below.block⟩, h.z0, h.z1⟩
theorem rq_alloc {w W : World} {L : Ln} {v : Value} (h : Rq w W L v) (o : Obj) : Rq w (W.alloc o) L v := ⟨rz_alloc h.z o, ⟨blk_alloc h.ln.blk _, h.ln.row.alloc _⟩⟩
theorem rq_drewN {w W : World} {L : Ln} {v : Value} (h : Rq w W L v) (n : Nat) : Rq w (W.drewN n) L v := ⟨rz_drewN h.z n, ⟨h.ln.blk, h.ln.row⟩⟩
theorem rz_set {w W : World} (h : Rz w W) (i : Nat) (u : Value) : Rz w (W.setCell ⟨w.heap.size + 1 + 1, i, none⟩ u) := by
  have hk : KeepBut W (W.setCell ⟨w.heap.size + 1 + 1, i, none⟩ u) (w.heap.size + 1 + 1) none := KeepBut.set_ (KeepBut.refl _ _ _) _ _
  exact ⟨h.below.setCell (by simp; omega) _, hk.blk h.z0 (by omega) (by simp), hk.blk h.z1 (by omega) (by simp)⟩
theorem rq_cmd {w W : World} {L : Ln} {v : Value} (h : Rq w W L v) (x : Bs) : Rq w (W.setCell ⟨w.heap.size + 1 + 1, 0, none⟩ (.string ⟨x.toArray⟩)) { L with cmd := x } v :=
  ⟨rz_set h.z _ _, ⟨blk_put h.ln.blk 0 _ rfl, h.ln.keepRow (KeepBut.set_ (KeepBut.refl _ _ _) _ _)⟩⟩
theorem rq_name {w W : World} {L : Ln} {v : Value} (h : Rq w W L v) (x : Bs) : Rq w (W.setCell ⟨w.heap.size + 1 + 1, 1, none⟩ (.string ⟨x.toArray⟩)) { L with name := x } v :=
  ⟨rz_set h.z _ _, ⟨blk_put h.ln.blk 1 _ rfl, h.ln.keepRow (KeepBut.set_ (KeepBut.refl _ _ _) _ _)⟩⟩
theorem rq_grown {w W W1 : World} {L : Ln} {v v1 : Value} (h : Rq w W L v) (hg : W.grownBy W1 v.ownBlock) : Rz w W1 ∧ W1.heap[w.heap.size + 1 + 1]? = some (.cells #[.string ⟨L.cmd.toArray⟩, .string ⟨L.name.toArray⟩, v] 25 (0, 0)) := by
  have mv : ∀ (i : Nat) (o : Obj), W.heap[i]? = some o → (∀ c, o ≠ .cells c 34 (0, 0)) → W1.heap[i]? = some o := fun i o hi ho =>
    (hg.block i (blk_lt hi) (fun e => row_other h.ln.row hi ho e.symm)).trans hi
  have hB1 : Below w.heap.size w W1 := h.z.below.grown hg h.z.below.size (fun k e => by have := (h.ln.row.lt k e).1; omega)
  exact ⟨⟨hB1, mv _ _ h.z.z0 (by simp), mv _ _ h.z.z1 (by simp)⟩, mv _ _ h.ln.blk (by simp)⟩
theorem rq_opt {w W W1 : World} {L : Ln} {v v1 : Value} (h : Rq w W L v) (k x : Bs) (hg : W.grownBy W1 v.ownBlock)
    (hr : W1.ownsRow w.heap.size 34 2 v1 (L.opts.length + 1) (oc L.opts ++ [.string ⟨k.toArray⟩, .string ⟨x.toArray⟩])) :
    Rq w (W1.setCell ⟨w.heap.size + 1 + 1, 2, none⟩ v1) { L with opts := L.opts ++ [(k, x)] } v1 := by
  obtain ⟨hz, hb⟩ := rq_grown (v1 := v1) h hg
  have hk1 : KeepBut W1 (W1.setCell ⟨w.heap.size + 1 + 1, 2, none⟩ v1) (w.heap.size + 1 + 1) none := KeepBut.set_ (KeepBut.refl _ _ _) _ _
  refine ⟨rz_set hz _ _, ⟨blk_put hb 2 _ rfl, ?_⟩⟩
  have e : (L.opts ++ [(k, x)]).length = L.opts.length + 1 := by simp
  show (W1.setCell ⟨w.heap.size + 1 + 1, 2, none⟩ v1).ownsRow w.heap.size 34 2 v1 (L.opts ++ [(k, x)]).length (oc (L.opts ++ [(k, x)]))
  rw [e, oc_snoc]
  exact hk1.own hr (row_other hr hb (by simp)) (by cases v1.ownBlock <;> simp)
theorem beq_no {c : UInt8} {d : UInt8} {n : Int} (hd : (d.toNat : Int) = n) (h : ¬ c = d) : ((c.toNat : Int) == n) = false := by
  subst hd
  exact beq_eq_false_iff_ne.mpr (fun e => h (UInt8.toNat_inj.mp (by omega)))
theorem beq_yes {c : UInt8} {d : UInt8} {n : Int} (hd : (d.toNat : Int) = n) (h : c = d) : ((c.toNat : Int) == n) = true := by
  subst hd h
  exact beq_self_eq_true _
theorem bne_no {c : UInt8} {d : UInt8} {n : Int} (hd : (d.toNat : Int) = n) (h : ¬ c = d) : ((c.toNat : Int) != n) = true := by
  unfold bne
  rw [beq_no hd h]
  rfl
theorem bne_yes {c : UInt8} {d : UInt8} {n : Int} (hd : (d.toNat : Int) = n) (h : c = d) : ((c.toNat : Int) != n) = false := by
  unfold bne
  rw [beq_yes hd h]
  rfl
theorem len_no {l : Bs} (h : ¬ l.length = 16) : ((l.length : Int) == 16) = false := beq_eq_false_iff_ne.mpr (by omega)
theorem len_yes {l : Bs} (h : l.length = 16) : ((l.length : Int) == 16) = true := beq_iff_eq.mpr (by omega)
theorem u8_sum (a b : UInt8) : IntKind.u8.wrap (16 * (a.toNat : Int) + (b.toNat : Int)) = ((16 * a + b).toNat : Int) := by
  have e : (16 * a + b).toNat = (16 * a.toNat + b.toNat) % 256 := by
    rw [UInt8.toNat_add, UInt8.toNat_mul]
    simp
  rw [e]
  simp [IntKind.wrap, IntKind.bits, IntKind.signed]
theorem row_form {w : World} {base n : Nat} {v : Value} {xs : List Value} (h : w.ownsRow base 34 2 v n xs) : ∃ A1 n1 cp1, v = .slice A1 n1 cp1 := by
  rcases h.2 with ⟨rfl, _⟩ | ⟨g1, cap, cur, rfl, _⟩
  · exact ⟨_, _, _, rfl⟩
  · exact ⟨_, _, _, rfl⟩
end Go.Proofs.Ytkoldjmhcifpjaa.refc
