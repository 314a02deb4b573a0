/- A range over a function: one round out of its body's walk, where the body may give up by a panic. The reader of a line: field by field: the iterator. The reader of a line: what a round of its loop keeps by it. (Merged by merge.py.) -/
import Derived.RangeFuncIn
import Derived.RangeFuncLeaves
import Derived.RangeFuncNested
import Derived.Test.YtkoldjmhcifpjaaME
import Derived.RangeFuncKeeps
import Derived.Shelf.Abstract
import Derived.OwnWalkIn
import Derived.TacticsInMore
import Derived.LoopNIn
import Derived.LoopIn
import Derived.Sort.LoopGhostIn
import Derived.Maps.OwnIn
/-! ## RoundP -/
namespace Go.Proofs.Ytkoldjmhcifpjaa.roundp
open Go
variable {F : Fence} {n : Nat} {P : Program}
/-- What is asked at a round's end; a panic is handed on, if the round's frame holds no deferred call. -/
def roundPostP (P : Program) (l : Nat) (R : Ending → World → Prop) : Exit → Act → World → Prop
  | .normal, _, w => ∃ v w', (Instr.endRound l none).run P w = .ok v w' ∧ R (.returned v) w'
  | .panic chain, a, w => a.defers = [] ∧ R (.panicked chain) w
  | _, _, _ => False
theorem roundIn_of_wpInP {l : Nat} {f : FuncId} {fn : Func} (hfn : P.funcs[f]? = some fn) {tmps : Array Value} {assign body : Code} {w : World} {R : Ending → World → Prop} (hF : F.fn f)
    (h : assign.wpIn (F.inRound l) n P (Exit.then (fun a₁ w₁ => ∃ w₂, (Instr.beginRound l).run P w₁ = .ok () w₂ ∧ body.wpIn (F.inRound l) n P (roundPostP P l R) a₁ w₂) (fun _ _ _ => False))
      { tmps := tmps, defers := [] } w) :
    RoundIn F n P l f tmps assign body w R := by
  refine ⟨hF, fun c cs hr => ?_⟩
  let b : Frame := { (default : Frame) with fn := f, kind := .normal, roundOf := some l }
  have hb0 : Frame.round l f tmps assign body .normal = b.atR { tmps := tmps, defers := [] } [.code assign, .beginRound, .code body] := by
    simp [Frame.round, Frame.atR, b]
  have hr' : (F.inRound l).room ((c :: cs).length + 1 + n) := hr
  have hF' : (F.inRound l).fn b.fn := hF
  obtain ⟨e, a₁, w₁, hq, harr⟩ := h b [.beginRound, .code body] (c :: cs) rfl hF' hr'
  rw [← hb0] at harr
  cases e with
  | normal =>
    obtain ⟨w₂, hbr, hbody⟩ := hq
    have s1 : StepsIn (Machine.fenced P (F.inRound l)) P (lone (b.atR a₁ [.beginRound, .code body]) (c :: cs) w₁) (lone (b.atR a₁ [.code body]) (c :: cs) w₂) :=
      .one (fenced_calm (fr := b.atR a₁ [.beginRound, .code body]) hF' hr' rfl) (stepR_beginRound rfl hbr)
    obtain ⟨e₂, a₂, w₃, hq₂, harr₂⟩ := hbody b [] (c :: cs) rfl hF' hr'
    cases e₂ with
    | normal =>
      obtain ⟨v, w₄, hend, hR⟩ := hq₂
      exact ⟨.returned v, w₄, hR, (StepsIn.trans harr s1).trans (StepsIn.trans harr₂ (.one (fenced_calm (fr := b.atR a₂ []) hF' hr' rfl) (stepR_round_end rfl rfl hend)))⟩
    | panic chain =>
      obtain ⟨hd, hR⟩ := hq₂
      obtain ⟨todo, hs⟩ := harr₂
      have hleave : ({ b.atR a₂ todo with mode := .panicking chain } : Frame).leaving P w₃ (.panicked chain) := ⟨rfl, hd, fn, hfn⟩
      have hl : (lone { b.atR a₂ todo with mode := .panicking chain } (c :: cs) w₃).fenced P (F.inRound l) := fenced_leaving (fr := { b.atR a₂ todo with mode := .panicking chain }) hF' hr' hleave
      exact ⟨.panicked chain, w₃, hR, (StepsIn.trans harr s1).trans (StepsIn.trans hs (.one hl (step_leave_panicked hleave)))⟩
    | ret => exact hq₂.elim
    | exit id => exact hq₂.elim
    | goto t => exact hq₂.elim
    | outgrown => exact hq₂.elim
  | exit id => exact hq.elim
  | goto t => exact hq.elim
  | ret => exact hq.elim
  | panic chain => exact hq.elim
  | outgrown => exact hq.elim
/-- Left at its end, or by a panic: no other way. -/
def thenX (N : Act → World → Prop) (Q : List PanicEntry → Act → World → Prop) : Exit → Act → World → Prop
  | .normal, a, w => N a w
  | .panic ch, a, w => Q ch a w
  | _, _, _ => False
/-- A piece of ONE function's code, walked at the wide fence. -/
def wpX (P : Program) (f0 : FuncId) (c : Code) (Q : Exit → Act → World → Prop) (a : Act) (w : World) : Prop :=
  ∀ (b : Frame) (k : List Item) (cs : List Frame), b.roundOf = none → b.fn = f0 → ∃ e a' w', Q e a' w' ∧ ArrivesIn (Machine.fenced P Fence.wide) P (lone (b.atR a (.code c :: k)) cs w) b k cs e a' w'
section
variable {f0 : FuncId} {Q : Exit → Act → World → Prop} {a : Act} {w : World}
theorem wpX_of {c : Code} (h : c.wp P Q a w) : wpX P f0 c Q a w := fun b k cs hro _ => (wpIn_wide (n := 0)).2 h b k cs hro trivial (room_wide _)
theorem wpX_mono {c : Code} {Q' : Exit → Act → World → Prop} (h : wpX P f0 c Q a w) (hq : ∀ e a w, Q e a w → Q' e a w) : wpX P f0 c Q' a w := fun b k cs h1 h2 => by
  obtain ⟨e, a', w', q, r⟩ := h b k cs h1 h2
  exact ⟨e, a', w', hq _ _ _ q, r⟩
/-- x, then y: x is left at its end or by a panic. -/
theorem wpX_seq {x y : Code} {Qp : List PanicEntry → Act → World → Prop} (hQ : ∀ ch a w, Qp ch a w → Q (.panic ch) a w) (h : wpX P f0 x (thenX (fun a w => wpX P f0 y Q a w) Qp) a w) : wpX P f0 (Code.seq x y) Q a w := by
  intro b k cs hro hfn
  have h0 : (lone (b.atR a (.code (.seq x y) :: k)) cs w).fenced P Fence.wide := fenced_calm (n := 0) (F := Fence.wide) trivial (room_wide _) rfl
  obtain ⟨e, a1, w1, hq, harr⟩ := h b (.code y :: k) cs hro hfn
  cases e with
  | normal =>
    obtain ⟨e2, a2, w2, hq2, harr2⟩ := hq b k cs hro hfn
    exact ⟨e2, a2, w2, hq2, .of_steps (.head h0 stepR_seq harr) harr2⟩
  | panic ch =>
    obtain ⟨todo, hs⟩ := harr
    exact ⟨.panic ch, a1, w1, hQ _ _ _ hq, todo, .head h0 stepR_seq hs⟩
  | ret => exact hq.elim
  | exit id => exact hq.elim
  | goto t => exact hq.elim
  | outgrown => exact hq.elim
theorem wpX_block {id : Nat} {c : Code} {N : Act → World → Prop} {Qp : List PanicEntry → Act → World → Prop} (h : wpX P f0 c (thenX N Qp) a w) : wpX P f0 (Code.block id c) (thenX N Qp) a w := by
  intro b k cs hro hfn
  have h0 : (lone (b.atR a (.code (.block id c) :: k)) cs w).fenced P Fence.wide := fenced_calm (n := 0) (F := Fence.wide) trivial (room_wide _) rfl
  obtain ⟨e, a1, w1, hq, harr⟩ := h b (.inBlock id :: k) cs hro hfn
  cases e with
  | normal =>
    refine ⟨.normal, a1, w1, hq, .head h0 stepR_block (StepsIn.trans harr (.one (fenced_calm (n := 0) (F := Fence.wide) trivial (room_wide _) rfl) stepR_inBlock))⟩
  | panic ch =>
    obtain ⟨todo, hs⟩ := harr
    exact ⟨.panic ch, a1, w1, hq, todo, .head h0 stepR_block hs⟩
  | ret => exact hq.elim
  | exit id => exact hq.elim
  | goto t => exact hq.elim
  | outgrown => exact hq.elim
/-- The statement, in one function: the iterator returns with the record 'rec' not busy and no jump pending, or hands on a panic. -/
theorem wpX_rangeFunc {g : Operand} {ps : Array Tmp} {assign body : Code} {N : Act → World → Prop} {Qp : List PanicEntry → Act → World → Prop} {gf : Nat} {lb : Array Value} (hg : a.eval g = .func (.func gf) #[] lb)
    (eg : ∀ args w, (callFunc gf args).run P w = .ok (.enter gf args) w) (rec : LoopState → Loop) (hrec : rec = fun st => { state := st, pending := none, fn := f0, tmps := a.tmps, params := ps, assign, body, defers := w.heap.size })
    (h : Calls P gf (#[.func (.yield (w.heap.size + 1)) #[] #[]] ++ lb) ((w.alloc (.deferred (some []))).alloc (.loop (rec .ready))) fun e w3 =>
      match e with
      | .returned _ => w3.heap[w.heap.size + 1]? = some (.loop (rec .ready)) ∧ N { a with defers := { target := .collected w.heap.size, args := #[] } :: a.defers } (w3.putObj (w.heap.size + 1) (.loop (rec .exhausted)))
      | .panicked ch => Qp ch { a with defers := { target := .collected w.heap.size, args := #[] } :: a.defers } w3
      | .outgrown => False) : wpX P f0 (Code.rangeFunc g ps assign body) (thenX N Qp) a w := by
  intro b k cs hro hfn
  have he : (Instr.enterLoop b.fn a.tmps ps assign body b.roundOf).run P w = .ok (w.heap.size + 1, [{ target := .collected w.heap.size, args := #[] }]) ((w.alloc (.deferred (some []))).alloc (.loop (rec .ready))) := by
    rw [hro, hfn, hrec]
    exact run_enterLoop_outer _ _ _ _ _
  have hres : (resolve a.eval (rangeCall g (w.heap.size + 1)) 0).run P ((w.alloc (.deferred (some []))).alloc (.loop (rec .ready))) = .ok { target := .fn (.func gf) lb, args := #[.func (.yield (w.heap.size + 1)) #[] #[]] } ((w.alloc (.deferred (some []))).alloc (.loop (rec .ready))) := by
    simp only [resolve, hg]
    simp [go_sem]
  have hinv : (invoke (.fn (.func gf) lb) #[.func (.yield (w.heap.size + 1)) #[] #[]]).run P ((w.alloc (.deferred (some []))).alloc (.loop (rec .ready))) = .ok (.enter gf (#[.func (.yield (w.heap.size + 1)) #[] #[]] ++ lb)) ((w.alloc (.deferred (some []))).alloc (.loop (rec .ready))) := by
    simp [invoke, go_sem, eg]
  have henter := stepR_rangeFunc (P := P) (b := b) (a := a) (k := k) (cs := cs) (w := w) he hres hinv
  have h0 : (lone (b.atR a (.code (.rangeFunc g ps assign body) :: k)) cs w).fenced P Fence.wide := fenced_lone (F := Fence.wide) (.inl trivial) (fun _ _ => trivial) (room_wide _)
  obtain ⟨e, w3, fr, hR, hsteps, hfr, hleave⟩ := (callsIn_wide (n := 0)).2 h |>.2 (b.atR { a with defers := { target := .collected w.heap.size, args := #[] } :: a.defers } (.inRangeFunc (w.heap.size + 1) :: k) :: cs) (room_wide _)
  cases e with
  | outgrown => exact hR.elim
  | returned v =>
    have hl : (lone fr (b.atR { a with defers := { target := .collected w.heap.size, args := #[] } :: a.defers } (.inRangeFunc (w.heap.size + 1) :: k) :: cs) w3).fenced P Fence.wide := fenced_leaving (n := 0) (F := Fence.wide) trivial (room_wide _) hleave
    obtain ⟨hrd, hN⟩ := hR
    have hend : (Instr.endLoop (w.heap.size + 1)).run P w3 = .ok none (w3.putObj (w.heap.size + 1) (.loop (rec .exhausted))) := by
      have := run_endLoop (P := P) hrd (by rw [hrec]; simp)
      rw [hrec] at this ⊢
      exact this
    refine ⟨.normal, _, _, hN, .head h0 henter (StepsIn.trans hsteps (.head hl ?_ (.one (fenced_calm (n := 0) (F := Fence.wide) (fr := b.atR { a with defers := { target := .collected w.heap.size, args := #[] } :: a.defers } (.endRangeFunc (w.heap.size + 1) :: k)) trivial (room_wide _) rfl) (stepR_endRangeFunc hend))))⟩
    rw [← finish_atR_inRangeFunc (w.heap.size + 1) v]
    exact step_leave_returned hleave
  | panicked ch =>
    have hl : (lone fr (b.atR { a with defers := { target := .collected w.heap.size, args := #[] } :: a.defers } (.inRangeFunc (w.heap.size + 1) :: k) :: cs) w3).fenced P Fence.wide := fenced_leaving (n := 0) (F := Fence.wide) trivial (room_wide _) hleave
    refine ⟨.panic ch, _, w3, hR, .inRangeFunc (w.heap.size + 1) :: k, .head h0 henter (StepsIn.trans hsteps (.one hl ?_))⟩
    rw [← Frame.raise_atR]
    exact step_leave_panicked hleave
/-- A function's contract from its body's walk; the marks of loops that ran are shut at the end. -/
theorem calls_of_wpX {f : FuncId} {fn : Func} {c : Code} {args : Array Value} {w : World} {R : Ending → World → Prop} (hf : P.funcs[f]? = some fn) (hb : fn.body = some c)
    (h : wpX P f c (bodyPostM Fence.wide 0 P fn R) { tmps := args ++ Array.replicate (fn.ntmps - args.size) undef, defers := [] } w) : Calls P f args w R := by
  refine (callsIn_wide (n := 0)).1 ⟨trivial, fun cs hr => ?_⟩
  let b : Frame := { (default : Frame) with fn := f, kind := .normal, roundOf := none }
  have henter : Frame.enter P f args .normal = b.atR { tmps := args ++ Array.replicate (fn.ntmps - args.size) undef, defers := [] } [.code c] := by
    simp [Frame.enter, Frame.atR, hf, hb, b]
  obtain ⟨e, a', w', hq, harr⟩ := h b [] cs rfl rfl
  rw [← henter] at harr
  cases e with
  | normal =>
    obtain ⟨e', w'', fr', hR, hs, hfn, hl⟩ := leaves_stepsInM a'.defers .returning w' { b.atR a' [] with mode := .returning } cs rfl rfl rfl hf rfl trivial hr hq
    exact ⟨e', w'', fr', hR, ComesIn.of_steps (StepsIn.trans harr (.one (fenced_calm (fr := b.atR a' []) trivial hr rfl) (stepR_end rfl))) hs, hfn, hl⟩
  | ret =>
    obtain ⟨todo, hs₀⟩ := harr.1 rfl
    obtain ⟨e', w'', fr', hR, hs, hfn, hl⟩ := leaves_stepsInM a'.defers .returning w' { b.atR a' todo with mode := .returning } cs rfl rfl rfl hf rfl trivial hr hq
    exact ⟨e', w'', fr', hR, ComesIn.of_steps hs₀ hs, hfn, hl⟩
  | panic chain =>
    obtain ⟨todo, hs₀⟩ := harr
    obtain ⟨e', w'', fr', hR, hs, hfn, hl⟩ := leaves_stepsInM a'.defers (.panicking chain) w' { b.atR a' todo with mode := .panicking chain } cs rfl rfl rfl hf rfl trivial hr hq
    exact ⟨e', w'', fr', hR, ComesIn.of_steps hs₀ hs, hfn, hl⟩
  | exit id => exact hq.elim
  | goto l => exact hq.elim
  | outgrown => exact ⟨.outgrown, w', b, hq, harr.resolve_left (by simp [b]), rfl, trivial⟩
end
end Go.Proofs.Ytkoldjmhcifpjaa.roundp
/-! ## ReadH -/
namespace Go.Proofs.Ytkoldjmhcifpjaa.readh
open Go Go.RowKit Go.Proofs.Ytkoldjmhcifpjaa.parsep Go.Proofs.Ytkoldjmhcifpjaa.reada Go.Proofs.Ytkoldjmhcifpjaa.readb Go.Proofs.Ytkoldjmhcifpjaa.readc Go.Proofs.Ytkoldjmhcifpjaa.readd Go.Proofs.Ytkoldjmhcifpjaa.reade Go.Proofs.Ytkoldjmhcifpjaa.readf Go.Proofs.Ytkoldjmhcifpjaa.readg Go.Proofs.Ytkoldjmhcifpjaa.PShellReads Go.Proofs.YtkoldjmhcifpjaaW.PrintWords
set_option linter.unusedVariables false
set_option linter.unusedSimpArgs false
attribute [local go_sem] Oper.semAt_some
theorem letters_len (l : Bs) (p : Nat) (a r : Bs) (q : Nat) (h : letters l p = .ok (a, r, q)) : r.length < l.length := by
  unfold letters at h
  have := span_len isLet 16 l
  split at h
  · cases h
  · rename_i hne
    simp only [Except.ok.injEq, Prod.mk.injEq] at h
    have hp : 0 < (span isLet 16 l).1.length := List.length_pos_iff.2 hne
    rw [← h.2.1]
    omega
theorem word_len (l : Bs) (p : Nat) (a r : Bs) (q : Nat) (h : word l p = .ok (a, r, q)) : r.length < l.length := by
  unfold word at h
  cases hl : letters l p with
  | error q => rw [hl] at h; cases h
  | ok y =>
    obtain ⟨b, r1, q1⟩ := y
    rw [hl] at h
    have h1 := letters_len l p b r1 q1 hl
    dsimp only at h
    split at h
    · simp only [Except.ok.injEq, Prod.mk.injEq] at h
      rw [← h.2.1]
      exact h1
    · unfold named at h
      have := span_len isNam (16 - b.length) r1
      split at h
      · simp only [Except.ok.injEq, Prod.mk.injEq] at h
        rw [← h.2.1]
        omega
      · cases h
theorem opt_len (L : Ln) (k r : Bs) (p : Nat) (L' : Ln) (r' : Bs) (q : Nat) (h : opt L k r p = .ok (L', r', q)) : r'.length < r.length := by
  unfold opt at h
  cases r with
  | nil => cases h
  | cons c t =>
    dsimp only at h
    split at h
    · cases hv : value t (p + 1) with
      | error q => rw [hv] at h; cases h
      | ok y =>
        obtain ⟨v, r1, q1⟩ := y
        rw [hv] at h
        simp only [Except.ok.injEq, Prod.mk.injEq] at h
        have := value_len t (p + 1) v r1 q1 hv
        rw [← h.2.1, List.length_cons]
        omega
    · cases h
theorem body_len (n : Nat) (L : Ln) (l : Bs) (p : Nat) (L' : Ln) (r : Bs) (q : Nat) (h : body n L l p = .ok (L', r, q)) : r.length < l.length := by
  unfold body at h
  split at h
  · cases hl : letters l p with
    | error q => rw [hl] at h; cases h
    | ok y =>
      obtain ⟨b, r1, q1⟩ := y
      rw [hl] at h
      simp only [Except.ok.injEq, Prod.mk.injEq] at h
      have := letters_len l p b r1 q1 hl
      rw [← h.2.1]
      exact this
  · split at h
    · cases hl : word l p with
      | error q => rw [hl] at h; cases h
      | ok y =>
        obtain ⟨b, r1, q1⟩ := y
        rw [hl] at h
        have h1 := word_len l p b r1 q1 hl
        dsimp only at h
        split at h
        · simp only [Except.ok.injEq, Prod.mk.injEq] at h
          rw [← h.2.1]
          exact h1
        · have := opt_len L b r1 q1 L' r q h
          omega
    · cases hl : letters l p with
      | error q => rw [hl] at h; cases h
      | ok y =>
        obtain ⟨b, r1, q1⟩ := y
        rw [hl] at h
        have h1 := letters_len l p b r1 q1 hl
        have := opt_len L b r1 q1 L' r q h
        omega
theorem skip_len : ∀ (l : Bs), (skip l).length ≤ l.length
  | [] => Nat.le_refl _
  | c :: t => by
    have := skip_len t
    by_cases h : isBl c = true
    · simp only [skip, h, if_true, List.length_cons]
      omega
    · simp [skip, h]
theorem next_len (l : Bs) (p : Nat) (r : Bs) (q : Nat) (h : nextR l p = .ok (true, r, q)) : r.length ≤ l.length := by
  unfold nextR at h
  have := skip_len l
  cases hs : skip l with
  | nil => rw [hs] at h; simp at h
  | cons c t =>
    rw [hs] at h this
    dsimp only at h
    split at h
    · split at h
      · simp at h
      · cases h
    · simp only [Except.ok.injEq, Prod.mk.injEq] at h
      rw [← h.2.1]
      exact this
/-- One field, by the reader's own call. -/
theorem prog_next (f n : Nat) (L : Ln) (l : Bs) (p : Nat) : prog (f + 1) n L l p = match nextR l p with
    | .error q => .error q
    | .ok (false, _, _) => .ok L
    | .ok (true, r, q) => (match body n L r q with | .error q => .error q | .ok (L', r', q') => if over r' then prog f (n + 1) L' r' q' else .error q') := by
  unfold nextR
  cases hs : skip l with
  | nil =>
    unfold prog
    rw [hs]
  | cons c t =>
    by_cases h35 : c = 35
    · subst h35
      conv => lhs; unfold prog
      rw [hs]
      dsimp only
      rw [if_pos rfl, if_pos rfl]
      cases comment (35 :: t) (p + (l.length - (t.length + 1))) <;> rfl
    · rw [prog_step f n L l p c t hs h35]
      dsimp only
      rw [if_neg h35]
      rfl
/-- How the iterator ends. -/
def EndsF (w0 : World) (E : World → Prop) (J : Ln → World → Prop) (X : Except Nat Ln) (e : Ending) (W' : World) : Prop :=
  match X with | .error q => e = gaveUp q ∧ Below w0.heap.size w0 W' ∧ E W' | .ok L' => (∃ v, e = .returned v) ∧ Below w0.heap.size w0 W' ∧ J L' W'
/-- How a round ends. -/
def EndsB' (w0 : World) (g : Nat) (s : ByteArray) (E : World → Prop) (J : Ln → World → Prop) (X : Except Nat (Ln × Bs × Nat)) (e : Ending) (W' : World) : Prop :=
  match X with | .error q => e = gaveUp q ∧ Below w0.heap.size w0 W' ∧ E W' | .ok (L', r', q) => e = .returned (.bool true) ∧ RdS w0 W' g s q r' ∧ J L' W'
set_option maxHeartbeats 2000000 in
set_option maxRecDepth 100000 in
/-- **The iterator**, whatever the loop's body keeps by it (J). -/
theorem fields_call {w0 : World} {g l bf : Nat} {s : ByteArray} (m : Nat) (hm : 1 ≤ m) (E : World → Prop) (J : Nat → Ln → World → Prop) (hE : ∀ n L W, J n L W → E W)
    (hb : ∀ n L W, J n L W → W.cell? ⟨bf, 0, none⟩ = some (.pointer (some ⟨g, 0, none⟩)))
    (hJ : ∀ n L W W' a r, RdS w0 W g s a r → J n L W → KeepBut W W' g none → J n L W')
    (hY : ∀ (n : Nat) L a r W, n ≤ 4097 → RdS w0 W g s a r → J n L W → YieldAt Fence.wide (m - 1) Try.prog l #[.int .i64 (n : Int)] W (EndsB' w0 g s E (J (n + 1)) (body n L r a)))
    {W : World} {a : Nat} {r : Bs} {L : Ln} (h : RdS w0 W g s a r) (h0 : J 0 L W) :
    CallsIn Fence.wide m Try.prog 34 #[.func (.yield l) #[] #[], .pointer (some ⟨bf, 0, none⟩)] W (EndsF w0 E (fun L W => ∃ n, J n L W) (prog (r.length + 1) 0 L r a)) := by
  obtain ⟨X, hX⟩ : ∃ X, X = prog (r.length + 1) 0 L r a := ⟨_, rfl⟩
  have HX := Aside0.mk hX
  have hlen : r.length ≤ 4096 := by have := h.le; have := h.small; omega
  rw [← hX]
  clear hX
  have HR := Aside0.mk h
  have HJ0 := Aside0.mk h0
  clear h h0
  refine callsIn_of_wp Try.func34 rfl trivial ?_ rfl
  simp only [Try.ntmps34, List.size_toArray, List.length_cons, List.length_nil, Nat.reduceAdd, Nat.reduceSub, Array.replicate_succ, Array.replicate_zero, List.push_toArray, List.append_toArray, List.nil_append, List.cons_append]
  gi_wp2
  gi_loopg [3] (r.length + 1) (fun kq v3 wr => ∃ (n : Nat) (L1 : Ln) (a1 : Nat) (r1 : Bs), Aside0 (v3 = .int .i64 (n : Int)) ∧ Aside0 (X = prog kq n L1 r1 a1) ∧ Aside0 (n + kq = r.length + 1) ∧ Aside0 (RdS w0 wr g s a1 r1) ∧ Aside0 (J n L1 wr) ∧ Aside0 (r1.length < kq))
  case atStart => exact ⟨0, L, a, r, ⟨rfl⟩, HX, ⟨by omega⟩, HR, HJ0, ⟨by omega⟩⟩
  case round =>
    obtain ⟨n, L1, a1, r1, HV, HP, HN, HR1, HJ1, HQ⟩ := hrel
    cases gk with
    | zero => exact absurd HQ.out (by omega)
    | succ k1 =>
      obtain rfl := HV.out
      have hP := HP.out
      have hn : n ≤ 4097 := by have := HN.out; omega
      rw [prog_next] at hP
      have kb := hb n L1 wr HJ1.out
      cases hN : nextR r1 a1 with
      | error q =>
        rw [hN] at hP
        have HE := Aside0.mk hP
        have HNX := Aside0.mk hN
        clear hP hN
        gi_wp2_with (first | (refine ⟨trivial, ?_⟩; gi_at_call 35; refine (callsIn_wide.2 (next_call HR1.out)).mono ?_; rw [HNX.out]; rintro e W3 ⟨hK_, hB_, rfl⟩) | fail)
        refine ⟨rfl, ?_⟩
        show EndsF _ _ _ X _ _
        rw [HE.out]
        exact ⟨rfl, hB_, hE n L1 _ (hJ n L1 wr W3 a1 r1 HR1.out HJ1.out hK_)⟩
      | ok y =>
        obtain ⟨b, r2, q2⟩ := y
        rw [hN] at hP
        cases b with
        | false =>
          have HE := Aside0.mk hP
          have HNX := Aside0.mk hN
          clear hP hN
          gi_wp2_with (first | (refine ⟨trivial, ?_⟩; gi_at_call 35; refine (callsIn_wide.2 (next_call HR1.out)).mono ?_; rw [HNX.out]; rintro e W3 ⟨hK_, hB_, rfl, hR_⟩) | fail)
          refine ⟨fun _ h => (by cases h), ?_⟩
          gi_wp2
          go_end0
          show EndsF _ _ _ X _ _
          rw [HE.out]
          exact ⟨⟨_, rfl⟩, hB_, n, hJ n L1 wr W3 a1 r1 HR1.out HJ1.out hK_⟩
        | true =>
          have hl2 := next_len r1 a1 r2 q2 hN
          have HL2 := Aside0.mk hl2
          have HNX := Aside0.mk hN
          clear hN hl2
          cases hBd : body n L1 r2 q2 with
          | error q3 =>
            dsimp only at hP
            rw [hBd] at hP
            have HE := Aside0.mk hP
            have HBD := Aside0.mk hBd
            clear hP hBd
            gi_wp2_with (first | (refine ⟨trivial, ?_⟩; gi_at_call 35; refine (callsIn_wide.2 (next_call HR1.out)).mono ?_; rw [HNX.out]; rintro e W3 ⟨hK_, hB_, rfl, hR_⟩; obtain ⟨fn1, tmps1, assign1, body1, hy1, hRd⟩ := hY n L1 q2 r2 W3 hn hR_ (hJ n L1 wr W3 a1 r1 HR1.out HJ1.out hK_); have HRD := Aside0.mk hRd; clear hRd) | fail)
            refine HRD.out.mono ?_
            rw [HBD.out]
            rintro e W4 ⟨rfl, hB4⟩
            refine ⟨rfl, ?_⟩
            show EndsF _ _ _ X _ _
            rw [HE.out]
            exact ⟨rfl, hB4⟩
          | ok z =>
            obtain ⟨L3, r3, q3⟩ := z
            dsimp only at hP
            rw [hBd] at hP
            have hl3 := body_len n L1 r2 q2 L3 r3 q3 hBd
            have HL3 := Aside0.mk hl3
            have HBD := Aside0.mk hBd
            clear hBd hl3
            have HW := Aside0.mk (wrap_succ n (by have := HN.out; have := HQ.out; have := HL2.out; have := HL3.out; omega))
            cases ho : over r3 with
            | true =>
              dsimp only at hP
              rw [ho] at hP
              have HP3 := Aside0.mk (show X = prog k1 (n + 1) L3 r3 q3 from hP)
              have HO := Aside0.mk ho
              clear hP ho
              gi_wp2_with (first | (refine ⟨trivial, ?_⟩; gi_at_call 35; refine (callsIn_wide.2 (next_call HR1.out)).mono ?_; rw [HNX.out]; rintro e W3 ⟨hK_, hB_, rfl, hR_⟩; obtain ⟨fn1, tmps1, assign1, body1, hy1, hRd⟩ := hY n L1 q2 r2 W3 hn hR_ (hJ n L1 wr W3 a1 r1 HR1.out HJ1.out hK_); have HRD := Aside0.mk hRd; clear hRd) | fail)
              refine HRD.out.mono ?_
              rw [HBD.out]
              rintro e W4 ⟨rfl, hR4, hJ4⟩
              have kb4 := hb (n + 1) L3 W4 hJ4
              gi_wp2_with (first | (refine ⟨trivial, ?_⟩; gi_at_call 28; refine (callsIn_wide.2 (over_call hR4)).mono ?_; rw [HO.out]; rintro e W5 ⟨rfl, hR5, hK5⟩) | fail)
              gi_roundg k1
              case measure => omega
              case rel => exact ⟨n + 1, L3, q3, r3, ⟨rfl⟩, HP3, ⟨by have := HN.out; omega⟩, ⟨hR5⟩, ⟨hJ (n + 1) L3 W4 W5 q3 r3 hR4 hJ4 hK5⟩, ⟨by have := HQ.out; have := HL2.out; have := HL3.out; omega⟩⟩
            | false =>
              dsimp only at hP
              rw [ho] at hP
              have HP3 := Aside0.mk (show X = .error q3 from hP)
              have HO := Aside0.mk ho
              clear hP ho
              gi_wp2_with (first | (refine ⟨trivial, ?_⟩; gi_at_call 35; refine (callsIn_wide.2 (next_call HR1.out)).mono ?_; rw [HNX.out]; rintro e W3 ⟨hK_, hB_, rfl, hR_⟩; obtain ⟨fn1, tmps1, assign1, body1, hy1, hRd⟩ := hY n L1 q2 r2 W3 hn hR_ (hJ n L1 wr W3 a1 r1 HR1.out HJ1.out hK_); have HRD := Aside0.mk hRd; clear hRd) | fail)
              refine HRD.out.mono ?_
              rw [HBD.out]
              rintro e W4 ⟨rfl, hR4, hJ4⟩
              have kb4 := hb (n + 1) L3 W4 hJ4
              gi_wp2_with (first | (refine ⟨trivial, ?_⟩; gi_at_call 28; refine (callsIn_wide.2 (over_call hR4)).mono ?_; rw [HO.out]; rintro e W5 ⟨rfl, hR5, hK5⟩; have kb5 := hb (n + 1) L3 W5 (hJ (n + 1) L3 W4 W5 q3 r3 hR4 hJ4 hK5)) | (refine ⟨trivial, ?_⟩; gi_at_call 30; refine (callsIn_wide.2 (fail_call hR5)).mono ?_; rintro e W6 ⟨rfl, rfl⟩) | fail)
              refine ⟨rfl, ?_⟩
              show EndsF _ _ _ X _ _
              rw [HP3.out]
              exact ⟨rfl, hR5.below, hE (n + 1) L3 _ (hJ (n + 1) L3 W4 _ q3 r3 hR4 hJ4 hK5)⟩
end Go.Proofs.Ytkoldjmhcifpjaa.readh
/-! ## ReadI -/
namespace Go.Proofs.Ytkoldjmhcifpjaa.readi
open Go Go.RowKit Go.Proofs.Ytkoldjmhcifpjaa.parsep Go.Proofs.Ytkoldjmhcifpjaa.reada Go.Proofs.Ytkoldjmhcifpjaa.readb Go.Proofs.Ytkoldjmhcifpjaa.readc Go.Proofs.Ytkoldjmhcifpjaa.readd Go.Proofs.Ytkoldjmhcifpjaa.reade Go.Proofs.Ytkoldjmhcifpjaa.readf Go.Proofs.Ytkoldjmhcifpjaa.readg Go.Proofs.Ytkoldjmhcifpjaa.readh Go.Proofs.Ytkoldjmhcifpjaa.PShellReads Go.Proofs.YtkoldjmhcifpjaaW.PrintWords
set_option linter.unusedVariables false
set_option linter.unusedSimpArgs false
/-- The cells of a line's options. -/
def oc : List (Bs × Bs) → List Value
  | [] => []
  | (k, v) :: t => .string ⟨k.toArray⟩ :: .string ⟨v.toArray⟩ :: oc t
theorem oc_len : ∀ xs, (oc xs).length = xs.length * 2
  | [] => rfl
  | (k, v) :: t => by simp [oc, oc_len t]; omega
theorem oc_snoc (k v : Bs) : ∀ xs, oc (xs ++ [(k, v)]) = oc xs ++ [.string ⟨k.toArray⟩, .string ⟨v.toArray⟩]
  | [] => rfl
  | (_, _) :: t => by simp [oc, oc_snoc k v t]
/-- The line as far as it is read, at block bl. -/
structure LnS (base : Nat) (W : World) (bl : Nat) (L : Ln) (v : Value) : Prop where
  blk : W.heap[bl]? = some (.cells #[.string ⟨L.cmd.toArray⟩, .string ⟨L.name.toArray⟩, v] 25 (0, 0))
  row : W.ownsRow base 34 2 v L.opts.length (oc L.opts)
/-- What lies where, in a round: the line, the boxes, the loop's record, the block for deferred calls. -/
structure In (base g bl bx bf l D : Nat) (rec : LoopState → Loop) (st : LoopState) (L : Ln) (v : Value) (W : World) : Prop where
  ln : LnS base W bl L v
  bx : W.heap[bx]? = some (.cells #[.pointer (some ⟨g, 0, none⟩)] 42 (0, 0))
  bf : W.heap[bf]? = some (.cells #[.pointer (some ⟨g, 0, none⟩)] 42 (0, 0))
  lo : W.heap[l]? = some (.loop (rec st))
  de : W.heap[D]? = some (.deferred (some []))
theorem row_other {W : World} {base : Nat} {v : Value} {n : Nat} {xs : List Value} {b : Nat} {o : Obj} (h : W.ownsRow base 34 2 v n xs) (hb : W.heap[b]? = some o) (hne : ∀ c, o ≠ .cells c 34 (0, 0)) : v.ownBlock ≠ some b := by
  intro e
  rcases h.2 with ⟨rfl, _⟩ | ⟨g', cap, cur, rfl, _, hg, _⟩
  · simp [Value.ownBlock] at e
  · simp only [Value.ownBlock, Option.some.injEq] at e
    rw [e, hb] at hg
    exact hne _ (Option.some.inj hg)
theorem heap_ne {W : World} {i j : Nat} {o p : Obj} (h : W.heap[i]? = some o) (k : W.heap[j]? = some p) (hne : o ≠ p) : i ≠ j := by
  rintro rfl
  rw [h] at k
  exact hne (Option.some.inj k)
/-- All but block b lies on. -/
theorem In.keep {base g bl bx bf l D : Nat} {rec : LoopState → Loop} {st : LoopState} {L : Ln} {v : Value} {W W' : World} {b : Nat} {o : Obj} (h : In base g bl bx bf l D rec st L v W) (hb : W.heap[b]? = some o)
    (h25 : ∀ c, o ≠ .cells c 25 (0, 0)) (h34 : ∀ c, o ≠ .cells c 34 (0, 0)) (h42 : ∀ c, o ≠ .cells c 42 (0, 0)) (hl : ∀ r, o ≠ .loop r) (hd : ∀ r, o ≠ .deferred r) (hk : KeepBut W W' b none) : In base g bl bx bf l D rec st L v W' :=
  ⟨⟨hk.blk h.ln.blk (heap_ne h.ln.blk hb (fun e => h25 _ e.symm)) (by simp), hk.own h.ln.row (row_other h.ln.row hb h34) (by cases v.ownBlock <;> simp)⟩,
    hk.blk h.bx (heap_ne h.bx hb (fun e => h42 _ e.symm)) (by simp), hk.blk h.bf (heap_ne h.bf hb (fun e => h42 _ e.symm)) (by simp), hk.blk h.lo (heap_ne h.lo hb (fun e => hl _ e.symm)) (by simp), hk.blk h.de (heap_ne h.de hb (fun e => hd _ e.symm)) (by simp)⟩
theorem In.rd {w0 : World} {s : ByteArray} {a : Nat} {r : Bs} {base g bl bx bf l D : Nat} {rec : LoopState → Loop} {st : LoopState} {L : Ln} {v : Value} {W W' : World} (h : In base g bl bx bf l D rec st L v W) (hR : RdS w0 W g s a r) (hk : KeepBut W W' g none) : In base g bl bx bf l D rec st L v W' :=
  h.keep hR.st.1 (by simp) (by simp) (by simp) (by simp) (by simp) hk
/-- The line's own cells turn. -/
theorem In.line {base g bl bx bf l D : Nat} {rec : LoopState → Loop} {st : LoopState} {L L' : Ln} {v v' : Value} {W W' : World} (h : In base g bl bx bf l D rec st L v W) (hk : KeepBut W W' bl none)
    (hl : LnS base W' bl L' v') : In base g bl bx bf l D rec st L' v' W' :=
  ⟨hl, hk.blk h.bx (heap_ne h.bx h.ln.blk (by simp)) (by simp), hk.blk h.bf (heap_ne h.bf h.ln.blk (by simp)) (by simp), hk.blk h.lo (heap_ne h.lo h.ln.blk (by simp)) (by simp), hk.blk h.de (heap_ne h.de h.ln.blk (by simp)) (by simp)⟩
theorem LnS.keepRow {base bl : Nat} {L : Ln} {v : Value} {W W' : World} (h : LnS base W bl L v) (hk : KeepBut W W' bl none) : W'.ownsRow base 34 2 v L.opts.length (oc L.opts) :=
  hk.own h.row (row_other h.row h.blk (by simp)) (by cases v.ownBlock <;> simp)
theorem In.cmd {base g bl bx bf l D : Nat} {rec : LoopState → Loop} {st : LoopState} {L : Ln} {v : Value} {W : World} (h : In base g bl bx bf l D rec st L v W) (x : Bs) :
    In base g bl bx bf l D rec st { L with cmd := x } v (W.setCell ⟨bl, 0, none⟩ (.string ⟨x.toArray⟩)) :=
  h.line (KeepBut.set_ (KeepBut.refl _ _ _) _ _) ⟨blk_put h.ln.blk 0 _ rfl, h.ln.keepRow (KeepBut.set_ (KeepBut.refl _ _ _) _ _)⟩
theorem In.name {base g bl bx bf l D : Nat} {rec : LoopState → Loop} {st : LoopState} {L : Ln} {v : Value} {W : World} (h : In base g bl bx bf l D rec st L v W) (x : Bs) :
    In base g bl bx bf l D rec st { L with name := x } v (W.setCell ⟨bl, 1, none⟩ (.string ⟨x.toArray⟩)) :=
  h.line (KeepBut.set_ (KeepBut.refl _ _ _) _ _) ⟨blk_put h.ln.blk 1 _ rfl, h.ln.keepRow (KeepBut.set_ (KeepBut.refl _ _ _) _ _)⟩
/-- An option more. -/
theorem In.opt {base g bl bx bf l D : Nat} {rec : LoopState → Loop} {st : LoopState} {L : Ln} {v v1 : Value} {W W1 : World} (h : In base g bl bx bf l D rec st L v W) (k x : Bs) (hg : W.grownBy W1 v.ownBlock)
    (hr : W1.ownsRow base 34 2 v1 (L.opts.length + 1) (oc L.opts ++ [.string ⟨k.toArray⟩, .string ⟨x.toArray⟩])) :
    In base g bl bx bf l D rec st { L with opts := L.opts ++ [(k, x)] } v1 (W1.setCell ⟨bl, 2, none⟩ v1) := by
  have hk0 : KeepBut W W1 W.heap.size v.ownBlock := KeepBut.of_grown hg _
  have mv : ∀ (i : Nat) (o : Obj), W.heap[i]? = some o → (∀ c, o ≠ .cells c 34 (0, 0)) → W1.heap[i]? = some o := fun i o hi ho =>
    (hg.block i (blk_lt hi) (fun e => row_other h.ln.row hi ho e.symm)).trans hi
  have h1b : W1.heap[bl]? = some (.cells #[.string ⟨L.cmd.toArray⟩, .string ⟨L.name.toArray⟩, v] 25 (0, 0)) := mv _ _ h.ln.blk (by simp)
  have hk1 : KeepBut W1 (W1.setCell ⟨bl, 2, none⟩ v1) bl none := KeepBut.set_ (KeepBut.refl _ _ _) _ _
  refine ⟨⟨blk_put h1b 2 _ rfl, ?_⟩, hk1.blk (mv _ _ h.bx (by simp)) (heap_ne h.bx h.ln.blk (by simp)) (by simp), hk1.blk (mv _ _ h.bf (by simp)) (heap_ne h.bf h.ln.blk (by simp)) (by simp), hk1.blk (mv _ _ h.lo (by simp)) (heap_ne h.lo h.ln.blk (by simp)) (by simp), hk1.blk (mv _ _ h.de (by simp)) (heap_ne h.de h.ln.blk (by simp)) (by simp)⟩
  have e : (L.opts ++ [(k, x)]).length = L.opts.length + 1 := by simp
  show (W1.setCell ⟨bl, 2, none⟩ v1).ownsRow base 34 2 v1 (L.opts ++ [(k, x)]).length (oc (L.opts ++ [(k, x)]))
  rw [e, oc_snoc]
  exact hk1.own hr (row_other hr h1b (by simp)) (by cases v1.ownBlock <;> simp)
/-- The loop's record turns. -/
theorem keep_put {W : World} {l : Nat} (o : Obj) : KeepBut W (W.putObj l o) l none := ⟨by simp, fun i _ hi _ => by simp [World.putObj, Array.getElem?_setIfInBounds, Ne.symm hi]⟩
theorem put_self {W : World} {l : Nat} {o : Obj} (o' : Obj) (h : W.heap[l]? = some o) : (W.putObj l o').heap[l]? = some o' := by simp [World.putObj, Array.getElem?_setIfInBounds, blk_lt h]
theorem In.turn {base g bl bx bf l D : Nat} {rec : LoopState → Loop} {st : LoopState} {L : Ln} {v : Value} {W : World} (h : In base g bl bx bf l D rec st L v W) (st' : LoopState) :
    In base g bl bx bf l D rec st' L v (W.putObj l (.loop (rec st'))) := by
  have hk := keep_put (W := W) (l := l) (.loop (rec st'))
  exact ⟨⟨hk.blk h.ln.blk (heap_ne h.ln.blk h.lo (by simp)) (by simp), hk.own h.ln.row (row_other h.ln.row h.lo (by simp)) (by cases v.ownBlock <;> simp)⟩, hk.blk h.bx (heap_ne h.bx h.lo (by simp)) (by simp), hk.blk h.bf (heap_ne h.bf h.lo (by simp)) (by simp), put_self _ h.lo, hk.blk h.de (heap_ne h.de h.lo (by simp)) (by simp)⟩
/-- The reader lies on. -/
theorem rd_keep {w0 W W' : World} {g : Nat} {s : ByteArray} {a : Nat} {r : Bs} {b : Nat} {o : Obj} (h : RdS w0 W g s a r) (hb : W.heap[b]? = some o) (h44 : ∀ c, o ≠ .cells c 44 (0, 0)) (hk : KeepBut W W' b none) (hB : Below w0.heap.size w0 W') : RdS w0 W' g s a r :=
  h.to ⟨hk.blk h.st.1 (heap_ne h.st.1 hb (fun e => h44 _ e.symm)) (by simp), h.st.2⟩ hB
theorem rd_turn {w0 W : World} {base g bl bx bf l D : Nat} {rec : LoopState → Loop} {st : LoopState} {L : Ln} {v : Value} {s : ByteArray} {a : Nat} {r : Bs} (h : RdS w0 W g s a r) (hI : In base g bl bx bf l D rec st L v W) (hl : w0.heap.size ≤ l) (st' : LoopState) : RdS w0 (W.putObj l (.loop (rec st'))) g s a r :=
  rd_keep h hI.lo (by simp) (keep_put _) (h.below.trans (belowK_b (w := w0) (Nat.le_refl _) W l _ _ hl hI.lo rfl rfl))
theorem rd_line {w0 W : World} {base g bl bx bf l D : Nat} {rec : LoopState → Loop} {st : LoopState} {L : Ln} {v : Value} {s : ByteArray} {a : Nat} {r : Bs} (h : RdS w0 W g s a r) (hI : In base g bl bx bf l D rec st L v W) (hl : w0.heap.size ≤ bl) (i : Nat) (u : Value) : RdS w0 (W.setCell ⟨bl, i, none⟩ u) g s a r :=
  rd_keep h hI.ln.blk (by simp) (KeepBut.set_ (KeepBut.refl _ _ _) _ _) (h.below.setCell hl _)
theorem rd_opt {w0 W W1 : World} {base g bl bx bf l D : Nat} {rec : LoopState → Loop} {st : LoopState} {L : Ln} {v v1 : Value} {s : ByteArray} {a : Nat} {r : Bs} (h : RdS w0 W g s a r) (hI : In base g bl bx bf l D rec st L v W) (hb : w0.heap.size ≤ base) (hl : w0.heap.size ≤ bl) (hg : W.grownBy W1 v.ownBlock) : RdS w0 (W1.setCell ⟨bl, 2, none⟩ v1) g s a r := by
  have hB1 : Below w0.heap.size w0 W1 := h.below.grown hg h.below.size (fun k e => by have := (hI.ln.row.lt k e).1; omega)
  have h1 : W1.heap[g]? = some (.cells #[.string s, .int .i64 (a : Int)] 44 (0, 0)) := (hg.block g (blk_lt h.st.1) (fun e => row_other hI.ln.row h.st.1 (by simp) e.symm)).trans h.st.1
  have h1b : W1.heap[bl]? = some (.cells #[.string ⟨L.cmd.toArray⟩, .string ⟨L.name.toArray⟩, v] 25 (0, 0)) := (hg.block bl (blk_lt hI.ln.blk) (fun e => row_other hI.ln.row hI.ln.blk (by simp) e.symm)).trans hI.ln.blk
  exact rd_keep (h.to ⟨h1, h.st.2⟩ hB1) h1b (by simp) (KeepBut.set_ (KeepBut.refl _ _ _) _ _) (hB1.setCell hl _)
theorem alloc_keep (W : World) (o : Obj) (b : Nat) : KeepBut W (W.alloc o) b none := KeepBut.of_below ((Below.refl _ W).alloc (Nat.le_refl _) _) _ _
theorem rd_alloc {w0 W : World} {g : Nat} {s : ByteArray} {a : Nat} {r : Bs} (h : RdS w0 W g s a r) (o : Obj) : RdS w0 (W.alloc o) g s a r :=
  h.to ⟨((Below.refl _ W).alloc (Nat.le_refl _) o).block _ (blk_lt h.st.1) |>.trans h.st.1, h.st.2⟩ (h.below.alloc h.below.size _)
theorem cell_two_new (W : World) (u1 u2 : Value) (t : TypeId) : ∀ (j : Nat) (u : Value), [u1, u2][j]? = some u → (W.alloc (.cells #[u1, u2] t)).cell? ((⟨W.heap.size, 0, none⟩ : Addr).add j) = some u := by
  intro j u hj
  match j, hj with
  | 0, hj =>
    simp at hj
    subst hj
    exact (blk_cell (blk_new W _) 0).trans rfl
  | 1, hj =>
    simp at hj
    subst hj
    exact (blk_cell (blk_new W _) 1).trans rfl
end Go.Proofs.Ytkoldjmhcifpjaa.readi
