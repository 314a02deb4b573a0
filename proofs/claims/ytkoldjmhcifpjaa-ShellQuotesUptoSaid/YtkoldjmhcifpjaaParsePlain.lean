/- A line, read: the program's way and the document's way, in plain words; they agree. -/
import Derived.Test.YtkoldjmhcifpjaaRows
namespace Go.Proofs.Ytkoldjmhcifpjaa.parsep
set_option linter.unusedVariables false
set_option linter.unusedSimpArgs false
abbrev Bs := List UInt8
def isBl (c : UInt8) : Bool := c == 32 || c == 9
def isLet (c : UInt8) : Bool := decide (97 ≤ c) && decide (c ≤ 122)
def isDig (c : UInt8) : Bool := decide (48 ≤ c) && decide (c ≤ 57)
def isNam (c : UInt8) : Bool := isLet c || isDig c || c == 95
def isPl (c : UInt8) : Bool := decide (32 < c) && decide (c ≤ 126)
def fine (c : UInt8) : Bool := c == 9 || (decide (32 ≤ c) && decide (c ≤ 126))
theorem all_u8 {p : UInt8 → Bool} (h : (List.range 256).all (fun n => p (UInt8.ofNat n)) = true) (c : UInt8) : p c = true := by
  have h1 := List.all_eq_true.1 h c.toNat (List.mem_range.2 c.toNat_lt)
  rwa [UInt8.ofNat_toNat] at h1
theorem fine_eq (c : UInt8) : fine c = (isPl c || isBl c) := eq_of_beq (all_u8 (p := fun c => fine c == (isPl c || isBl c)) (by decide +kernel) c)
theorem let_not_bl (c : UInt8) : isLet c = true → isBl c = false := by
  have h := all_u8 (p := fun c => (!isLet c || !isBl c)) (by decide +kernel) c
  intro h1
  simpa [h1] using h
theorem let_fine (c : UInt8) : isLet c = true → fine c = true := by
  have h := all_u8 (p := fun c => (!isLet c || fine c)) (by decide +kernel) c
  intro h1
  simpa [h1] using h
theorem nam_fine (c : UInt8) : isNam c = true → fine c = true := by
  have h := all_u8 (p := fun c => (!isNam c || fine c)) (by decide +kernel) c
  intro h1
  simpa [h1] using h
theorem nam_not_bl (c : UInt8) : isNam c = true → isBl c = false := by
  have h := all_u8 (p := fun c => (!isNam c || !isBl c)) (by decide +kernel) c
  intro h1
  simpa [h1] using h
theorem bl_fine (c : UInt8) : isBl c = true → fine c = true := by
  have h := all_u8 (p := fun c => (!isBl c || fine c)) (by decide +kernel) c
  intro h1
  simpa [h1] using h
theorem bl_not_nam (c : UInt8) : isBl c = true → isNam c = false := by
  have h := all_u8 (p := fun c => (!isBl c || !isNam c)) (by decide +kernel) c
  intro h1
  simpa [h1] using h
theorem bl_not_let (c : UInt8) : isBl c = true → isLet c = false := by
  have h := all_u8 (p := fun c => (!isBl c || !isLet c)) (by decide +kernel) c
  intro h1
  simpa [h1] using h
theorem let_nam (c : UInt8) : isLet c = true → isNam c = true := by
  have h := all_u8 (p := fun c => (!isLet c || isNam c)) (by decide +kernel) c
  intro h1
  simpa [h1] using h
/-- A hexadecimal digit's worth; 16: it is none. -/
def hexv (c : UInt8) : UInt8 := if isDig c then c - 48 else if decide (97 ≤ c) && decide (c ≤ 102) then c - 97 + 10 else if decide (65 ≤ c) && decide (c ≤ 70) then c - 65 + 10 else 16
def isHex (c : UInt8) : Bool := decide (hexv c < 16)
theorem hex_fine (c : UInt8) : isHex c = true → fine c = true := by
  have h := all_u8 (p := fun c => (!isHex c || fine c)) (by decide +kernel) c
  intro h1
  simpa [h1] using h
structure Ln where
  cmd : Bs
  name : Bs
  opts : List (Bs × Bs)
def over : Bs → Bool
  | [] => true
  | c :: _ => isBl c
/-! ### the program's way -/
def span (f : UInt8 → Bool) : Nat → Bs → Bs × Bs
  | 0, l => ([], l)
  | _ + 1, [] => ([], [])
  | k + 1, c :: t => if f c then (c :: (span f k t).1, (span f k t).2) else ([], c :: t)
def letters (l : Bs) (p : Nat) : Except Nat (Bs × Bs × Nat) :=
  if (span isLet 16 l).1 = [] then .error p else .ok ((span isLet 16 l).1, (span isLet 16 l).2, p + (span isLet 16 l).1.length)
def named (a r : Bs) (p : Nat) : Except Nat (Bs × Bs × Nat) :=
  if over (span isNam (16 - a.length) r).2 then .ok (a ++ (span isNam (16 - a.length) r).1, (span isNam (16 - a.length) r).2, p + (span isNam (16 - a.length) r).1.length) else .error (p + (span isNam (16 - a.length) r).1.length)
def word (l : Bs) (p : Nat) : Except Nat (Bs × Bs × Nat) :=
  match letters l p with
  | .error q => .error q
  | .ok (a, r, q) => if r.head? = some 61 then .ok (a, r, q) else named a r q
def bare : Bs → Nat → Except Nat (Bs × Bs × Nat)
  | [], p => .ok ([], [], p)
  | c :: t, p => if isBl c then .ok ([], c :: t, p) else if isPl c then (match bare t (p + 1) with | .error q => .error q | .ok (v, r, q) => .ok (c :: v, r, q)) else .error p
def inQuotes : Bs → Nat → Except Nat (Bs × Bs × Nat)
  | [], p => .error p
  | c :: t, p =>
    if c = 34 then .ok ([], t, p + 1)
    else if fine c then
      if c = 92 then
        match t with
        | [] => .error (p + 1)
        | e :: t' =>
          if e = 34 ∨ e = 92 then (match inQuotes t' (p + 2) with | .error q => .error q | .ok (v, r, q) => .ok (e :: v, r, q))
          else if e = 120 then
            match t' with
            | [] => .error (p + 2)
            | h1 :: t1 =>
              if isHex h1 then
                match t1 with
                | [] => .error (p + 3)
                | h2 :: t2 => if isHex h2 then (match inQuotes t2 (p + 4) with | .error q => .error q | .ok (v, r, q) => .ok ((16 * hexv h1 + hexv h2) :: v, r, q)) else .error (p + 3)
              else .error (p + 2)
          else .error (p + 1)
      else (match inQuotes t (p + 1) with | .error q => .error q | .ok (v, r, q) => .ok (c :: v, r, q))
    else .error p
def value (l : Bs) (p : Nat) : Except Nat (Bs × Bs × Nat) :=
  match l with
  | [] => bare [] p
  | c :: t => if c = 34 then inQuotes t (p + 1) else bare (c :: t) p
def opt (L : Ln) (key r : Bs) (q : Nat) : Except Nat (Ln × Bs × Nat) :=
  match r with
  | [] => .error q
  | c :: t => if c = 61 then (match value t (q + 1) with | .error q => .error q | .ok (v, r, q) => .ok ({ L with opts := L.opts ++ [(key, v)] }, r, q)) else .error q
def body (n : Nat) (L : Ln) (l : Bs) (p : Nat) : Except Nat (Ln × Bs × Nat) :=
  if n = 0 then (match letters l p with | .error q => .error q | .ok (a, r, q) => .ok ({ L with cmd := a }, r, q))
  else if n = 1 then (match word l p with | .error q => .error q | .ok (a, r, q) => if over r then .ok ({ L with name := a }, r, q) else opt L a r q)
  else (match letters l p with | .error q => .error q | .ok (a, r, q) => opt L a r q)
def skip : Bs → Bs
  | [] => []
  | c :: t => if isBl c then skip t else c :: t
def comment : Bs → Nat → Option Nat
  | [], _ => none
  | c :: t, p => if fine c then comment t (p + 1) else some p
/-- The whole line from a field's beginning on; the place of the fault, from 0 on. -/
def prog : Nat → Nat → Ln → Bs → Nat → Except Nat Ln
  | 0, _, L, _, p => .ok L
  | f + 1, n, L, l, p =>
    match skip l with
    | [] => .ok L
    | c :: t =>
      if c = 35 then (match comment (c :: t) (p + (l.length - (t.length + 1))) with | none => .ok L | some q => .error q)
      else match body n L (c :: t) (p + (l.length - (t.length + 1))) with
        | .error q => .error q
        | .ok (L', r, q) => if over r then prog f (n + 1) L' r q else .error q
/-! ### the document's way -/
structure Sv where
  st : Nat
  fields : Nat
  word : Bs
  val : Bs
  half : UInt8
  ln : Ln
/-- One byte; none: bad. -/
def stepc (s : Sv) (c : UInt8) : Option Sv :=
  let ov := isBl c
  match s.st with
  | 0 => if ov then some s else if c = 35 then some { s with st := 12 } else if isLet c then some { s with word := [c], st := if s.fields = 0 then 1 else if s.fields = 1 then 2 else 4, fields := s.fields + 1 } else none
  | 1 => if ov then some { s with ln := { s.ln with cmd := s.word }, st := 0 } else if isLet c && !(s.word.length == 16) then some { s with word := s.word ++ [c] } else none
  | 2 => if ov then some { s with ln := { s.ln with name := s.word }, st := 0 } else if c = 61 then some { s with st := 5 } else if isNam c && !(s.word.length == 16) then some { s with word := s.word ++ [c], st := if isLet c then 2 else 3 } else none
  | 3 => if ov then some { s with ln := { s.ln with name := s.word }, st := 0 } else if isNam c && !(s.word.length == 16) then some { s with word := s.word ++ [c] } else none
  | 4 => if c = 61 then some { s with st := 5 } else if !ov && isLet c && !(s.word.length == 16) then some { s with word := s.word ++ [c] } else none
  | 5 => if ov then some { s with ln := { s.ln with opts := s.ln.opts ++ [(s.word, s.val)] }, val := [], st := 0 } else if c = 34 then some { s with st := 7 } else some { s with st := 6, val := s.val ++ [c] }
  | 6 => if ov then some { s with ln := { s.ln with opts := s.ln.opts ++ [(s.word, s.val)] }, val := [], st := 0 } else some { s with val := s.val ++ [c] }
  | 7 => if c = 34 then some { s with st := 11 } else if c = 92 then some { s with st := 8 } else some { s with val := s.val ++ [c] }
  | 8 => if c = 120 then some { s with st := 9 } else if c = 34 ∨ c = 92 then some { s with st := 7, val := s.val ++ [c] } else none
  | 9 => if isHex c then some { s with st := 10, half := hexv c } else none
  | 10 => if isHex c then some { s with st := 7, val := s.val ++ [16 * s.half + hexv c] } else none
  | 11 => if ov then some { s with ln := { s.ln with opts := s.ln.opts ++ [(s.word, s.val)] }, val := [], st := 0 } else none
  | _ => some s
/-- The line's end; none: bad. -/
def stepe (s : Sv) : Option Ln :=
  match s.st with
  | 0 => some s.ln
  | 1 => some { s.ln with cmd := s.word }
  | 2 => some { s.ln with name := s.word }
  | 3 => some { s.ln with name := s.word }
  | 4 => none
  | 5 => some { s.ln with opts := s.ln.opts ++ [(s.word, s.val)] }
  | 6 => some { s.ln with opts := s.ln.opts ++ [(s.word, s.val)] }
  | 7 => none
  | 8 => none
  | 9 => none
  | 10 => none
  | 11 => some { s.ln with opts := s.ln.opts ++ [(s.word, s.val)] }
  | _ => some s.ln
def run : Sv → Bs → Nat → Except Nat Ln
  | s, [], i => (match stepe s with | none => .error i | some L => .ok L)
  | s, c :: t, i => if fine c then (match stepc s c with | none => .error i | some s' => run s' t (i + 1)) else .error i
/-! ### they agree -/
theorem run_blank (n : Nat) (w v : Bs) (h : UInt8) (L : Ln) (c : UInt8) (t : Bs) (p : Nat) (hb : isBl c = true) : run ⟨0, n, w, v, h, L⟩ (c :: t) p = run ⟨0, n, w, v, h, L⟩ t (p + 1) := by
  simp [run, stepc, bl_fine c hb, hb]
theorem run_skip (n : Nat) (w v : Bs) (h : UInt8) (L : Ln) : ∀ (l : Bs) (p : Nat), run ⟨0, n, w, v, h, L⟩ l p = run ⟨0, n, w, v, h, L⟩ (skip l) (p + (l.length - (skip l).length)) ∧ (skip l).length ≤ l.length
  | [], p => by simp [skip]
  | c :: t, p => by
    cases hb : isBl c
    · simp [skip, hb]
    · have ih := run_skip n w v h L t (p + 1)
      rw [run_blank n w v h L c t p hb, ih.1]
      have e : skip (c :: t) = skip t := by simp [skip, hb]
      rw [e]
      have := ih.2
      refine ⟨?_, by simp; omega⟩
      congr 1
      simp only [List.length_cons]
      omega
theorem run_comment (n : Nat) (w v : Bs) (h : UInt8) (L : Ln) : ∀ (l : Bs) (p : Nat), run ⟨12, n, w, v, h, L⟩ l p = match comment l p with | none => .ok L | some q => .error q
  | [], p => by simp [run, stepe, comment]
  | c :: t, p => by
    cases hf : fine c
    · simp [run, hf, comment]
    · have ih := run_comment n w v h L t (p + 1)
      simp [run, hf, comment, stepc, ih]
theorem sub_succ {k : Nat} (h : k < 16) : 16 - k = (16 - (k + 1)) + 1 := by omega
theorem run_command (n : Nat) (v : Bs) (h : UInt8) (L : Ln) : ∀ (l : Bs) (w : Bs) (p : Nat), w.length ≤ 16 → run ⟨1, n, w, v, h, L⟩ l p =
    if over (span isLet (16 - w.length) l).2 then run ⟨0, n, w ++ (span isLet (16 - w.length) l).1, v, h, { L with cmd := w ++ (span isLet (16 - w.length) l).1 }⟩ (span isLet (16 - w.length) l).2 (p + (span isLet (16 - w.length) l).1.length) else .error (p + (span isLet (16 - w.length) l).1.length)
  | [], w, p, hw => by
    have e : span isLet (16 - w.length) [] = ([], []) := by cases 16 - w.length <;> rfl
    simp [e, run, stepe, over]
  | c :: t, w, p, hw => by
    cases hb : isBl c
    · by_cases hc : isLet c = true ∧ w.length < 16
      · have ih := run_command n v h L t (w ++ [c]) (p + 1) (by simp; omega)
        have hl : (w.length == 16) = false := by simp; omega
        rw [sub_succ hc.2]
        simp only [span, hc.1, if_true]
        rw [show (w ++ [c]).length = w.length + 1 by simp] at ih
        simp only [run, let_fine c hc.1, if_true, stepc, hb, hc.1, hl, Bool.false_eq_true, if_false, Bool.not_false, Bool.and_self]
        rw [ih]
        simp [Nat.add_assoc, Nat.add_comm]
      · have e : span isLet (16 - w.length) (c :: t) = ([], c :: t) := by
          by_cases h1 : isLet c = true
          · have : w.length = 16 := by
              have := not_and.1 hc h1
              omega
            rw [this]
            rfl
          · cases 16 - w.length with
            | zero => rfl
            | succ k => simp [span, h1]
        have hs : stepc ⟨1, n, w, v, h, L⟩ c = none := by
          by_cases h1 : isLet c = true
          · have : w.length = 16 := by
              have := not_and.1 hc h1
              omega
            simp [stepc, hb, this]
          · simp [stepc, hb, h1]
        rw [e]
        cases hf : fine c <;> simp [run, hf, hs, over, hb]
    · have e : span isLet (16 - w.length) (c :: t) = ([], c :: t) := by
        cases 16 - w.length with
        | zero => rfl
        | succ k => simp [span, bl_not_let c hb]
      rw [e]
      simp [run, bl_fine c hb, stepc, hb, over]
theorem run_named (n : Nat) (v : Bs) (h : UInt8) (L : Ln) : ∀ (l : Bs) (w : Bs) (p : Nat), w.length ≤ 16 → run ⟨3, n, w, v, h, L⟩ l p =
    if over (span isNam (16 - w.length) l).2 then run ⟨0, n, w ++ (span isNam (16 - w.length) l).1, v, h, { L with name := w ++ (span isNam (16 - w.length) l).1 }⟩ (span isNam (16 - w.length) l).2 (p + (span isNam (16 - w.length) l).1.length) else .error (p + (span isNam (16 - w.length) l).1.length)
  | [], w, p, hw => by
    have e : span isNam (16 - w.length) [] = ([], []) := by cases 16 - w.length <;> rfl
    simp [e, run, stepe, over]
  | c :: t, w, p, hw => by
    cases hb : isBl c
    · by_cases hc : isNam c = true ∧ w.length < 16
      · have ih := run_named n v h L t (w ++ [c]) (p + 1) (by simp; omega)
        have hl : (w.length == 16) = false := by simp; omega
        rw [sub_succ hc.2]
        simp only [span, hc.1, if_true]
        rw [show (w ++ [c]).length = w.length + 1 by simp] at ih
        simp only [run, nam_fine c hc.1, if_true, stepc, hb, hc.1, hl, Bool.false_eq_true, if_false, Bool.not_false, Bool.and_self]
        rw [ih]
        simp [Nat.add_assoc, Nat.add_comm]
      · have e : span isNam (16 - w.length) (c :: t) = ([], c :: t) := by
          by_cases h1 : isNam c = true
          · have : w.length = 16 := by
              have := not_and.1 hc h1
              omega
            rw [this]
            rfl
          · cases 16 - w.length with
            | zero => rfl
            | succ k => simp [span, h1]
        have hs : stepc ⟨3, n, w, v, h, L⟩ c = none := by
          by_cases h1 : isNam c = true
          · have : w.length = 16 := by
              have := not_and.1 hc h1
              omega
            simp [stepc, hb, this]
          · simp [stepc, hb, h1]
        rw [e]
        cases hf : fine c <;> simp [run, hf, hs, over, hb]
    · have e : span isNam (16 - w.length) (c :: t) = ([], c :: t) := by
        cases 16 - w.length with
        | zero => rfl
        | succ k => simp [span, bl_not_nam c hb]
      rw [e]
      simp [run, bl_fine c hb, stepc, hb, over]
/-- What the second field comes to, its first letters being read. -/
def secondR (n : Nat) (v : Bs) (h : UInt8) (L : Ln) (w : Bs) (a : Bs × Bs) (p : Nat) : Except Nat Ln :=
  if a.2.head? = some 61 then run ⟨5, n, w ++ a.1, v, h, L⟩ a.2.tail (p + a.1.length + 1)
  else if over (span isNam (16 - (w ++ a.1).length) a.2).2 then run ⟨0, n, w ++ a.1 ++ (span isNam (16 - (w ++ a.1).length) a.2).1, v, h, { L with name := w ++ a.1 ++ (span isNam (16 - (w ++ a.1).length) a.2).1 }⟩ (span isNam (16 - (w ++ a.1).length) a.2).2 (p + a.1.length + (span isNam (16 - (w ++ a.1).length) a.2).1.length)
  else .error (p + a.1.length + (span isNam (16 - (w ++ a.1).length) a.2).1.length)
theorem run_second (n : Nat) (v : Bs) (h : UInt8) (L : Ln) : ∀ (l : Bs) (w : Bs) (p : Nat), w.length ≤ 16 → run ⟨2, n, w, v, h, L⟩ l p = secondR n v h L w (span isLet (16 - w.length) l) p
  | [], w, p, hw => by
    have e : span isLet (16 - w.length) [] = ([], []) := by cases 16 - w.length <;> rfl
    have e2 : span isNam (16 - w.length) [] = ([], []) := by cases 16 - w.length <;> rfl
    simp [e, e2, run, stepe, over, secondR]
  | c :: t, w, p, hw => by
    by_cases hc : isLet c = true ∧ w.length < 16
    · have ih := run_second n v h L t (w ++ [c]) (p + 1) (by simp; omega)
      have hl : (w.length == 16) = false := by simp; omega
      have h61 : ¬ c = 61 := by
        intro e
        rw [e] at hc
        exact absurd hc.1 (by decide)
      rw [sub_succ hc.2]
      simp only [span, hc.1, if_true]
      rw [show (w ++ [c]).length = w.length + 1 by simp] at ih
      simp only [run, let_fine c hc.1, if_true, stepc, let_not_bl c hc.1, let_nam c hc.1, h61, hc.1, hl, Bool.false_eq_true, if_false, Bool.not_false, Bool.and_self]
      rw [ih]
      simp [secondR, Nat.add_assoc, Nat.add_comm, Nat.add_left_comm]
    · have e : span isLet (16 - w.length) (c :: t) = ([], c :: t) := by
        by_cases h1 : isLet c = true
        · have : w.length = 16 := by
            have := not_and.1 hc h1
            omega
          rw [this]
          rfl
        · cases 16 - w.length with
          | zero => rfl
          | succ k => simp [span, h1]
      rw [e]
      by_cases h61 : c = 61
      · subst h61
        simp [secondR, run, stepc, show fine 61 = true by decide, show isBl 61 = false by decide]
      · cases hb : isBl c
        · by_cases hn : isNam c = true ∧ w.length < 16
          · have hl : (w.length == 16) = false := by simp; omega
            have h1 : isLet c = false := by
              rw [Bool.eq_false_iff]
              exact fun h1 => hc ⟨h1, hn.2⟩
            have h3 := run_named n v h L t (w ++ [c]) (p + 1) (by simp; omega)
            rw [show (w ++ [c]).length = w.length + 1 by simp] at h3
            simp only [run, nam_fine c hn.1, if_true, stepc, hb, h61, hn.1, hl, h1, Bool.false_eq_true, if_false, Bool.not_false, Bool.and_self]
            rw [h3]
            simp only [secondR, List.append_nil, List.head?_cons, Option.some.injEq, h61, if_false, List.length_nil, Nat.add_zero]
            rw [sub_succ hn.2]
            simp [span, hn.1, Nat.add_assoc, Nat.add_comm]
          · have e2 : span isNam (16 - w.length) (c :: t) = ([], c :: t) := by
              by_cases h1 : isNam c = true
              · have : w.length = 16 := by
                  have := not_and.1 hn h1
                  omega
                rw [this]
                rfl
              · cases 16 - w.length with
                | zero => rfl
                | succ k => simp [span, h1]
            have hs : stepc ⟨2, n, w, v, h, L⟩ c = none := by
              by_cases h1 : isNam c = true
              · have : w.length = 16 := by
                  have := not_and.1 hn h1
                  omega
                simp [stepc, hb, this, h61]
              · simp [stepc, hb, h1, h61]
            cases hf : fine c <;> simp [run, hf, hs, over, hb, secondR, h61, e2]
        · have e2 : span isNam (16 - w.length) (c :: t) = ([], c :: t) := by
            cases 16 - w.length with
            | zero => rfl
            | succ k => simp [span, bl_not_nam c hb]
          simp [run, bl_fine c hb, stepc, hb, over, secondR, h61, e2]
theorem run_key (n : Nat) (v : Bs) (h : UInt8) (L : Ln) : ∀ (l : Bs) (w : Bs) (p : Nat), w.length ≤ 16 → run ⟨4, n, w, v, h, L⟩ l p =
    if (span isLet (16 - w.length) l).2.head? = some 61 then run ⟨5, n, w ++ (span isLet (16 - w.length) l).1, v, h, L⟩ (span isLet (16 - w.length) l).2.tail (p + (span isLet (16 - w.length) l).1.length + 1) else .error (p + (span isLet (16 - w.length) l).1.length)
  | [], w, p, hw => by
    have e : span isLet (16 - w.length) [] = ([], []) := by cases 16 - w.length <;> rfl
    simp [e, run, stepe]
  | c :: t, w, p, hw => by
    by_cases hc : isLet c = true ∧ w.length < 16
    · have ih := run_key n v h L t (w ++ [c]) (p + 1) (by simp; omega)
      have hl : (w.length == 16) = false := by simp; omega
      have h61 : ¬ c = 61 := by
        intro e
        rw [e] at hc
        exact absurd hc.1 (by decide)
      rw [sub_succ hc.2]
      simp only [span, hc.1, if_true]
      rw [show (w ++ [c]).length = w.length + 1 by simp] at ih
      simp only [run, let_fine c hc.1, if_true, stepc, let_not_bl c hc.1, h61, hc.1, hl, Bool.false_eq_true, if_false, Bool.not_false, Bool.and_self]
      rw [ih]
      simp [Nat.add_assoc, Nat.add_comm, Nat.add_left_comm]
    · have e : span isLet (16 - w.length) (c :: t) = ([], c :: t) := by
        by_cases h1 : isLet c = true
        · have : w.length = 16 := by
            have := not_and.1 hc h1
            omega
          rw [this]
          rfl
        · cases 16 - w.length with
          | zero => rfl
          | succ k => simp [span, h1]
      rw [e]
      by_cases h61 : c = 61
      · subst h61
        simp [run, stepc, show fine 61 = true by decide]
      · have hs : stepc ⟨4, n, w, v, h, L⟩ c = none := by
          by_cases h1 : isLet c = true
          · have : w.length = 16 := by
              have := not_and.1 hc h1
              omega
            simp [stepc, this, h61]
          · simp [stepc, h1, h61]
        cases hf : fine c <;> simp [run, hf, hs, h61]
/-- Behind an option's value: the option is laid down. -/
def laidR (n : Nat) (w v : Bs) (h : UInt8) (L : Ln) : Except Nat (Bs × Bs × Nat) → Except Nat Ln
  | .error q => .error q
  | .ok (v', r, q) => run ⟨0, n, w, [], h, { L with opts := L.opts ++ [(w, v ++ v')] }⟩ r q
theorem run_bare (n : Nat) (w : Bs) (h : UInt8) (L : Ln) : ∀ (l v : Bs) (p : Nat), run ⟨6, n, w, v, h, L⟩ l p = laidR n w v h L (bare l p)
  | [], v, p => by simp [run, stepe, bare, laidR]
  | c :: t, v, p => by
    cases hb : isBl c
    · have hf : fine c = isPl c := by rw [fine_eq, hb, Bool.or_false]
      cases hp : isPl c
      · rw [hp] at hf
        simp [run, hf, bare, hb, hp, laidR]
      · rw [hp] at hf
        have ih := run_bare n w h L t (v ++ [c]) (p + 1)
        simp only [run, hf, if_true, stepc, hb, Bool.false_eq_true, if_false, bare, hp]
        rw [ih]
        cases bare t (p + 1) with
        | error q => rfl
        | ok x => simp [laidR]
    · simp [run, bl_fine c hb, stepc, hb, bare, laidR]
def shutR (n : Nat) (w v : Bs) (h : UInt8) (L : Ln) : Except Nat (Bs × Bs × Nat) → Except Nat Ln
  | .error q => .error q
  | .ok (v', r, q) => if over r then run ⟨0, n, w, [], h, { L with opts := L.opts ++ [(w, v ++ v')] }⟩ r q else .error q
theorem run_shut (n : Nat) (w v : Bs) (h : UInt8) (L : Ln) (l : Bs) (p : Nat) : run ⟨11, n, w, v, h, L⟩ l p = shutR n w v h L (.ok ([], l, p)) := by
  cases l with
  | nil => simp [run, stepe, shutR, over]
  | cons c t =>
    cases hb : isBl c
    · have hs : stepc ⟨11, n, w, v, h, L⟩ c = none := by simp [stepc, hb]
      cases hf : fine c <;> simp [run, hf, hs, shutR, over, hb]
    · simp [run, bl_fine c hb, stepc, hb, shutR, over]
theorem q34 (t : Bs) (p : Nat) : inQuotes (34 :: t) p = .ok ([], t, p + 1) := by
  conv => lhs; unfold inQuotes
  rw [if_pos rfl]
theorem qbad (c : UInt8) (t : Bs) (p : Nat) (h34 : ¬ c = 34) (hf : fine c = false) : inQuotes (c :: t) p = .error p := by
  conv => lhs; unfold inQuotes
  rw [if_neg h34, if_neg (by rw [hf]; decide)]
theorem qplain (c : UInt8) (t : Bs) (p : Nat) (h34 : ¬ c = 34) (hf : fine c = true) (h92 : ¬ c = 92) : inQuotes (c :: t) p = (match inQuotes t (p + 1) with | .error q => .error q | .ok (v, r, q) => .ok (c :: v, r, q)) := by
  conv => lhs; unfold inQuotes
  rw [if_neg h34, if_pos hf, if_neg h92]
theorem qe0 (p : Nat) : inQuotes [92] p = .error (p + 1) := by
  conv => lhs; unfold inQuotes
  rw [if_neg (by decide), if_pos (by decide), if_pos rfl]
theorem qe1 (e : UInt8) (t : Bs) (p : Nat) (he : e = 34 ∨ e = 92) : inQuotes (92 :: e :: t) p = (match inQuotes t (p + 2) with | .error q => .error q | .ok (v, r, q) => .ok (e :: v, r, q)) := by
  conv => lhs; unfold inQuotes
  rw [if_neg (by decide), if_pos (by decide), if_pos rfl]
  dsimp only
  rw [if_pos he]
theorem qe2 (e : UInt8) (t : Bs) (p : Nat) (he : ¬ (e = 34 ∨ e = 92)) (h120 : ¬ e = 120) : inQuotes (92 :: e :: t) p = .error (p + 1) := by
  conv => lhs; unfold inQuotes
  rw [if_neg (by decide), if_pos (by decide), if_pos rfl]
  dsimp only
  rw [if_neg he, if_neg h120]
theorem qx0 (p : Nat) : inQuotes [92, 120] p = .error (p + 2) := by
  conv => lhs; unfold inQuotes
  rw [if_neg (by decide), if_pos (by decide), if_pos rfl]
  dsimp only
  rw [if_neg (by decide), if_pos rfl]
theorem qx1 (h1 : UInt8) (t : Bs) (p : Nat) (x1 : isHex h1 = false) : inQuotes (92 :: 120 :: h1 :: t) p = .error (p + 2) := by
  conv => lhs; unfold inQuotes
  rw [if_neg (by decide), if_pos (by decide), if_pos rfl]
  dsimp only
  rw [if_neg (by decide), if_pos rfl, if_neg (by rw [x1]; decide)]
theorem qx2 (h1 : UInt8) (p : Nat) (x1 : isHex h1 = true) : inQuotes [92, 120, h1] p = .error (p + 3) := by
  conv => lhs; unfold inQuotes
  rw [if_neg (by decide), if_pos (by decide), if_pos rfl]
  dsimp only
  rw [if_neg (by decide), if_pos rfl, if_pos x1]
theorem qx3 (h1 h2 : UInt8) (t : Bs) (p : Nat) (x1 : isHex h1 = true) (x2 : isHex h2 = false) : inQuotes (92 :: 120 :: h1 :: h2 :: t) p = .error (p + 3) := by
  conv => lhs; unfold inQuotes
  rw [if_neg (by decide), if_pos (by decide), if_pos rfl]
  dsimp only
  rw [if_neg (by decide), if_pos rfl, if_pos x1]
  try dsimp only
  rw [if_neg (by rw [x2]; decide)]
theorem qx4 (h1 h2 : UInt8) (t : Bs) (p : Nat) (x1 : isHex h1 = true) (x2 : isHex h2 = true) : inQuotes (92 :: 120 :: h1 :: h2 :: t) p = (match inQuotes t (p + 4) with | .error q => .error q | .ok (v, r, q) => .ok ((16 * hexv h1 + hexv h2) :: v, r, q)) := by
  conv => lhs; unfold inQuotes
  rw [if_neg (by decide), if_pos (by decide), if_pos rfl]
  dsimp only
  rw [if_neg (by decide), if_pos rfl, if_pos x1]
  try dsimp only
  rw [if_pos x2]
theorem qend (p : Nat) : inQuotes [] p = .error p := by
  conv => lhs; unfold inQuotes
theorem run_quoted (n : Nat) (w : Bs) (L : Ln) : ∀ (k : Nat) (l v : Bs) (p : Nat) (h : UInt8), l.length ≤ k → ∃ h', run ⟨7, n, w, v, h, L⟩ l p = shutR n w v h' L (inQuotes l p)
  | _, [], v, p, h, _ => ⟨h, by simp [run, stepe, qend, shutR]⟩
  | 0, _ :: _, _, _, _, hk => by simp at hk
  | k + 1, c :: t, v, p, h, hk => by
    rw [List.length_cons] at hk
    by_cases h34 : c = 34
    · subst h34
      refine ⟨h, ?_⟩
      have e := run_shut n w v h L t (p + 1)
      simp only [run, show fine 34 = true by decide, if_true, stepc]
      rw [e]
      simp [q34, shutR]
    · cases hf : fine c
      · exact ⟨h, by simp [run, hf, qbad c t p h34 hf, shutR]⟩
      · by_cases h92 : c = 92
        · subst h92
          match t, hk with
          | [], _ => exact ⟨h, by simp [run, hf, stepc, stepe, qe0, shutR]⟩
          | e :: t', hk =>
            rw [List.length_cons] at hk
            by_cases he : e = 34 ∨ e = 92
            · obtain ⟨h', ih⟩ := run_quoted n w L k t' (v ++ [e]) (p + 2) h (by omega)
              refine ⟨h', ?_⟩
              have hfe : fine e = true := by rcases he with rfl | rfl <;> decide
              have h120 : ¬ e = 120 := by rcases he with rfl | rfl <;> decide
              have e1 : run ⟨7, n, w, v, h, L⟩ (92 :: e :: t') p = run ⟨7, n, w, v ++ [e], h, L⟩ t' (p + 2) := by
                simp [run, hf, stepc, hfe, he, h120]
              rw [e1, ih]
              have e2 : inQuotes (92 :: e :: t') p = (match inQuotes t' (p + 2) with | .error q => .error q | .ok (v, r, q) => .ok (e :: v, r, q)) := qe1 e t' p he
              rw [e2]
              cases inQuotes t' (p + 2) with
              | error q => rfl
              | ok x => simp [shutR]
            · by_cases h120 : e = 120
              · subst h120
                match t', hk with
                | [], _ => exact ⟨h, by simp [run, hf, stepc, stepe, qx0, shutR, show fine 120 = true by decide]⟩
                | h1 :: t1, hk =>
                  rw [List.length_cons] at hk
                  cases x1 : isHex h1
                  · refine ⟨h, ?_⟩
                    have hs : stepc ⟨9, n, w, v, h, L⟩ h1 = none := by simp [stepc, x1]
                    have e1 : run ⟨7, n, w, v, h, L⟩ (92 :: 120 :: h1 :: t1) p = run ⟨9, n, w, v, h, L⟩ (h1 :: t1) (p + 2) := by
                      simp [run, hf, stepc, show fine 120 = true by decide]
                    rw [e1]
                    cases hf1 : fine h1 <;> simp [run, hf1, hs, qx1 h1 t1 p x1, shutR]
                  · have f1 := hex_fine h1 x1
                    match t1, hk with
                    | [], _ => exact ⟨h, by simp [run, hf, stepc, stepe, qx2 h1 p x1, shutR, x1, f1, show fine 120 = true by decide]⟩
                    | h2 :: t2, hk =>
                      rw [List.length_cons] at hk
                      have e1 : run ⟨7, n, w, v, h, L⟩ (92 :: 120 :: h1 :: h2 :: t2) p = run ⟨10, n, w, v, hexv h1, L⟩ (h2 :: t2) (p + 3) := by
                        simp [run, hf, stepc, x1, f1, show fine 120 = true by decide]
                      cases x2 : isHex h2
                      · refine ⟨h, ?_⟩
                        have hs : stepc ⟨10, n, w, v, hexv h1, L⟩ h2 = none := by simp [stepc, x2]
                        rw [e1]
                        cases hf2 : fine h2 <;> simp [run, hf2, hs, qx3 h1 h2 t2 p x1 x2, shutR]
                      · have f2 := hex_fine h2 x2
                        obtain ⟨h', ih⟩ := run_quoted n w L k t2 (v ++ [16 * hexv h1 + hexv h2]) (p + 4) (hexv h1) (by omega)
                        refine ⟨h', ?_⟩
                        have e3 : run ⟨10, n, w, v, hexv h1, L⟩ (h2 :: t2) (p + 3) = run ⟨7, n, w, v ++ [16 * hexv h1 + hexv h2], hexv h1, L⟩ t2 (p + 4) := by
                          simp [run, f2, stepc, x2]
                        rw [e1, e3, ih]
                        have e2 : inQuotes (92 :: 120 :: h1 :: h2 :: t2) p = (match inQuotes t2 (p + 4) with | .error q => .error q | .ok (v, r, q) => .ok ((16 * hexv h1 + hexv h2) :: v, r, q)) := qx4 h1 h2 t2 p x1 x2
                        rw [e2]
                        cases inQuotes t2 (p + 4) with
                        | error q => rfl
                        | ok x => simp [shutR]
              · refine ⟨h, ?_⟩
                have hs : stepc ⟨8, n, w, v, h, L⟩ e = none := by simp [stepc, he, h120]
                have e1 : run ⟨7, n, w, v, h, L⟩ (92 :: e :: t') p = run ⟨8, n, w, v, h, L⟩ (e :: t') (p + 1) := by
                  simp [run, hf, stepc]
                have e2 : inQuotes (92 :: e :: t') p = .error (p + 1) := qe2 e t' p he h120
                rw [e1, e2]
                cases hfe : fine e <;> simp [run, hfe, hs, shutR]
        · obtain ⟨h', ih⟩ := run_quoted n w L k t (v ++ [c]) (p + 1) h (by omega)
          refine ⟨h', ?_⟩
          have e1 : run ⟨7, n, w, v, h, L⟩ (c :: t) p = run ⟨7, n, w, v ++ [c], h, L⟩ t (p + 1) := by
            simp [run, hf, stepc, h34, h92]
          have e2 : inQuotes (c :: t) p = (match inQuotes t (p + 1) with | .error q => .error q | .ok (v, r, q) => .ok (c :: v, r, q)) := qplain c t p h34 hf h92
          rw [e1, ih, e2]
          cases inQuotes t (p + 1) with
          | error q => rfl
          | ok x => simp [shutR]
/-- A bare value's end is the field's end. -/
theorem bare_over : ∀ (l : Bs) (p : Nat) (v r : Bs) (q : Nat), bare l p = .ok (v, r, q) → over r = true
  | [], p, v, r, q, h => by
    simp only [bare, Except.ok.injEq, Prod.mk.injEq] at h
    rw [← h.2.1]
    rfl
  | c :: t, p, v, r, q, h => by
    cases hb : isBl c
    · cases hp : isPl c
      · simp [bare, hb, hp] at h
      · simp only [bare, hb, hp, Bool.false_eq_true, if_false, if_true] at h
        cases hx : bare t (p + 1) with
        | error q => rw [hx] at h; simp at h
        | ok x =>
          obtain ⟨v', r', q'⟩ := x
          rw [hx] at h
          simp only [Except.ok.injEq, Prod.mk.injEq] at h
          rw [← h.2.1]
          exact bare_over t (p + 1) v' r' q' hx
    · simp only [bare, hb, if_true, Except.ok.injEq, Prod.mk.injEq] at h
      rw [← h.2.1]
      exact hb
/-- Behind the sign. -/
def begunR (n : Nat) (w : Bs) (h : UInt8) (L : Ln) : Except Nat (Bs × Bs × Nat) → Except Nat Ln := shutR n w [] h L
theorem run_begun (n : Nat) (w : Bs) (h : UInt8) (L : Ln) (l : Bs) (p : Nat) : ∃ h', run ⟨5, n, w, [], h, L⟩ l p = begunR n w h' L (value l p) := by
  have hbare : ∀ (x : Bs) (p : Nat), laidR n w [] h L (bare x p) = begunR n w h L (bare x p) := by
    intro x p
    cases hx : bare x p with
    | error q => rfl
    | ok y =>
      obtain ⟨v, r, q⟩ := y
      simp [laidR, begunR, shutR, bare_over x p v r q hx]
  cases l with
  | nil => exact ⟨h, by simp [run, stepe, value, bare, begunR, shutR, over]⟩
  | cons c t =>
    by_cases h34 : c = 34
    · subst h34
      obtain ⟨h', e⟩ := run_quoted n w L t.length t [] (p + 1) h (Nat.le_refl _)
      refine ⟨h', ?_⟩
      have e1 : run ⟨5, n, w, [], h, L⟩ (34 :: t) p = run ⟨7, n, w, [], h, L⟩ t (p + 1) := by
        simp [run, stepc, show fine 34 = true by decide, show isBl 34 = false by decide]
      rw [e1, e]
      simp [value, begunR]
    · refine ⟨h, ?_⟩
      have ev : value (c :: t) p = bare (c :: t) p := by simp [value, h34]
      rw [ev, ← hbare, ← run_bare]
      cases hb : isBl c
      · cases hf : fine c <;> simp [run, hf, stepc, hb, h34]
      · simp [run, bl_fine c hb, stepc, hb]
theorem over_skip (l : Bs) (h : over l = false) : ∃ c t, l = c :: t ∧ isBl c = false := by
  cases l with
  | nil => simp [over] at h
  | cons c t => exact ⟨c, t, rfl, h⟩
theorem span_len (f : UInt8 → Bool) : ∀ (k : Nat) (l : Bs), (span f k l).1.length + (span f k l).2.length = l.length ∧ (span f k l).1.length ≤ k
  | 0, l => by simp [span]
  | k + 1, [] => by simp [span]
  | k + 1, c :: t => by
    have ih := span_len f k t
    by_cases h : f c = true
    · simp only [span, h, if_true, List.length_cons]
      omega
    · simp [span, h]
theorem bare_len : ∀ (l : Bs) (p : Nat) (v r : Bs) (q : Nat), bare l p = .ok (v, r, q) → r.length ≤ l.length
  | [], p, v, r, q, h => by
    simp only [bare, Except.ok.injEq, Prod.mk.injEq] at h
    rw [← h.2.1]
    exact Nat.le_refl _
  | c :: t, p, v, r, q, h => by
    cases hb : isBl c
    · cases hp : isPl c
      · simp [bare, hb, hp] at h
      · simp only [bare, hb, hp, Bool.false_eq_true, if_false, if_true] at h
        cases hx : bare t (p + 1) with
        | error q => rw [hx] at h; simp at h
        | ok x =>
          obtain ⟨v', r', q'⟩ := x
          rw [hx] at h
          simp only [Except.ok.injEq, Prod.mk.injEq] at h
          have := bare_len t (p + 1) v' r' q' hx
          rw [← h.2.1, List.length_cons]
          omega
    · simp only [bare, hb, if_true, Except.ok.injEq, Prod.mk.injEq] at h
      rw [← h.2.1]
      exact Nat.le_refl _
theorem quoted_len : ∀ (k : Nat) (l : Bs) (p : Nat) (v r : Bs) (q : Nat), l.length ≤ k → inQuotes l p = .ok (v, r, q) → r.length ≤ l.length
  | _, [], p, v, r, q, _, h => by simp [inQuotes] at h
  | 0, _ :: _, _, _, _, _, hk, _ => by simp at hk
  | k + 1, c :: t, p, v, r, q, hk, h => by
    rw [List.length_cons] at hk ⊢
    have fin : ∀ (x : Bs) (pp : Nat) (d : UInt8), x.length ≤ k → (match inQuotes x pp with | .error q => (.error q : Except Nat (Bs × Bs × Nat)) | .ok (v, r, q) => .ok (d :: v, r, q)) = .ok (v, r, q) → r.length ≤ x.length := by
      intro x pp d hx hh
      cases hq : inQuotes x pp with
      | error q => rw [hq] at hh; simp at hh
      | ok y =>
        obtain ⟨v', r', q'⟩ := y
        rw [hq] at hh
        simp only [Except.ok.injEq, Prod.mk.injEq] at hh
        rw [← hh.2.1]
        exact quoted_len k x pp v' r' q' hx hq
    unfold inQuotes at h
    split at h
    · simp only [Except.ok.injEq, Prod.mk.injEq] at h
      rw [← h.2.1]
      omega
    · split at h
      · split at h
        · split at h
          · simp at h
          · rename_i e t'
            rw [List.length_cons] at hk ⊢
            split at h
            · have := fin t' _ _ (by omega) h
              omega
            · split at h
              · split at h
                · simp at h
                · rename_i h1 t1
                  rw [List.length_cons] at hk ⊢
                  split at h
                  · split at h
                    · simp at h
                    · rename_i h2 t2
                      rw [List.length_cons] at hk ⊢
                      split at h
                      · have := fin t2 _ _ (by omega) h
                        omega
                      · simp at h
                  · simp at h
              · simp at h
        · have := fin t _ _ (by omega) h
          omega
      · simp at h
theorem value_len (l : Bs) (p : Nat) (v r : Bs) (q : Nat) (h : value l p = .ok (v, r, q)) : r.length ≤ l.length := by
  cases l with
  | nil => exact bare_len [] p v r q h
  | cons c t =>
    unfold value at h
    dsimp only at h
    by_cases h34 : c = 34
    · rw [if_pos h34] at h
      have := quoted_len t.length t (p + 1) v r q (Nat.le_refl _) h
      rw [List.length_cons]
      omega
    · rw [if_neg h34] at h
      exact bare_len (c :: t) p v r q h
theorem skip_head : ∀ (l : Bs) (c : UInt8) (t : Bs), skip l = c :: t → isBl c = false
  | [], c, t, h => by simp [skip] at h
  | x :: l, c, t, h => by
    cases hb : isBl x
    · simp only [skip, hb, Bool.false_eq_true, if_false, List.cons.injEq] at h
      rw [← h.1]
      exact hb
    · simp only [skip, hb, if_true] at h
      exact skip_head l c t h
theorem letters_let (c : UInt8) (t : Bs) (p : Nat) (h : isLet c = true) : letters (c :: t) p = .ok (c :: (span isLet 15 t).1, (span isLet 15 t).2, p + ((span isLet 15 t).1.length + 1)) := by
  have e : span isLet 16 (c :: t) = (c :: (span isLet 15 t).1, (span isLet 15 t).2) := by simp [span, h]
  unfold letters
  rw [e]
  simp
theorem letters_no (c : UInt8) (t : Bs) (p : Nat) (h : isLet c = false) : letters (c :: t) p = .error p := by
  have e : span isLet 16 (c :: t) = ([], c :: t) := by simp [span, h]
  unfold letters
  rw [e, if_pos rfl]
theorem prog_step (f n : Nat) (L : Ln) (l : Bs) (p : Nat) (c : UInt8) (t : Bs) (hs : skip l = c :: t) (h35 : ¬ c = 35) :
    prog (f + 1) n L l p = match body n L (c :: t) (p + (l.length - (t.length + 1))) with | .error q => .error q | .ok (L', r, q) => if over r then prog f (n + 1) L' r q else .error q := by
  conv => lhs; unfold prog
  rw [hs]
  dsimp only
  rw [if_neg h35]
/-- **The two ways of reading a line agree.** -/
theorem run_prog : ∀ (f n : Nat) (L : Ln) (l : Bs) (p : Nat) (w : Bs) (h : UInt8), l.length < f → run ⟨0, n, w, [], h, L⟩ l p = prog f n L l p
  | 0, _, _, _, _, _, _, hf => absurd hf (by omega)
  | f + 1, n, L, l, p, w, h, hf => by
    obtain ⟨e0, hsl⟩ := run_skip n w [] h L l p
    rw [e0]
    cases hs : skip l with
    | nil =>
      unfold prog
      rw [hs]
      rfl
    | cons c t =>
      have hb := skip_head l c t hs
      rw [hs, List.length_cons] at hsl
      rw [List.length_cons]
      by_cases h35 : c = 35
      · subst h35
        have ep : prog (f + 1) n L l p = match comment (35 :: t) (p + (l.length - (t.length + 1))) with | none => .ok L | some q => .error q := by
          conv => lhs; unfold prog
          rw [hs]
          dsimp only
          rw [if_pos rfl]
        rw [ep]
        generalize p + (l.length - (t.length + 1)) = p'
        have e1 : run ⟨0, n, w, [], h, L⟩ (35 :: t) p' = run ⟨12, n, w, [], h, L⟩ t (p' + 1) := by
          simp [run, stepc, show fine 35 = true by decide, show isBl 35 = false by decide]
        rw [e1, run_comment]
        simp [comment, show fine 35 = true by decide]
      · rw [prog_step f n L l p c t hs h35]
        generalize p + (l.length - (t.length + 1)) = p'
        cases hc : isLet c
        · have hst : stepc ⟨0, n, w, [], h, L⟩ c = none := by simp [stepc, hb, h35, hc]
          have er : run ⟨0, n, w, [], h, L⟩ (c :: t) p' = .error p' := by
            cases hfn : fine c <;> simp [run, hfn, hst]
          have eb : body n L (c :: t) p' = .error p' := by
            unfold body word
            rw [letters_no c t p' hc]
            split
            · rfl
            · split <;> rfl
          rw [er, eb]
        · have el := letters_let c t p' hc
          obtain ⟨hl1, hl2⟩ := span_len isLet 15 t
          have back : ∀ (n' : Nat) (key : Bs) (r : Bs) (q : Nat) (hh : UInt8), r.length ≤ t.length → run ⟨5, n' + 1, key, [], hh, L⟩ r q = (match (match value r q with | .error q => (.error q : Except Nat (Ln × Bs × Nat)) | .ok (v, r, q) => .ok ({ L with opts := L.opts ++ [(key, v)] }, r, q)) with | .error q => .error q | .ok (L', r, q) => if over r then prog f (n' + 1) L' r q else .error q) := by
            intro n' key r q hh hr
            obtain ⟨h', e⟩ := run_begun (n' + 1) key hh L r q
            rw [e]
            cases hv : value r q with
            | error q => rfl
            | ok x =>
              obtain ⟨v, r2, q2⟩ := x
              have hlen := value_len r q v r2 q2 hv
              simp only [begunR, shutR, List.nil_append]
              by_cases ho : over r2 = true
              · rw [if_pos ho, if_pos ho]
                exact run_prog f (n' + 1) _ r2 q2 key h' (by omega)
              · rw [if_neg ho, if_neg ho]
          by_cases hn0 : n = 0
          · subst hn0
            have e1 : run ⟨0, 0, w, [], h, L⟩ (c :: t) p' = run ⟨1, 1, [c], [], h, L⟩ t (p' + 1) := by
              simp [run, let_fine c hc, stepc, hb, h35, hc]
            have e2 := run_command 1 [] h L t [c] (p' + 1) (by simp)
            have eb : body 0 L (c :: t) p' = .ok ({ L with cmd := c :: (span isLet 15 t).1 }, (span isLet 15 t).2, p' + ((span isLet 15 t).1.length + 1)) := by
              unfold body
              rw [if_pos rfl, el]
            rw [e1, e2, eb]
            simp only [List.length_cons, List.length_nil, Nat.zero_add, show 16 - 1 = 15 from rfl, List.cons_append, List.nil_append]
            rw [show p' + 1 + (span isLet 15 t).1.length = p' + ((span isLet 15 t).1.length + 1) by omega]
            by_cases ho : over (span isLet 15 t).2 = true
            · rw [if_pos ho, if_pos ho]
              exact run_prog f 1 _ _ _ _ h (by omega)
            · rw [if_neg ho, if_neg ho]
          · by_cases hn1 : n = 1
            · subst hn1
              have e1 : run ⟨0, 1, w, [], h, L⟩ (c :: t) p' = run ⟨2, 2, [c], [], h, L⟩ t (p' + 1) := by
                simp [run, let_fine c hc, stepc, hb, h35, hc]
              have e2 := run_second 2 [] h L t [c] (p' + 1) (by simp)
              rw [e1, e2]
              simp only [List.length_cons, List.length_nil, Nat.zero_add, show 16 - 1 = 15 from rfl]
              have eb0 : body 1 L (c :: t) p' = (match (if (span isLet 15 t).2.head? = some 61 then (.ok (c :: (span isLet 15 t).1, (span isLet 15 t).2, p' + ((span isLet 15 t).1.length + 1)) : Except Nat (Bs × Bs × Nat)) else named (c :: (span isLet 15 t).1) (span isLet 15 t).2 (p' + ((span isLet 15 t).1.length + 1))) with | .error q => .error q | .ok (a, r, q) => if over r then .ok ({ L with name := a }, r, q) else opt L a r q) := by
                unfold body word
                rw [if_neg (by decide), if_pos rfl, el]
              rw [eb0]
              unfold secondR
              by_cases h61 : (span isLet 15 t).2.head? = some 61
              · rw [if_pos h61, if_pos h61]
                dsimp only
                obtain ⟨r', hr'⟩ : ∃ r', (span isLet 15 t).2 = 61 :: r' := by
                  cases hx : (span isLet 15 t).2 with
                  | nil => rw [hx] at h61; simp at h61
                  | cons a b =>
                    rw [hx] at h61
                    simp only [List.head?_cons, Option.some.injEq] at h61
                    exact ⟨b, by rw [h61]⟩
                rw [hr'] at hl1 ⊢
                rw [List.length_cons] at hl1
                rw [if_neg (show ¬ over (61 :: r') = true from fun h => absurd (show isBl 61 = true from h) (by decide))]
                have eb := back 1 (c :: (span isLet 15 t).1) r' (p' + ((span isLet 15 t).1.length + 1) + 1) h (by omega)
                simp only [opt, if_true, List.tail_cons, List.cons_append, List.nil_append]
                rw [show p' + 1 + (span isLet 15 t).1.length + 1 = p' + ((span isLet 15 t).1.length + 1) + 1 by omega, eb]
              · rw [if_neg h61, if_neg h61]
                unfold named
                simp only [List.cons_append, List.nil_append, List.length_cons]
                obtain ⟨hm1, hm2⟩ := span_len isNam (16 - ((span isLet 15 t).1.length + 1)) (span isLet 15 t).2
                generalize span isNam (16 - ((span isLet 15 t).1.length + 1)) (span isLet 15 t).2 = b at *
                rw [show p' + 1 + (span isLet 15 t).1.length + b.1.length = p' + ((span isLet 15 t).1.length + 1) + b.1.length by omega]
                by_cases ho : over b.2 = true
                · simp only [ho, if_true]
                  exact run_prog f 2 _ _ _ _ h (by omega)
                · simp only [ho, if_false, Bool.false_eq_true]
            · have e1 : run ⟨0, n, w, [], h, L⟩ (c :: t) p' = run ⟨4, n + 1, [c], [], h, L⟩ t (p' + 1) := by
                simp [run, let_fine c hc, stepc, hb, h35, hc, hn0, hn1]
              have e2 := run_key (n + 1) [] h L t [c] (p' + 1) (by simp)
              rw [e1, e2]
              simp only [List.length_cons, List.length_nil, Nat.zero_add, show 16 - 1 = 15 from rfl]
              unfold body
              rw [if_neg hn0, if_neg hn1, el]
              dsimp only
              by_cases h61 : (span isLet 15 t).2.head? = some 61
              · rw [if_pos h61]
                obtain ⟨r', hr'⟩ : ∃ r', (span isLet 15 t).2 = 61 :: r' := by
                  cases hx : (span isLet 15 t).2 with
                  | nil => rw [hx] at h61; simp at h61
                  | cons a b =>
                    rw [hx] at h61
                    simp only [List.head?_cons, Option.some.injEq] at h61
                    exact ⟨b, by rw [h61]⟩
                rw [hr'] at hl1 ⊢
                rw [List.length_cons] at hl1
                have eb := back n (c :: (span isLet 15 t).1) r' (p' + ((span isLet 15 t).1.length + 1) + 1) h (by omega)
                simp only [opt, if_true, List.tail_cons, List.cons_append, List.nil_append]
                rw [show p' + 1 + (span isLet 15 t).1.length + 1 = p' + ((span isLet 15 t).1.length + 1) + 1 by omega, eb]
              · rw [if_neg h61]
                have eo : opt L (c :: (span isLet 15 t).1) (span isLet 15 t).2 (p' + ((span isLet 15 t).1.length + 1)) = .error (p' + ((span isLet 15 t).1.length + 1)) := by
                  unfold opt
                  cases hx : (span isLet 15 t).2 with
                  | nil => rfl
                  | cons a b =>
                    rw [hx] at h61
                    simp only [List.head?_cons, Option.some.injEq] at h61
                    dsimp only
                    rw [if_neg h61]
                rw [eo]
                dsimp only
                rw [show p' + 1 + (span isLet 15 t).1.length = p' + ((span isLet 15 t).1.length + 1) by omega]
end Go.Proofs.Ytkoldjmhcifpjaa.parsep
