/- cofferref08.Pack: the reference's bytes of a copy. (Written by gen06.py.) Both sides' bytes of a copy are the same; a row of bytes that a call has made. The law HeaderPacks: the walk. (Written by gen03.py.) (Merged by merge.py.) -/
import Derived.Test.YtglcapkmeecknaaDoorQN
import Derived.Test.YtglcapkmeecknaaDoorQW
/-! ## R06 -/
namespace Go.Proofs.YtglcapkmeecknaaDoor.r06
open Go Go.RowKit Go.Proofs.YtglcapkmeecknaaDoor.PHeaderPacks Go.Proofs.YtglcapkmeecknaaDoor.sha Go.Proofs.YtglcapkmeecknaaDoor.mem Go.Proofs.YtglcapkmeecknaaDoor.headp Go.Proofs.YtglcapkmeecknaaDoor.m22 Go.Proofs.YtglcapkmeecknaaDoor.p24 Go.Proofs.YtglcapkmeecknaaDoor.r18 Go.Proofs.YtglcapkmeecknaaDoor.h27 Go.Proofs.YtglcapkmeecknaaDoor.r12 Go.Proofs.YtglcapkmeecknaaDoor.s28 Go.Proofs.YtglcapkmeecknaaDoor.k07 Go.Proofs.YtglcapkmeecknaaDoorW.PrintWords Go.Proofs.YtglcapkmeecknaaDoorW.PrintLast Go.Proofs.YtglcapkmeecknaaDoorW.PrintMore
set_option linter.unusedVariables false
set_option linter.unusedSimpArgs false
theorem plain_call (s : ByteArray) (n : Int) (W : World) (hs : s.size ≤ 9223372036854775807) (b : Bool) (hb : (!badT s n) = b) : Calls Tryd.prog 17 #[.string s, .int .i64 n] W fun e w' => e = .returned (.bool b) ∧ ∃ k, w' = W.drewN k :=
  (cofferref08_plain.calls (s.size + 1) s n b W (by
    rw [plain_ref s n hs (s.size + 1) (by omega), ← hb]
    congr 1
    unfold badT
    have e : decide ((s.size : Int) ≤ n) = !decide (n < (s.size : Int)) := by
      by_cases h : n < (s.size : Int)
      · rw [decide_eq_true h, decide_eq_false (by omega)]; rfl
      · rw [decide_eq_false h, decide_eq_true (by omega)]; rfl
    rw [e]
    cases has0 s <;> simp)).mono fun e w' ⟨he, hd⟩ => ⟨he, hd.out⟩
theorem head_call (head : Int) (W : World) (b : Bool) (hb : isHd head = b) : Calls Tryd.prog 16 #[.int .i64 head] W fun e w' => e = .returned (.bool b) ∧ ∃ k, w' = W.drewN k :=
  (cofferref08_IsHead.calls 11 head b W (by rw [isHead_ref, hb])).mono fun e w' ⟨he, hd⟩ => ⟨he, hd.out⟩
theorem may85 {head seq : Int} {label sub uuid salt text : ByteArray} (h : isHd head = true) (hb : badT label 47 = true ∨ badT uuid 39 = true ∨ badT sub 47 = true) : mayE head seq label sub uuid salt text = 85 := by
  unfold mayE
  rw [if_neg (by rw [h]; decide)]
  split
  · rfl
  · first | rfl | rw [if_pos hb]
theorem may_zero' {head seq : Int} {label sub uuid salt text : ByteArray} (h : mayE head seq label sub uuid salt text = 0) : badT label 47 = false ∧ badT uuid 39 = false ∧ badT sub 47 = false ∧ badT text (head - 4097) = false := by
  unfold mayE at h
  split at h
  · omega
  · split at h
    · omega
    · split at h
      · omega
      · rename_i c
        split at h
        · omega
        · rename_i d
          simp only [not_or, Bool.not_eq_true] at c d
          exact ⟨c.1, c.2.1, c.2.2, d⟩
set_option maxHeartbeats 4000000 in
set_option maxRecDepth 100000 in
theorem rpack_bad (sec : Bool) (head seq : Int) (label sub uuid salt text : ByteArray) (hh0 : -9223372036854775808 ≤ head) (hh1 : head ≤ 9223372036854775807) (hq0 : 0 ≤ seq) (w : World) (hs1 : label.size ≤ 9223372036854775807) (hs2 : sub.size ≤ 9223372036854775807) (hs3 : uuid.size ≤ 9223372036854775807) (hs4 : text.size ≤ 9223372036854775807)
    (hEn : mayE head seq label sub uuid salt text ≠ 0) :
    Calls Tryd.prog 6 #[.agg #[.bool sec, .int .i64 head, .int .u64 seq, .string label, .string sub, .string uuid, .string salt, .string text]] w fun e w' => e = .returned (.tuple #[.slice none 0 0, .int .i64 (mayE head seq label sub uuid salt text)]) ∧ Below w.heap.size w w' := by
  obtain ⟨cs, hcs⟩ : ∃ cs : Array Value, Aside0 (cs = #[.bool sec, .int .i64 head, .int .u64 seq, .string label, .string sub, .string uuid, .string salt, .string text]) := ⟨_, ⟨rfl⟩⟩
  rw [← hcs.out]
  obtain ⟨E, hE⟩ : ∃ E, Aside0 (E = mayE head seq label sub uuid salt text) := ⟨_, ⟨rfl⟩⟩
  rw [← hE.out] at hEn ⊢
  cases hhd : isHd head
  · have HH : Aside0 (∀ W, Calls Tryd.prog 16 #[.int .i64 head] W fun e w' => e = .returned (.bool false) ∧ ∃ k, w' = W.drewN k) := ⟨fun W => head_call head W false hhd⟩
    have hEA : Aside0 (E = 83) := ⟨by rw [hE.out]; unfold mayE; rw [if_pos hhd]⟩
    clear hE
    go_enter Tryd.func6, Tryd.ntmps6
    go_wp2_with (first | ((with_reducible refine gate_dst (N := 1) rfl ?_); refine box_event ?hg (N := 1) ?hd (cs := cs) (t := 24) ?hr ?_; (case hd => rfl); (case hg => rfl); (case hr => first | (go_simp; done) | (go_simp; rfl)); intro g hg W1 BG hb1; subst hg; generalize hn : w.heap.size = n at *; have HN := Aside0.mk hn; clear hn; have c0 : W1.cell? ⟨n, 0, none⟩ = some (.bool sec) := (blk_cell BG 0).trans (by rw [hcs.out]; rfl); have c1 : W1.cell? ⟨n, 1, none⟩ = some (.int .i64 head) := (blk_cell BG 1).trans (by rw [hcs.out]; rfl); have c2 : W1.cell? ⟨n, 2, none⟩ = some (.int .u64 seq) := (blk_cell BG 2).trans (by rw [hcs.out]; rfl); have c3 : W1.cell? ⟨n, 3, none⟩ = some (.string label) := (blk_cell BG 3).trans (by rw [hcs.out]; rfl); have c4 : W1.cell? ⟨n, 4, none⟩ = some (.string sub) := (blk_cell BG 4).trans (by rw [hcs.out]; rfl); have c5 : W1.cell? ⟨n, 5, none⟩ = some (.string uuid) := (blk_cell BG 5).trans (by rw [hcs.out]; rfl); have c6 : W1.cell? ⟨n, 6, none⟩ = some (.string salt) := (blk_cell BG 6).trans (by rw [hcs.out]; rfl); have c7 : W1.cell? ⟨n, 7, none⟩ = some (.string text) := (blk_cell BG 7).trans (by rw [hcs.out]; rfl)) | (go_at_call 16; ((with_reducible refine (HH.out _).mono ?_); rintro e W9 ⟨rfl, k9, rfl⟩)) | fail)
    go_ret2
    exact ⟨by rw [hEA.out]; rfl, by rw [HN.out]; repeat (first | exact hb1 | apply below_drewN_)⟩
  have HH : Aside0 (∀ W, Calls Tryd.prog 16 #[.int .i64 head] W fun e w' => e = .returned (.bool true) ∧ ∃ k, w' = W.drewN k) := ⟨fun W => head_call head W true hhd⟩
  obtain ⟨d1, d2, d3⟩ := isHd_bd hhd
  have d3A := Aside0.mk d3
  have hhdA := Aside0.mk hhd
  clear hhd d3
  by_cases q1 : seq < 1
  · have z1 : decide (seq < 1) = true := by simpa using q1
    have hEA : Aside0 (E = 85) := ⟨by rw [hE.out]; unfold mayE; rw [if_neg (by rw [hhdA.out]; decide), if_pos (Or.inl (by omega))]⟩
    clear hE
    go_enter Tryd.func6, Tryd.ntmps6
    go_wp2_with (first | ((with_reducible refine gate_dst (N := 1) rfl ?_); refine box_event ?hg (N := 1) ?hd (cs := cs) (t := 24) ?hr ?_; (case hd => rfl); (case hg => rfl); (case hr => first | (go_simp; done) | (go_simp; rfl)); intro g hg W1 BG hb1; subst hg; generalize hn : w.heap.size = n at *; have HN := Aside0.mk hn; clear hn; have c0 : W1.cell? ⟨n, 0, none⟩ = some (.bool sec) := (blk_cell BG 0).trans (by rw [hcs.out]; rfl); have c1 : W1.cell? ⟨n, 1, none⟩ = some (.int .i64 head) := (blk_cell BG 1).trans (by rw [hcs.out]; rfl); have c2 : W1.cell? ⟨n, 2, none⟩ = some (.int .u64 seq) := (blk_cell BG 2).trans (by rw [hcs.out]; rfl); have c3 : W1.cell? ⟨n, 3, none⟩ = some (.string label) := (blk_cell BG 3).trans (by rw [hcs.out]; rfl); have c4 : W1.cell? ⟨n, 4, none⟩ = some (.string sub) := (blk_cell BG 4).trans (by rw [hcs.out]; rfl); have c5 : W1.cell? ⟨n, 5, none⟩ = some (.string uuid) := (blk_cell BG 5).trans (by rw [hcs.out]; rfl); have c6 : W1.cell? ⟨n, 6, none⟩ = some (.string salt) := (blk_cell BG 6).trans (by rw [hcs.out]; rfl); have c7 : W1.cell? ⟨n, 7, none⟩ = some (.string text) := (blk_cell BG 7).trans (by rw [hcs.out]; rfl)) | (go_at_call 16; ((with_reducible refine (HH.out _).mono ?_); rintro e W9 ⟨rfl, k9, rfl⟩)) | fail)
    go_ret2
    exact ⟨by rw [hEA.out]; rfl, by rw [HN.out]; repeat (first | exact hb1 | apply below_drewN_)⟩
  have z1 : decide (seq < 1) = false := by simpa using q1
  by_cases q2 : 4611686018427387904 < seq
  · have z2 : decide (seq > 4611686018427387904) = true := by simpa using q2
    have hEA : Aside0 (E = 85) := ⟨by rw [hE.out]; unfold mayE; rw [if_neg (by rw [hhdA.out]; decide), if_pos (Or.inr (Or.inl q2))]⟩
    clear hE
    go_enter Tryd.func6, Tryd.ntmps6
    go_wp2_with (first | ((with_reducible refine gate_dst (N := 1) rfl ?_); refine box_event ?hg (N := 1) ?hd (cs := cs) (t := 24) ?hr ?_; (case hd => rfl); (case hg => rfl); (case hr => first | (go_simp; done) | (go_simp; rfl)); intro g hg W1 BG hb1; subst hg; generalize hn : w.heap.size = n at *; have HN := Aside0.mk hn; clear hn; have c0 : W1.cell? ⟨n, 0, none⟩ = some (.bool sec) := (blk_cell BG 0).trans (by rw [hcs.out]; rfl); have c1 : W1.cell? ⟨n, 1, none⟩ = some (.int .i64 head) := (blk_cell BG 1).trans (by rw [hcs.out]; rfl); have c2 : W1.cell? ⟨n, 2, none⟩ = some (.int .u64 seq) := (blk_cell BG 2).trans (by rw [hcs.out]; rfl); have c3 : W1.cell? ⟨n, 3, none⟩ = some (.string label) := (blk_cell BG 3).trans (by rw [hcs.out]; rfl); have c4 : W1.cell? ⟨n, 4, none⟩ = some (.string sub) := (blk_cell BG 4).trans (by rw [hcs.out]; rfl); have c5 : W1.cell? ⟨n, 5, none⟩ = some (.string uuid) := (blk_cell BG 5).trans (by rw [hcs.out]; rfl); have c6 : W1.cell? ⟨n, 6, none⟩ = some (.string salt) := (blk_cell BG 6).trans (by rw [hcs.out]; rfl); have c7 : W1.cell? ⟨n, 7, none⟩ = some (.string text) := (blk_cell BG 7).trans (by rw [hcs.out]; rfl)) | (go_at_call 16; ((with_reducible refine (HH.out _).mono ?_); rintro e W9 ⟨rfl, k9, rfl⟩)) | fail)
    go_ret2
    exact ⟨by rw [hEA.out]; rfl, by rw [HN.out]; repeat (first | exact hb1 | apply below_drewN_)⟩
  have z2 : decide (seq > 4611686018427387904) = false := by simpa using q2
  cases bl : badT label 47
  rotate_left
  · have HL : Aside0 (∀ W, Calls Tryd.prog 17 #[.string label, .int .i64 47] W fun e w' => e = .returned (.bool false) ∧ ∃ k, w' = W.drewN k) := ⟨fun W => plain_call label 47 W (by omega) false (by rw [bl]; rfl)⟩
    have hEA : Aside0 (E = 85) := ⟨by rw [hE.out]; unfold mayE; exact may85 hhdA.out (Or.inl bl)⟩
    clear hE
    go_enter Tryd.func6, Tryd.ntmps6
    go_wp2_with (first | ((with_reducible refine gate_dst (N := 1) rfl ?_); refine box_event ?hg (N := 1) ?hd (cs := cs) (t := 24) ?hr ?_; (case hd => rfl); (case hg => rfl); (case hr => first | (go_simp; done) | (go_simp; rfl)); intro g hg W1 BG hb1; subst hg; generalize hn : w.heap.size = n at *; have HN := Aside0.mk hn; clear hn; have c0 : W1.cell? ⟨n, 0, none⟩ = some (.bool sec) := (blk_cell BG 0).trans (by rw [hcs.out]; rfl); have c1 : W1.cell? ⟨n, 1, none⟩ = some (.int .i64 head) := (blk_cell BG 1).trans (by rw [hcs.out]; rfl); have c2 : W1.cell? ⟨n, 2, none⟩ = some (.int .u64 seq) := (blk_cell BG 2).trans (by rw [hcs.out]; rfl); have c3 : W1.cell? ⟨n, 3, none⟩ = some (.string label) := (blk_cell BG 3).trans (by rw [hcs.out]; rfl); have c4 : W1.cell? ⟨n, 4, none⟩ = some (.string sub) := (blk_cell BG 4).trans (by rw [hcs.out]; rfl); have c5 : W1.cell? ⟨n, 5, none⟩ = some (.string uuid) := (blk_cell BG 5).trans (by rw [hcs.out]; rfl); have c6 : W1.cell? ⟨n, 6, none⟩ = some (.string salt) := (blk_cell BG 6).trans (by rw [hcs.out]; rfl); have c7 : W1.cell? ⟨n, 7, none⟩ = some (.string text) := (blk_cell BG 7).trans (by rw [hcs.out]; rfl)) | (go_at_call 16; ((with_reducible refine (HH.out _).mono ?_); rintro e W9 ⟨rfl, k9, rfl⟩)) | (go_at_call 17; ((with_reducible refine (HL.out _).mono ?_); rintro e W9 ⟨rfl, k9, rfl⟩)) | fail)
    go_ret2
    exact ⟨by rw [hEA.out]; rfl, by rw [HN.out]; repeat (first | exact hb1 | apply below_drewN_)⟩
  have HL : Aside0 (∀ W, Calls Tryd.prog 17 #[.string label, .int .i64 47] W fun e w' => e = .returned (.bool true) ∧ ∃ k, w' = W.drewN k) := ⟨fun W => plain_call label 47 W (by omega) true (by rw [bl]; rfl)⟩
  cases bs : badT sub 47
  rotate_left
  · have HS : Aside0 (∀ W, Calls Tryd.prog 17 #[.string sub, .int .i64 47] W fun e w' => e = .returned (.bool false) ∧ ∃ k, w' = W.drewN k) := ⟨fun W => plain_call sub 47 W (by omega) false (by rw [bs]; rfl)⟩
    have hEA : Aside0 (E = 85) := ⟨by rw [hE.out]; unfold mayE; exact may85 hhdA.out (Or.inr (Or.inr bs))⟩
    clear hE
    go_enter Tryd.func6, Tryd.ntmps6
    go_wp2_with (first | ((with_reducible refine gate_dst (N := 1) rfl ?_); refine box_event ?hg (N := 1) ?hd (cs := cs) (t := 24) ?hr ?_; (case hd => rfl); (case hg => rfl); (case hr => first | (go_simp; done) | (go_simp; rfl)); intro g hg W1 BG hb1; subst hg; generalize hn : w.heap.size = n at *; have HN := Aside0.mk hn; clear hn; have c0 : W1.cell? ⟨n, 0, none⟩ = some (.bool sec) := (blk_cell BG 0).trans (by rw [hcs.out]; rfl); have c1 : W1.cell? ⟨n, 1, none⟩ = some (.int .i64 head) := (blk_cell BG 1).trans (by rw [hcs.out]; rfl); have c2 : W1.cell? ⟨n, 2, none⟩ = some (.int .u64 seq) := (blk_cell BG 2).trans (by rw [hcs.out]; rfl); have c3 : W1.cell? ⟨n, 3, none⟩ = some (.string label) := (blk_cell BG 3).trans (by rw [hcs.out]; rfl); have c4 : W1.cell? ⟨n, 4, none⟩ = some (.string sub) := (blk_cell BG 4).trans (by rw [hcs.out]; rfl); have c5 : W1.cell? ⟨n, 5, none⟩ = some (.string uuid) := (blk_cell BG 5).trans (by rw [hcs.out]; rfl); have c6 : W1.cell? ⟨n, 6, none⟩ = some (.string salt) := (blk_cell BG 6).trans (by rw [hcs.out]; rfl); have c7 : W1.cell? ⟨n, 7, none⟩ = some (.string text) := (blk_cell BG 7).trans (by rw [hcs.out]; rfl)) | (go_at_call 16; ((with_reducible refine (HH.out _).mono ?_); rintro e W9 ⟨rfl, k9, rfl⟩)) | (go_at_call 17; ((with_reducible refine (HL.out _).mono ?_); rintro e W9 ⟨rfl, k9, rfl⟩)) | (go_at_call 17; ((with_reducible refine (HS.out _).mono ?_); rintro e W9 ⟨rfl, k9, rfl⟩)) | fail)
    go_ret2
    exact ⟨by rw [hEA.out]; rfl, by rw [HN.out]; repeat (first | exact hb1 | apply below_drewN_)⟩
  have HS : Aside0 (∀ W, Calls Tryd.prog 17 #[.string sub, .int .i64 47] W fun e w' => e = .returned (.bool true) ∧ ∃ k, w' = W.drewN k) := ⟨fun W => plain_call sub 47 W (by omega) true (by rw [bs]; rfl)⟩
  cases bu : badT uuid 39
  rotate_left
  · have HU : Aside0 (∀ W, Calls Tryd.prog 17 #[.string uuid, .int .i64 39] W fun e w' => e = .returned (.bool false) ∧ ∃ k, w' = W.drewN k) := ⟨fun W => plain_call uuid 39 W (by omega) false (by rw [bu]; rfl)⟩
    have hEA : Aside0 (E = 85) := ⟨by rw [hE.out]; unfold mayE; exact may85 hhdA.out (Or.inr (Or.inl bu))⟩
    clear hE
    go_enter Tryd.func6, Tryd.ntmps6
    go_wp2_with (first | ((with_reducible refine gate_dst (N := 1) rfl ?_); refine box_event ?hg (N := 1) ?hd (cs := cs) (t := 24) ?hr ?_; (case hd => rfl); (case hg => rfl); (case hr => first | (go_simp; done) | (go_simp; rfl)); intro g hg W1 BG hb1; subst hg; generalize hn : w.heap.size = n at *; have HN := Aside0.mk hn; clear hn; have c0 : W1.cell? ⟨n, 0, none⟩ = some (.bool sec) := (blk_cell BG 0).trans (by rw [hcs.out]; rfl); have c1 : W1.cell? ⟨n, 1, none⟩ = some (.int .i64 head) := (blk_cell BG 1).trans (by rw [hcs.out]; rfl); have c2 : W1.cell? ⟨n, 2, none⟩ = some (.int .u64 seq) := (blk_cell BG 2).trans (by rw [hcs.out]; rfl); have c3 : W1.cell? ⟨n, 3, none⟩ = some (.string label) := (blk_cell BG 3).trans (by rw [hcs.out]; rfl); have c4 : W1.cell? ⟨n, 4, none⟩ = some (.string sub) := (blk_cell BG 4).trans (by rw [hcs.out]; rfl); have c5 : W1.cell? ⟨n, 5, none⟩ = some (.string uuid) := (blk_cell BG 5).trans (by rw [hcs.out]; rfl); have c6 : W1.cell? ⟨n, 6, none⟩ = some (.string salt) := (blk_cell BG 6).trans (by rw [hcs.out]; rfl); have c7 : W1.cell? ⟨n, 7, none⟩ = some (.string text) := (blk_cell BG 7).trans (by rw [hcs.out]; rfl)) | (go_at_call 16; ((with_reducible refine (HH.out _).mono ?_); rintro e W9 ⟨rfl, k9, rfl⟩)) | (go_at_call 17; ((with_reducible refine (HL.out _).mono ?_); rintro e W9 ⟨rfl, k9, rfl⟩)) | (go_at_call 17; ((with_reducible refine (HS.out _).mono ?_); rintro e W9 ⟨rfl, k9, rfl⟩)) | (go_at_call 17; ((with_reducible refine (HU.out _).mono ?_); rintro e W9 ⟨rfl, k9, rfl⟩)) | fail)
    go_ret2
    exact ⟨by rw [hEA.out]; rfl, by rw [HN.out]; repeat (first | exact hb1 | apply below_drewN_)⟩
  have HU : Aside0 (∀ W, Calls Tryd.prog 17 #[.string uuid, .int .i64 39] W fun e w' => e = .returned (.bool true) ∧ ∃ k, w' = W.drewN k) := ⟨fun W => plain_call uuid 39 W (by omega) true (by rw [bu]; rfl)⟩
  by_cases q3 : salt.size ≠ 64
  · have z3 : ((salt.size : Int) == 64) = false := by simp; omega
    have z4 : ((salt.size : Int) != 64) = true := by simp; omega
    have hEA : Aside0 (E = 85) := ⟨by rw [hE.out]; unfold mayE; rw [if_neg (by rw [hhdA.out]; decide), if_pos (Or.inr (Or.inr q3))]⟩
    clear hE
    go_enter Tryd.func6, Tryd.ntmps6
    go_wp2_with (first | ((with_reducible refine gate_dst (N := 1) rfl ?_); refine box_event ?hg (N := 1) ?hd (cs := cs) (t := 24) ?hr ?_; (case hd => rfl); (case hg => rfl); (case hr => first | (go_simp; done) | (go_simp; rfl)); intro g hg W1 BG hb1; subst hg; generalize hn : w.heap.size = n at *; have HN := Aside0.mk hn; clear hn; have c0 : W1.cell? ⟨n, 0, none⟩ = some (.bool sec) := (blk_cell BG 0).trans (by rw [hcs.out]; rfl); have c1 : W1.cell? ⟨n, 1, none⟩ = some (.int .i64 head) := (blk_cell BG 1).trans (by rw [hcs.out]; rfl); have c2 : W1.cell? ⟨n, 2, none⟩ = some (.int .u64 seq) := (blk_cell BG 2).trans (by rw [hcs.out]; rfl); have c3 : W1.cell? ⟨n, 3, none⟩ = some (.string label) := (blk_cell BG 3).trans (by rw [hcs.out]; rfl); have c4 : W1.cell? ⟨n, 4, none⟩ = some (.string sub) := (blk_cell BG 4).trans (by rw [hcs.out]; rfl); have c5 : W1.cell? ⟨n, 5, none⟩ = some (.string uuid) := (blk_cell BG 5).trans (by rw [hcs.out]; rfl); have c6 : W1.cell? ⟨n, 6, none⟩ = some (.string salt) := (blk_cell BG 6).trans (by rw [hcs.out]; rfl); have c7 : W1.cell? ⟨n, 7, none⟩ = some (.string text) := (blk_cell BG 7).trans (by rw [hcs.out]; rfl)) | (go_at_call 16; ((with_reducible refine (HH.out _).mono ?_); rintro e W9 ⟨rfl, k9, rfl⟩)) | (go_at_call 17; ((with_reducible refine (HL.out _).mono ?_); rintro e W9 ⟨rfl, k9, rfl⟩)) | (go_at_call 17; ((with_reducible refine (HS.out _).mono ?_); rintro e W9 ⟨rfl, k9, rfl⟩)) | (go_at_call 17; ((with_reducible refine (HU.out _).mono ?_); rintro e W9 ⟨rfl, k9, rfl⟩)) | fail)
    go_ret2
    exact ⟨by rw [hEA.out]; rfl, by rw [HN.out]; repeat (first | exact hb1 | apply below_drewN_)⟩
  have z3 : ((salt.size : Int) == 64) = true := by simp; omega
  have z4 : ((salt.size : Int) != 64) = false := by simp; omega
  cases bt : badT text (head - 4097)
  · exfalso
    apply hEn
    rw [hE.out]
    unfold mayE
    rw [if_neg (by rw [hhdA.out]; decide), if_neg (by omega), if_neg (by rw [bl, bu, bs]; decide), if_neg (by rw [bt]; decide)]
  · have HT : Aside0 (∀ W, Calls Tryd.prog 17 #[.string text, .int .i64 (head - 4096 - 1)] W fun e w' => e = .returned (.bool false) ∧ ∃ k, w' = W.drewN k) := ⟨fun W => plain_call text (head - 4096 - 1) W (by omega) false (by rw [show head - 4096 - 1 = head - 4097 by omega]; rw [bt]; rfl)⟩
    have hEA : Aside0 (E = 86) := ⟨by rw [hE.out]; unfold mayE; rw [if_neg (by rw [hhdA.out]; decide), if_neg (by omega), if_neg (by rw [bl, bu, bs]; decide), if_pos bt]⟩
    clear hE
    go_enter Tryd.func6, Tryd.ntmps6
    go_wp2_with (first | ((with_reducible refine gate_dst (N := 1) rfl ?_); refine box_event ?hg (N := 1) ?hd (cs := cs) (t := 24) ?hr ?_; (case hd => rfl); (case hg => rfl); (case hr => first | (go_simp; done) | (go_simp; rfl)); intro g hg W1 BG hb1; subst hg; generalize hn : w.heap.size = n at *; have HN := Aside0.mk hn; clear hn; have c0 : W1.cell? ⟨n, 0, none⟩ = some (.bool sec) := (blk_cell BG 0).trans (by rw [hcs.out]; rfl); have c1 : W1.cell? ⟨n, 1, none⟩ = some (.int .i64 head) := (blk_cell BG 1).trans (by rw [hcs.out]; rfl); have c2 : W1.cell? ⟨n, 2, none⟩ = some (.int .u64 seq) := (blk_cell BG 2).trans (by rw [hcs.out]; rfl); have c3 : W1.cell? ⟨n, 3, none⟩ = some (.string label) := (blk_cell BG 3).trans (by rw [hcs.out]; rfl); have c4 : W1.cell? ⟨n, 4, none⟩ = some (.string sub) := (blk_cell BG 4).trans (by rw [hcs.out]; rfl); have c5 : W1.cell? ⟨n, 5, none⟩ = some (.string uuid) := (blk_cell BG 5).trans (by rw [hcs.out]; rfl); have c6 : W1.cell? ⟨n, 6, none⟩ = some (.string salt) := (blk_cell BG 6).trans (by rw [hcs.out]; rfl); have c7 : W1.cell? ⟨n, 7, none⟩ = some (.string text) := (blk_cell BG 7).trans (by rw [hcs.out]; rfl)) | (go_at_call 16; ((with_reducible refine (HH.out _).mono ?_); rintro e W9 ⟨rfl, k9, rfl⟩)) | (go_at_call 17; ((with_reducible refine (HL.out _).mono ?_); rintro e W9 ⟨rfl, k9, rfl⟩)) | (go_at_call 17; ((with_reducible refine (HS.out _).mono ?_); rintro e W9 ⟨rfl, k9, rfl⟩)) | (go_at_call 17; ((with_reducible refine (HU.out _).mono ?_); rintro e W9 ⟨rfl, k9, rfl⟩)) | (go_at_call 17; ((with_reducible refine (HT.out _).mono ?_); rintro e W9 ⟨rfl, k9, rfl⟩)) | fail)
    go_ret2
    exact ⟨by rw [hEA.out]; rfl, by rw [HN.out]; repeat (first | exact hb1 | apply below_drewN_)⟩
/-- A copy's bytes ahead of its digest, as the reference lays them. -/
def packB (sec : Bool) (head seq : Int) (label sub uuid salt text : ByteArray) : List Int :=
  splice (splice (splice (splice (splice (splice (splice (splice (splice (splice (splice (List.replicate head.toNat (0 : Int)) 0 (bytesOf (magicB sec))) 6 (be 2 2)) 8 (be 8 head)) 16 (be 8 seq)) 24 (bytesOf label)) 72 (bytesOf alg)) 104 (bytesOf salt)) 168 (bytesOf uuid)) 208 (bytesOf sub)) 256 (be 8 (beginOf sec head))) 4096 (bytesOf text)
theorem packB_rng (sec : Bool) (head seq : Int) (label sub uuid salt text : ByteArray) : ∀ x ∈ packB sec head seq label sub uuid salt text, 0 ≤ x ∧ x < 256 :=
  rng_splice (rng_splice (rng_splice (rng_splice (rng_splice (rng_splice (rng_splice (rng_splice (rng_splice (rng_splice (rng_splice (rng_zero _) (rng_bytes _)) (rng_be _ _)) (rng_be _ _)) (rng_be _ _)) (rng_bytes _)) (rng_bytes _)) (rng_bytes _)) (rng_bytes _)) (rng_bytes _)) (rng_be _ _)) (rng_bytes _)
theorem bytes_str {xs : List Int} (h : ∀ x ∈ xs, 0 ≤ x ∧ x < 256) : bytesOf (strOfNums xs) = xs := by
  unfold bytesOf strOfNums
  simp only [List.map_map]
  conv => rhs; rw [← List.map_id xs]
  apply List.map_congr_left
  intro x hx
  obtain ⟨h0, h1⟩ := h x hx
  simp
  omega
theorem wbytes_rng (x : BitVec 32) : ∀ y ∈ wbytes x, 0 ≤ y ∧ y < 256 := by
  intro y hy
  unfold wbytes at hy
  simp only [List.mem_cons, List.mem_nil_iff, or_false] at hy
  omega
theorem dig_rng (s : St) : ∀ y ∈ dig s, 0 ≤ y ∧ y < 256 := by
  intro y hy
  unfold dig digTo at hy
  obtain ⟨i, _, hi⟩ := List.mem_flatMap.1 hy
  exact wbytes_rng _ y hi
set_option maxHeartbeats 4000000 in
set_option maxRecDepth 100000 in
theorem rpack_ok (kf : Nat → BitVec 32) (x : St) (sec : Bool) (head seq : Int) (label sub uuid salt text : ByteArray) (hq0 : 0 ≤ seq) (w : World) (hT : RefTab kf x w) (hE : mayE head seq label sub uuid salt text = 0) :
    Calls Tryd.prog 6 #[.agg #[.bool sec, .int .i64 head, .int .u64 seq, .string label, .string sub, .string uuid, .string salt, .string text]] w fun e w' => ∃ g, e = .returned (.tuple #[.slice (some ⟨g, 0, none⟩) head.toNat head.toNat, .int .i64 0]) ∧ w.heap.size ≤ g ∧ Row w' g (splice (packB sec head seq label sub uuid salt text) 448 (rsha kf x (hole (packB sec head seq label sub uuid salt text)))) ∧ Below w.heap.size w w' := by
  obtain ⟨y1, y2, y3, y4, y5, y6, y7, y8⟩ := may_zero hE
  obtain ⟨b1, b2, b3⟩ := isHd_bd y1
  obtain ⟨bl, bu, bs, bt⟩ := may_zero' hE
  obtain ⟨H, rfl⟩ : ∃ H : Nat, head = H := ⟨head.toNat, by omega⟩
  obtain ⟨cs, hcs⟩ : ∃ cs : Array Value, Aside0 (cs = #[.bool sec, .int .i64 H, .int .u64 seq, .string label, .string sub, .string uuid, .string salt, .string text]) := ⟨_, ⟨rfl⟩⟩
  rw [← hcs.out]
  rw [Int.toNat_natCast]
  have hsz : cs.size = 8 := by rw [hcs.out]; rfl
  have HH : Aside0 (∀ W, Calls Tryd.prog 16 #[.int .i64 (H : Int)] W fun e w' => e = .returned (.bool true) ∧ ∃ k, w' = W.drewN k) := ⟨fun W => head_call H W true y1⟩
  have HL : Aside0 (∀ W, Calls Tryd.prog 17 #[.string label, .int .i64 47] W fun e w' => e = .returned (.bool true) ∧ ∃ k, w' = W.drewN k) := ⟨fun W => plain_call label 47 W (by omega) true (by rw [bl]; rfl)⟩
  have HS : Aside0 (∀ W, Calls Tryd.prog 17 #[.string sub, .int .i64 47] W fun e w' => e = .returned (.bool true) ∧ ∃ k, w' = W.drewN k) := ⟨fun W => plain_call sub 47 W (by omega) true (by rw [bs]; rfl)⟩
  have HU : Aside0 (∀ W, Calls Tryd.prog 17 #[.string uuid, .int .i64 39] W fun e w' => e = .returned (.bool true) ∧ ∃ k, w' = W.drewN k) := ⟨fun W => plain_call uuid 39 W (by omega) true (by rw [bu]; rfl)⟩
  have HT : Aside0 (∀ W, Calls Tryd.prog 17 #[.string text, .int .i64 ((H : Int) - 4096 - 1)] W fun e w' => e = .returned (.bool true) ∧ ∃ k, w' = W.drewN k) := ⟨fun W => plain_call text ((H : Int) - 4096 - 1) W (by omega) true (by rw [show (H : Int) - 4096 - 1 = (H : Int) - 4097 by omega, bt]; rfl)⟩
  have z1 : decide (seq < 1) = false := by simp; omega
  have z2 : decide (seq > 4611686018427387904) = false := by simp; omega
  have z3 : ((salt.size : Int) == 64) = true := by simp; omega
  have z4 : ((salt.size : Int) != 64) = false := by simp; omega
  have hmk : ∀ W : World, _ := print_make_int (P := Tryd.prog) 25 5 (.int .u8 0) 1 Tryd.underlying25 n78.info5 rfl (by decide) (H : Int) (by omega) (by omega)
  rw [made_nums, Int.toNat_natCast] at hmk
  obtain ⟨L0, hL0⟩ : ∃ L0, Aside0 (L0 = List.replicate H (0 : Int)) := ⟨_, ⟨rfl⟩⟩
  rw [← hL0.out] at hmk
  have hmg : Aside0 (∀ W, Calls Tryd.prog 19 #[.bool sec] W fun e w' => e = .returned (.string (magicB sec)) ∧ ∃ k, w' = W.drewN k) := ⟨fun W => (cofferref08_magic.calls sec (magicB sec) W (by unfold cofferref08_magic.f magicB; cases sec <;> rfl)).mono fun e w' ⟨he, hd⟩ => ⟨he, hd.out⟩⟩
  have hbeg : Aside0 (∀ W : World, Calls Tryd.prog 21 #[.agg cs] W fun e w' => e = .returned (.int .i64 (beginOf sec H)) ∧ Below W.heap.size W w') := ⟨fun W => by
    rw [hcs.out]
    exact cofferref08_Begin.calls sec H seq label sub uuid salt text (beginOf sec H) W (by unfold cofferref08_Begin.f beginOf; cases sec <;> rfl)⟩
  have hbo : 0 ≤ beginOf sec H ∧ beginOf sec H ≤ 4194304 := by unfold beginOf; split <;> omega
  obtain ⟨hbo0, hbo1⟩ := hbo
  have z3A := Aside0.mk y3
  have z4A := Aside0.mk y4
  have b3A := Aside0.mk b3
  have HTA := Aside0.mk hT
  have hEA := Aside0.mk hE
  clear y1 y2 y3 y4 b3 hT hE bl bu bs bt
  go_enter Tryd.func6, Tryd.ntmps6
  go_wp2_with (first
    | ((with_reducible refine gate_dst (N := 1) rfl ?_); refine box_event ?hg (N := 1) ?hd (cs := cs) (t := 24) ?hr ?_; (case hd => rfl); (case hg => rfl); (case hr => first | (go_simp; done) | (go_simp; rfl)); intro g hg W1 BG hb1; subst hg; generalize hn : w.heap.size = n at *; have HN := Aside0.mk hn; clear hn; have hnW1 : n < W1.heap.size := blk_lt BG; have c0 : W1.cell? ⟨n, 0, none⟩ = some (.bool sec) := (blk_cell BG 0).trans (by rw [hcs.out]; rfl); have c1 : W1.cell? ⟨n, 1, none⟩ = some (.int .i64 H) := (blk_cell BG 1).trans (by rw [hcs.out]; rfl); have c2 : W1.cell? ⟨n, 2, none⟩ = some (.int .u64 seq) := (blk_cell BG 2).trans (by rw [hcs.out]; rfl); have c3 : W1.cell? ⟨n, 3, none⟩ = some (.string label) := (blk_cell BG 3).trans (by rw [hcs.out]; rfl); have c4 : W1.cell? ⟨n, 4, none⟩ = some (.string sub) := (blk_cell BG 4).trans (by rw [hcs.out]; rfl); have c5 : W1.cell? ⟨n, 5, none⟩ = some (.string uuid) := (blk_cell BG 5).trans (by rw [hcs.out]; rfl); have c6 : W1.cell? ⟨n, 6, none⟩ = some (.string salt) := (blk_cell BG 6).trans (by rw [hcs.out]; rfl); have c7 : W1.cell? ⟨n, 7, none⟩ = some (.string text) := (blk_cell BG 7).trans (by rw [hcs.out]; rfl))
    | (go_at_call 16; ((with_reducible refine (HH.out _).mono ?_); rintro e W9 ⟨rfl, k9, rfl⟩))
    | (go_at_call 17; ((with_reducible refine (HL.out _).mono ?_); rintro e W9 ⟨rfl, k9, rfl⟩))
    | (go_at_call 17; ((with_reducible refine (HS.out _).mono ?_); rintro e W9 ⟨rfl, k9, rfl⟩))
    | (go_at_call 17; ((with_reducible refine (HU.out _).mono ?_); rintro e W9 ⟨rfl, k9, rfl⟩))
    | (go_at_call 17; ((with_reducible refine (HT.out _).mono ?_); rintro e W2 ⟨rfl, hdr⟩); have BG2 : W2.heap[n]? = some (.cells cs 24 (0, 0)) := (by (obtain ⟨k, e⟩ := hdr; rw [e]; exact blk_drewN (blk_drewN BG _) _)); have HB2 : Below n w W2 := (by (obtain ⟨k, e⟩ := hdr; rw [e]; exact below_drewN_ (below_drewN_ hb1 _) _)); clear hdr c0 c1 c2 c3 c4 c5 c6 c7 hnW1; have hnW : n < W2.heap.size := blk_lt BG2; have c0 : W2.cell? ⟨n, 0, none⟩ = some (.bool sec) := (blk_cell BG2 0).trans (by rw [hcs.out]; rfl); have c1 : W2.cell? ⟨n, 1, none⟩ = some (.int .i64 H) := (blk_cell BG2 1).trans (by rw [hcs.out]; rfl))
    | (go_at_call 19; have I0 : Inv w n W2.heap.size H cs (W2.alloc (.cells (nums .u8 L0).toArray 5)) L0 := ⟨blk_alloc BG2 _, blk_new W2 _, by rw [hL0.out, List.length_replicate], HB2.alloc (Nat.le_of_lt hnW) _⟩; clear c0 c1 BG2 HB2 hmk; generalize W2.heap.size = V at *; generalize W2.alloc (.cells (nums .u8 L0).toArray 5) = W3 at *; refine (hmg.out W3).mono ?_; rintro e W4 ⟨rfl, k4, hW4⟩; subst hW4; have I0d : Inv w n V H cs (W3.drewN k4) L0 := ⟨blk_drewN I0.box _, blk_drewN I0.row _, I0.len, below_drewN_ I0.bel _⟩; clear I0; have I0 := I0d; clear I0d; generalize W3.drewN k4 = W4 at *)
    | fail)
  go_wp2_with fail
  refine (lay_call W4 V H H 0 L0 I0.row I0.len (by omega) (magicB sec) (by rw [magicB_size]; omega)).mono ?_
  rintro e W5 ⟨⟨vW5, rfl⟩, R, T⟩
  have I1 := I0.turn T R (splice_len (by rw [bytesOf_length, I0.len]; rw [magicB_size]; omega)) hnW
  obtain ⟨L1, hL1⟩ : ∃ L, Aside0 (L = splice L0 0 (bytesOf (magicB sec))) := ⟨_, ⟨rfl⟩⟩
  rw [← hL1.out] at I1
  clear R T I0
  go_wp2_with fail
  refine (rput_call W5 V H H 6 L1 I1.row I1.len (by omega) 2 (by omega) 2 (by omega) (by omega) (by omega)).mono ?_
  rintro e W6 ⟨⟨vW6, rfl⟩, R, T⟩
  have I2 := I1.turn T R (splice_len (by rw [be_len, I1.len]; omega)) hnW
  obtain ⟨L2, hL2⟩ : ∃ L, Aside0 (L = splice L1 6 (be 2 2)) := ⟨_, ⟨rfl⟩⟩
  rw [← hL2.out] at I2
  clear R T I1
  have c1 : W6.cell? ⟨n, 1, none⟩ = some (.int .i64 H) := (blk_cell I2.box 1).trans (by rw [hcs.out]; rfl)
  go_wp2_with fail
  refine (rput_call W6 V H H 8 L2 I2.row I2.len (by omega) 8 (by omega) (H : Int) (by omega) (by omega) (by omega)).mono ?_
  rintro e W7 ⟨⟨vW7, rfl⟩, R, T⟩
  have I3 := I2.turn T R (splice_len (by rw [be_len, I2.len]; omega)) hnW
  obtain ⟨L3, hL3⟩ : ∃ L, Aside0 (L = splice L2 8 (be 8 (H : Int))) := ⟨_, ⟨rfl⟩⟩
  rw [← hL3.out] at I3
  clear R T I2 c1
  have c2 : W7.cell? ⟨n, 2, none⟩ = some (.int .u64 seq) := (blk_cell I3.box 2).trans (by rw [hcs.out]; rfl)
  go_wp2_with fail
  refine (rput_call W7 V H H 16 L3 I3.row I3.len (by omega) 8 (by omega) seq (by omega) (by have := z3A.out; omega) (by omega)).mono ?_
  rintro e W8 ⟨⟨vW8, rfl⟩, R, T⟩
  have I4 := I3.turn T R (splice_len (by rw [be_len, I3.len]; omega)) hnW
  obtain ⟨L4, hL4⟩ : ∃ L, Aside0 (L = splice L3 16 (be 8 seq)) := ⟨_, ⟨rfl⟩⟩
  rw [← hL4.out] at I4
  clear R T I3 c2
  have c3 : W8.cell? ⟨n, 3, none⟩ = some (.string label) := (blk_cell I4.box 3).trans (by rw [hcs.out]; rfl)
  go_wp2_with fail
  refine (lay_call W8 V H H 24 L4 I4.row I4.len (by omega) label (by omega)).mono ?_
  rintro e W10 ⟨⟨vW10, rfl⟩, R, T⟩
  have I5 := I4.turn T R (splice_len (by rw [bytesOf_length, I4.len]; omega)) hnW
  obtain ⟨L5, hL5⟩ : ∃ L, Aside0 (L = splice L4 24 (bytesOf label)) := ⟨_, ⟨rfl⟩⟩
  rw [← hL5.out] at I5
  clear R T I4 c3
  go_wp2_with fail
  refine (lay_call W10 V H H 72 L5 I5.row I5.len (by omega) alg (by rw [alg_size]; omega)).mono ?_
  rintro e W11 ⟨⟨vW11, rfl⟩, R, T⟩
  have I6 := I5.turn T R (splice_len (by rw [bytesOf_length, I5.len]; rw [alg_size]; omega)) hnW
  obtain ⟨L6, hL6⟩ : ∃ L, Aside0 (L = splice L5 72 (bytesOf alg)) := ⟨_, ⟨rfl⟩⟩
  rw [← hL6.out] at I6
  clear R T I5
  have c6 : W11.cell? ⟨n, 6, none⟩ = some (.string salt) := (blk_cell I6.box 6).trans (by rw [hcs.out]; rfl)
  go_wp2_with fail
  refine (lay_call W11 V H H 104 L6 I6.row I6.len (by omega) salt (by rw [z4A.out]; omega)).mono ?_
  rintro e W12 ⟨⟨vW12, rfl⟩, R, T⟩
  have I7 := I6.turn T R (splice_len (by rw [bytesOf_length, I6.len]; rw [z4A.out]; omega)) hnW
  obtain ⟨L7, hL7⟩ : ∃ L, Aside0 (L = splice L6 104 (bytesOf salt)) := ⟨_, ⟨rfl⟩⟩
  rw [← hL7.out] at I7
  clear R T I6 c6
  have c5 : W12.cell? ⟨n, 5, none⟩ = some (.string uuid) := (blk_cell I7.box 5).trans (by rw [hcs.out]; rfl)
  go_wp2_with fail
  refine (lay_call W12 V H H 168 L7 I7.row I7.len (by omega) uuid (by omega)).mono ?_
  rintro e W13 ⟨⟨vW13, rfl⟩, R, T⟩
  have I8 := I7.turn T R (splice_len (by rw [bytesOf_length, I7.len]; omega)) hnW
  obtain ⟨L8, hL8⟩ : ∃ L, Aside0 (L = splice L7 168 (bytesOf uuid)) := ⟨_, ⟨rfl⟩⟩
  rw [← hL8.out] at I8
  clear R T I7 c5
  have c4 : W13.cell? ⟨n, 4, none⟩ = some (.string sub) := (blk_cell I8.box 4).trans (by rw [hcs.out]; rfl)
  go_wp2_with fail
  refine (lay_call W13 V H H 208 L8 I8.row I8.len (by omega) sub (by omega)).mono ?_
  rintro e W14 ⟨⟨vW14, rfl⟩, R, T⟩
  have I9 := I8.turn T R (splice_len (by rw [bytesOf_length, I8.len]; omega)) hnW
  obtain ⟨L9, hL9⟩ : ∃ L, Aside0 (L = splice L8 208 (bytesOf sub)) := ⟨_, ⟨rfl⟩⟩
  rw [← hL9.out] at I9
  clear R T I8 c4
  go_wp2_with (first
    | ((with_reducible refine gate_ (.load 24 (.tmp 1)) rfl ?_); refine wpList_load_row rfl 24 (.tmp 1) rfl n rfl 24 cs (0, 0) _ I9.box Tryd.underlying24 rfl (by rw [hsz]; kernel_rfl) ?_)
    | (go_at_call 21; refine (hbeg.out _).mono ?_; rintro e W15 ⟨rfl, hb15⟩; have I9b := I9.below hb15; clear I9 hb15; have I9 := I9b; clear I9b)
    | fail)
  refine (rput_call W15 V H H 256 L9 I9.row I9.len (by omega) 8 (by omega) (beginOf sec H) hbo0 (by omega) (by omega)).mono ?_
  rintro e W16 ⟨⟨v16, rfl⟩, R, T⟩
  have I10 := I9.turn T R (splice_len (by rw [be_len, I9.len]; omega)) hnW
  obtain ⟨L10, hL10⟩ : ∃ L, Aside0 (L = splice L9 256 (be 8 (beginOf sec H))) := ⟨_, ⟨rfl⟩⟩
  rw [← hL10.out] at I10
  clear R T I9
  have c7 : W16.cell? ⟨n, 7, none⟩ = some (.string text) := (blk_cell I10.box 7).trans (by rw [hcs.out]; rfl)
  go_wp2_with fail
  refine (lay_call W16 V H H 4096 L10 I10.row I10.len (by omega) text (by omega)).mono ?_
  rintro e W17 ⟨⟨vW17, rfl⟩, R, T⟩
  have I11 := I10.turn T R (splice_len (by rw [bytesOf_length, I10.len]; omega)) hnW
  obtain ⟨L11, hL11⟩ : ∃ L, Aside0 (L = splice L10 4096 (bytesOf text)) := ⟨_, ⟨rfl⟩⟩
  rw [← hL11.out] at I11
  clear R T I10 c7
  have hPA : Aside0 (L11 = packB sec H seq label sub uuid salt text) := ⟨by
    rw [hL11.out, hL10.out, hL9.out, hL8.out, hL7.out, hL6.out, hL5.out, hL4.out, hL3.out, hL2.out, hL1.out, hL0.out]
    unfold packB
    rw [Int.toNat_natCast]⟩
  clear hL11 hL10 hL9 hL8 hL7 hL6 hL5 hL4 hL3 hL2 hL1 hL0
  have hsum := rsum_call kf x W17 (HTA.out.below (by rw [HN.out]; exact I11.bel)) ⟨V, 0, none⟩ H L11 (by rw [I11.len]; exact Nat.le_refl _) (row_C I11.row (by rw [I11.len]; omega)) (by rw [I11.len]; omega) (by rw [I11.len]; omega) (by rw [hPA.out]; exact packB_rng _ _ _ _ _ _ _ _)
  rw [I11.len] at hsum
  go_wp2_with fail
  refine hsum.mono ?_
  rintro e W18 ⟨v, rfl, hR, hb18⟩
  have I11b := I11.below hb18
  clear I11 hb18 hsum
  have I11 := I11b
  clear I11b
  obtain ⟨D, hD⟩ : ∃ D, Aside0 (D = rsha kf x (hole L11)) := ⟨_, ⟨rfl⟩⟩
  rw [← hD.out] at hR
  have hDl : Aside0 (D.length = 32) := ⟨by rw [hD.out]; exact digTo_len _ 8⟩
  obtain ⟨Ad, cd, rfl⟩ := Kd.R_slice hR
  obtain ⟨_, ld, rd⟩ := Kd.R_reads' hR
  have hconv := Kd.C_string (P := Tryd.prog) (src := 25) (dst := 9) (e := 5) (c := cd) Tryd.underlying25 Tryd.underlying5 Tryd.underlying9 rd
  have hst : Aside0 (bytesOf (strOfNums D) = D) := ⟨bytes_str (by rw [hD.out]; exact dig_rng _)⟩
  have hss : (strOfNums D).size = 32 := by rw [← bytesOf_length, hst.out, hDl.out]
  have hssA := Aside0.mk hss
  clear hss rd hR ld
  generalize hSD : strOfNums D = SD at *
  have hSDA := Aside0.mk hSD
  clear hSD
  go_wp2_with fail
  refine (lay_call W18 V H H 448 L11 I11.row I11.len (by omega) SD (by rw [hssA.out]; omega)).mono ?_
  rintro e W19 ⟨⟨v19, rfl⟩, R, T⟩
  rw [hst.out] at R
  have I12 := I11.turn T R (splice_len (by rw [hDl.out, I11.len]; omega)) hnW
  clear R T I11
  go_wp2
  go_ret2
  refine ⟨V, rfl, by rw [HN.out]; omega, ?_, by rw [HN.out]; exact I12.bel⟩
  rw [← hPA.out, ← hD.out]
  exact I12.row
end Go.Proofs.YtglcapkmeecknaaDoor.r06
/-! ## PackEq -/
namespace Go.Proofs.YtglcapkmeecknaaDoor.packeq
open Go Go.RowKit Go.Proofs.YtglcapkmeecknaaDoor.PHeaderPacks Go.Proofs.YtglcapkmeecknaaDoor.sha Go.Proofs.YtglcapkmeecknaaDoor.mem Go.Proofs.YtglcapkmeecknaaDoor.headp Go.Proofs.YtglcapkmeecknaaDoor.m22 Go.Proofs.YtglcapkmeecknaaDoor.p24 Go.Proofs.YtglcapkmeecknaaDoor.h27 Go.Proofs.YtglcapkmeecknaaDoor.r12 Go.Proofs.YtglcapkmeecknaaDoor.s28 Go.Proofs.YtglcapkmeecknaaDoor.k07 Go.Proofs.YtglcapkmeecknaaDoor.r06 Go.Proofs.YtglcapkmeecknaaDoor.d40 Go.Proofs.YtglcapkmeecknaaDoorW.PrintWords Go.Proofs.YtglcapkmeecknaaDoorW.PrintMore
set_option linter.unusedVariables false
set_option linter.unusedSimpArgs false
theorem splice_comm {L : List Int} {o p : Nat} {xs ys : List Int} (hx : o + xs.length ≤ L.length) (hy : p + ys.length ≤ L.length) (hd : o + xs.length ≤ p ∨ p + ys.length ≤ o) : splice (splice L o xs) p ys = splice (splice L p ys) o xs := by
  have l1 : (splice L o xs).length = L.length := splice_len hx
  have l2 : (splice L p ys).length = L.length := splice_len hy
  apply List.ext_getElem?
  intro q
  rw [splice_get (splice L o xs) p ys (by omega), splice_get (splice L p ys) o xs (by omega), splice_get L o xs hx, splice_get L p ys hy]
  by_cases a : q < o
  · by_cases b : q < p
    · simp only [a, b, if_true]
    · by_cases c : q < p + ys.length
      · simp only [a, b, c, if_true, if_false]
      · simp only [a, b, c, if_true, if_false]
  · by_cases a' : q < o + xs.length
    · by_cases b : q < p
      · simp only [a, a', b, if_true, if_false]
      · by_cases c : q < p + ys.length
        · omega
        · simp only [a, a', b, c, if_true, if_false]
    · by_cases b : q < p
      · simp only [a, a', b, if_true, if_false]
      · by_cases c : q < p + ys.length
        · simp only [a, a', b, c, if_true, if_false]
        · simp only [a, a', b, c, if_true, if_false]
theorem pack_eq (sec : Bool) (head seq : Int) (label sub uuid salt text : ByteArray) (hE : mayE head seq label sub uuid salt text = 0) : packB sec head seq label sub uuid salt text = packA sec head seq label sub uuid salt text := by
  obtain ⟨z1, z2, z3, z4, z5, z6, z7, z8⟩ := may_zero hE
  obtain ⟨b1, b2, b3⟩ := isHd_bd z1
  unfold packA packB
  have u0 : (bytesOf (magicB sec)).length = 6 := by rw [bytesOf_length, magicB_size]
  have u1 : (bytesOf label).length ≤ 47 := by rw [bytesOf_length]; exact z5
  have u2 : (bytesOf uuid).length ≤ 39 := by rw [bytesOf_length]; exact z6
  have u3 : (bytesOf sub).length ≤ 47 := by rw [bytesOf_length]; exact z7
  have u4 : (bytesOf salt).length = 64 := by rw [bytesOf_length]; exact z4
  have u5 : (bytesOf alg).length = 6 := by rw [bytesOf_length, alg_size]
  have hL : (List.replicate head.toNat (0 : Int)).length = head.toNat := List.length_replicate
  have l0 : (splice (List.replicate head.toNat (0 : Int)) 0 (bytesOf (magicB sec))).length = head.toNat := by rw [splice_len (by omega), hL]
  have l1 : (splice (splice (List.replicate head.toNat (0 : Int)) 0 (bytesOf (magicB sec))) 6 (be 2 2)).length = head.toNat := by rw [splice_len (by rw [be_len]; omega), l0]
  have l2 : (splice (splice (splice (List.replicate head.toNat (0 : Int)) 0 (bytesOf (magicB sec))) 6 (be 2 2)) 8 (be 8 head)).length = head.toNat := by rw [splice_len (by rw [be_len]; omega), l1]
  have l3 : (splice (splice (splice (splice (List.replicate head.toNat (0 : Int)) 0 (bytesOf (magicB sec))) 6 (be 2 2)) 8 (be 8 head)) 16 (be 8 seq)).length = head.toNat := by rw [splice_len (by rw [be_len]; omega), l2]
  have l4 : (splice (splice (splice (splice (splice (List.replicate head.toNat (0 : Int)) 0 (bytesOf (magicB sec))) 6 (be 2 2)) 8 (be 8 head)) 16 (be 8 seq)) 24 (bytesOf label)).length = head.toNat := by rw [splice_len (by omega), l3]
  generalize splice (splice (splice (splice (splice (List.replicate head.toNat (0 : Int)) 0 (bytesOf (magicB sec))) 6 (be 2 2)) 8 (be 8 head)) 16 (be 8 seq)) 24 (bytesOf label) = L at *
  have e : splice (splice (splice (splice L 72 (bytesOf alg)) 104 (bytesOf salt)) 168 (bytesOf uuid)) 208 (bytesOf sub) = splice (splice (splice (splice L 168 (bytesOf uuid)) 208 (bytesOf sub)) 72 (bytesOf alg)) 104 (bytesOf salt) := by
    have m1 : (splice L 72 (bytesOf alg)).length = L.length := splice_len (by omega)
    have m2 : (splice L 168 (bytesOf uuid)).length = L.length := splice_len (by omega)
    have m3 : (splice (splice L 72 (bytesOf alg)) 168 (bytesOf uuid)).length = L.length := by rw [splice_len (by omega), m1]
    rw [splice_comm (L := splice L 72 (bytesOf alg)) (o := 104) (p := 168) (by omega) (by omega) (Or.inl (by omega))]
    rw [splice_comm (L := splice (splice L 72 (bytesOf alg)) 168 (bytesOf uuid)) (o := 104) (p := 208) (by omega) (by omega) (Or.inl (by omega))]
    rw [splice_comm (L := L) (o := 72) (p := 168) (by omega) (by omega) (Or.inl (by omega))]
    rw [splice_comm (L := splice L 168 (bytesOf uuid)) (o := 72) (p := 208) (by omega) (by omega) (Or.inl (by omega))]
  rw [e]
theorem packA_len {sec : Bool} {head seq : Int} {label sub uuid salt text : ByteArray} (hE : mayE head seq label sub uuid salt text = 0) : (packA sec head seq label sub uuid salt text).length = head.toNat := by
  obtain ⟨z1, z2, z3, z4, z5, z6, z7, z8⟩ := may_zero hE
  obtain ⟨b1, b2, b3⟩ := isHd_bd z1
  unfold packA
  have u0 : (bytesOf (magicB sec)).length = 6 := by rw [bytesOf_length, magicB_size]
  have u1 : (bytesOf label).length ≤ 47 := by rw [bytesOf_length]; exact z5
  have u2 : (bytesOf uuid).length ≤ 39 := by rw [bytesOf_length]; exact z6
  have u3 : (bytesOf sub).length ≤ 47 := by rw [bytesOf_length]; exact z7
  have u4 : (bytesOf salt).length = 64 := by rw [bytesOf_length]; exact z4
  have u5 : (bytesOf alg).length = 6 := by rw [bytesOf_length, alg_size]
  have u6 : ((bytesOf text).length : Int) ≤ head - 4097 := by rw [bytesOf_length]; exact z8
  have hL : (List.replicate head.toNat (0 : Int)).length = head.toNat := List.length_replicate
  have step : ∀ (L xs : List Int) (o : Nat), L.length = head.toNat → o + xs.length ≤ head.toNat → (splice L o xs).length = head.toNat := fun L xs o h1 h2 => by rw [splice_len (by omega), h1]
  refine step _ _ _ ?_ (by omega)
  refine step _ _ _ ?_ (by rw [be_len]; omega)
  refine step _ _ _ ?_ (by omega)
  refine step _ _ _ ?_ (by omega)
  refine step _ _ _ ?_ (by omega)
  refine step _ _ _ ?_ (by omega)
  refine step _ _ _ ?_ (by omega)
  refine step _ _ _ ?_ (by rw [be_len]; omega)
  refine step _ _ _ ?_ (by rw [be_len]; omega)
  refine step _ _ _ ?_ (by rw [be_len]; omega)
  exact step _ _ _ hL (by omega)
/-- A slice of bytes that a call has made: nil, or a row known whole. -/
def Res (w : World) (lo : Nat) (v : Value) (B : List Int) : Prop := (v = .slice none 0 0 ∧ B = []) ∨ ∃ g, v = .slice (some ⟨g, 0, none⟩) B.length B.length ∧ lo ≤ g ∧ Row w g B
theorem Res.below {w w' : World} {lo : Nat} {v : Value} {B : List Int} (h : Res w lo v B) (hb : Below w.heap.size w w') : Res w' lo v B := by
  rcases h with h | ⟨g, h1, h2, h3⟩
  · exact .inl h
  · exact .inr ⟨g, h1, h2, blk_below h3 hb⟩
theorem Res.low {w : World} {lo lo' : Nat} {v : Value} {B : List Int} (h : Res w lo v B) (hl : lo' ≤ lo) : Res w lo' v B := by
  rcases h with h | ⟨g, h1, h2, h3⟩
  · exact .inl h
  · exact .inr ⟨g, h1, by omega, h3⟩
theorem Res.reads {w : World} {lo : Nat} {v : Value} {B : List Int} (h : Res w lo v B) (hm : B.length ≤ 9223372036854775807) : ∃ A c, v = .slice A B.length c ∧ B.length ≤ c ∧ Kd.C (Kd.int .u8) w A B.length B := by
  rcases h with ⟨rfl, rfl⟩ | ⟨g, h1, h2, h3⟩
  · exact ⟨none, 0, rfl, Nat.le_refl _, ⟨rfl, by simp, fun h0 => absurd h0 (by simp)⟩⟩
  · exact ⟨_, _, h1, Nat.le_refl _, row_C h3 hm⟩
theorem Res.own {w : World} {lo : Nat} {v : Value} {B : List Int} (h : Res w lo v B) (hm : B.length ≤ maxLen) : Kd.R (Kd.int .u8) 5 w lo (fun k => v.ownBlock = some k) v B := by
  rcases h with ⟨rfl, rfl⟩ | ⟨g, rfl, h2, h3⟩
  · exact Kd.R_nil _ _ _ _ _
  · refine ⟨fun k hk => hk, nums .u8 B, ⟨by rw [nums_length, show (Kd.int .u8).sz = 1 from rfl, Nat.mul_one], .inr ⟨g, B.length, (nums .u8 B).toArray, rfl, h2, h3, Nat.le_refl _, hm, by simp [nums, show (Kd.int .u8).sz = 1 from rfl], ?_⟩⟩, ?_⟩
    · rw [show (Kd.int .u8).sz = 1 from rfl, Nat.mul_one]
      exact List.take_of_length_le (by rw [nums_length]; exact Nat.le_refl _)
    · refine ⟨by rw [nums_length, show (Kd.int .u8).sz = 1 from rfl, Nat.mul_one], fun j p hj => ?_⟩
      show _ = [Value.int .u8 p]
      have hjl : j < B.length := (List.getElem?_eq_some_iff.1 hj).1
      rw [show (Kd.int .u8).sz = 1 from rfl, Nat.mul_one, List.drop_eq_getElem_cons (by rw [nums_length]; exact hjl)]
      have e : (nums .u8 B)[j]'(by rw [nums_length]; exact hjl) = .int .u8 p := by
        simp only [nums, List.getElem_map]
        rw [(List.getElem?_eq_some_iff.1 hj).2]
      rw [e]
      rfl
theorem Res.kept {w w' : World} {lo : Nat} {v : Value} {B : List Int} {S : Nat → Prop} (h : Res w lo v B) (hk : Kept w w' S) (hs : ∀ k, v.ownBlock = some k → ¬ S k) : Res w' lo v B := by
  rcases h with h | ⟨g, rfl, h2, h3⟩
  · exact .inl h
  · exact .inr ⟨g, rfl, h2, (hk.2 g (blk_lt h3) (hs g rfl)).trans h3⟩
theorem Res.lt {w : World} {lo : Nat} {v : Value} {B : List Int} (h : Res w lo v B) : ∀ k, v.ownBlock = some k → lo ≤ k ∧ k < w.heap.size := by
  rcases h with ⟨rfl, _⟩ | ⟨g, rfl, h2, h3⟩
  · intro k hk; simp [Value.ownBlock] at hk
  · intro k hk
    have : g = k := by simpa [Value.ownBlock] using hk
    subst this
    exact ⟨h2, blk_lt h3⟩
/-- What Pack tells, on both sides: the error's number, the bytes. -/
def packed (kf : Nat → BitVec 32) (x : St) (sec : Bool) (head seq : Int) (label sub uuid salt text : ByteArray) : List Int :=
  if mayE head seq label sub uuid salt text = 0 then splice (packA sec head seq label sub uuid salt text) 448 (shaOf kf x (hole (packA sec head seq label sub uuid salt text))) else []
theorem shaOf_len (kf : Nat → BitVec 32) (x : St) (b : List Int) : (shaOf kf x b).length = 32 := digTo_len _ 8
theorem packed_len (kf : Nat → BitVec 32) (x : St) (sec : Bool) (head seq : Int) (label sub uuid salt text : ByteArray) : (packed kf x sec head seq label sub uuid salt text).length ≤ 4194304 ∧ (mayE head seq label sub uuid salt text = 0 → (packed kf x sec head seq label sub uuid salt text).length = head.toNat) := by
  unfold packed
  by_cases hE : mayE head seq label sub uuid salt text = 0
  · obtain ⟨z1, _⟩ := may_zero hE
    obtain ⟨b1, b2, b3⟩ := isHd_bd z1
    rw [if_pos hE]
    have : (splice (packA sec head seq label sub uuid salt text) 448 (shaOf kf x (hole (packA sec head seq label sub uuid salt text)))).length = head.toNat := by
      rw [splice_len (by rw [shaOf_len, packA_len hE]; omega), packA_len hE]
    rw [this]
    exact ⟨by omega, fun _ => rfl⟩
  · rw [if_neg hE]
    exact ⟨by simp, fun h => absurd h hE⟩
theorem pack_call (kf : Nat → BitVec 32) (x : St) (sec : Bool) (head seq : Int) (label sub uuid salt text : ByteArray) (hh0 : -9223372036854775808 ≤ head) (hh1 : head ≤ 9223372036854775807) (hq0 : 0 ≤ seq) (w : World) (hT : DigTab kf x w) (hM : HeadTab w) :
    Calls Tryd.prog 7 #[.agg #[.bool sec, .int .i64 head, .int .u64 seq, .string label, .string sub, .string uuid, .string salt, .string text]] w fun e w' => ∃ v, e = .returned (.tuple #[v, .int .i64 (mayE head seq label sub uuid salt text)]) ∧ Res w' w.heap.size v (packed kf x sec head seq label sub uuid salt text) ∧ Below w.heap.size w w' := by
  by_cases hE : mayE head seq label sub uuid salt text = 0
  · refine (pack_ok kf x sec head seq label sub uuid salt text hq0 w hT hM hE).mono ?_
    rintro e w' ⟨g, rfl, h1, h2, h3⟩
    have hl := (packed_len kf x sec head seq label sub uuid salt text).2 hE
    refine ⟨_, by rw [hE], .inr ⟨g, by rw [hl], h1, ?_⟩, h3⟩
    unfold packed
    rw [if_pos hE]
    exact h2
  · refine (pack_bad sec head seq label sub uuid salt text hh0 hh1 hq0 w hE).mono ?_
    rintro e w' ⟨rfl, h3⟩
    exact ⟨_, rfl, .inl ⟨rfl, by unfold packed; rw [if_neg hE]⟩, h3⟩
theorem rpack_call (kf : Nat → BitVec 32) (x : St) (sec : Bool) (head seq : Int) (label sub uuid salt text : ByteArray) (hh0 : -9223372036854775808 ≤ head) (hh1 : head ≤ 9223372036854775807) (hq0 : 0 ≤ seq) (hs1 : label.size ≤ 9223372036854775807) (hs2 : sub.size ≤ 9223372036854775807) (hs3 : uuid.size ≤ 9223372036854775807) (hs4 : text.size ≤ 9223372036854775807) (w : World) (hT : RefTab kf x w) :
    Calls Tryd.prog 6 #[.agg #[.bool sec, .int .i64 head, .int .u64 seq, .string label, .string sub, .string uuid, .string salt, .string text]] w fun e w' => ∃ v, e = .returned (.tuple #[v, .int .i64 (mayE head seq label sub uuid salt text)]) ∧ Res w' w.heap.size v (packed kf x sec head seq label sub uuid salt text) ∧ Below w.heap.size w w' := by
  by_cases hE : mayE head seq label sub uuid salt text = 0
  · refine (rpack_ok kf x sec head seq label sub uuid salt text hq0 w hT hE).mono ?_
    rintro e w' ⟨g, rfl, h1, h2, h3⟩
    have hl := (packed_len kf x sec head seq label sub uuid salt text).2 hE
    obtain ⟨z1, _⟩ := may_zero hE
    obtain ⟨b1, b2, b3⟩ := isHd_bd z1
    rw [pack_eq sec head seq label sub uuid salt text hE] at h2
    obtain ⟨M, hM⟩ : ∃ M, head.toNat = 64 * M := ⟨head.toNat / 64, by omega⟩
    have hhl : (hole (packA sec head seq label sub uuid salt text)).length = 64 * M := by rw [hole_len _ (by rw [packA_len hE]; omega), packA_len hE, hM]
    rw [rsha_mult kf x _ M hhl] at h2
    refine ⟨_, by rw [hE], .inr ⟨g, by rw [hl], h1, ?_⟩, h3⟩
    unfold packed
    rw [if_pos hE]
    unfold shaOf
    rw [hhl, show 64 * M / 64 = M by omega]
    rw [show (((64 * M : Nat) : Int)) = 64 * (M : Int) by omega]
    exact h2
  · refine (rpack_bad sec head seq label sub uuid salt text hh0 hh1 hq0 w hs1 hs2 hs3 hs4 hE).mono ?_
    rintro e w' ⟨rfl, h3⟩
    exact ⟨_, rfl, .inl ⟨rfl, by unfold packed; rw [if_neg hE]⟩, h3⟩
end Go.Proofs.YtglcapkmeecknaaDoor.packeq
/-! ## L03 -/
namespace Go.Proofs.YtglcapkmeecknaaDoor.l03
open Go Go.RowKit Go.Proofs.YtglcapkmeecknaaDoor.PHeaderPacks Go.Proofs.YtglcapkmeecknaaDoor.sha Go.Proofs.YtglcapkmeecknaaDoor.mem Go.Proofs.YtglcapkmeecknaaDoor.m22 Go.Proofs.YtglcapkmeecknaaDoor.s28 Go.Proofs.YtglcapkmeecknaaDoor.k07 Go.Proofs.YtglcapkmeecknaaDoor.d40 Go.Proofs.YtglcapkmeecknaaDoor.packeq Go.Proofs.YtglcapkmeecknaaDoorW.PrintWords Go.Proofs.YtglcapkmeecknaaDoorW.PrintLast Go.Proofs.YtglcapkmeecknaaDoorW.PrintMore
set_option linter.unusedVariables false
set_option linter.unusedSimpArgs false
theorem same_go (l : List Int) (hl : l.length ≤ 9223372036854775806) : ∀ (d k i : Nat), l.length - i = d → i ≤ l.length → d < k → cofferbook_SameBytes.l0 k l l (i : Int) = some true
  | 0, k, i, hd, hi, hk => by
    obtain ⟨k, rfl⟩ : ∃ m, k = m + 1 := ⟨k - 1, by omega⟩
    simp only [cofferbook_SameBytes.l0]
    rw [if_neg (by omega)]
  | d + 1, k, i, hd, hi, hk => by
    obtain ⟨k, rfl⟩ : ∃ m, k = m + 1 := ⟨k - 1, by omega⟩
    have ew : wrap64 ((i : Int) + 1) = ((i + 1 : Nat) : Int) := by unfold wrap64; omega
    simp only [cofferbook_SameBytes.l0]
    rw [if_pos (by omega), if_pos (by omega), if_pos (by omega)]
    simp only [if_true]
    rw [ew]
    exact same_go l hl d k (i + 1) (by omega) (by omega) (by omega)
theorem same_self (l : List Int) (hl : l.length ≤ 9223372036854775806) : cofferbook_SameBytes.f (l.length + 1) l l = some true := by
  unfold cofferbook_SameBytes.f
  rw [if_pos rfl]
  exact same_go l hl l.length _ 0 (by omega) (by omega) (by omega)
theorem spoil_tail : ∀ (d k i : Nat) (l : List Int), l.length ≤ 4194400 + i → 70 - i = d → i ≤ 70 → 1 ≤ l.length → d < k → cofferbook_SpoilBytes.l1 k l (i : Int) = some ()
  | 0, k, i, l, hl, hd, hi, h1, hk => by
    obtain ⟨k, rfl⟩ : ∃ m, k = m + 1 := ⟨k - 1, by omega⟩
    have ew : wrap64 ((l.length : Int) - 1) = (l.length : Int) - 1 := by unfold wrap64; omega
    simp only [cofferbook_SpoilBytes.l1]
    rw [if_neg (by omega), ew, if_pos (by omega), if_pos (by omega)]
  | d + 1, k, i, l, hl, hd, hi, h1, hk => by
    obtain ⟨k, rfl⟩ : ∃ m, k = m + 1 := ⟨k - 1, by omega⟩
    have ew : wrap64 ((i : Int) + 1) = ((i + 1 : Nat) : Int) := by unfold wrap64; omega
    simp only [cofferbook_SpoilBytes.l1]
    rw [if_pos (by omega), if_pos (by omega), ew]
    exact spoil_tail d k (i + 1) _ (by rw [List.length_append]; simp; omega) (by omega) (by omega) (by rw [List.length_append]; simp) (by omega)
theorem spoil_go : ∀ (d k i : Nat) (l : List Int), l.length ≤ 4194304 → l.length - i = d → i ≤ l.length → d + 80 < k → cofferbook_SpoilBytes.l0 k l (i : Int) = some ()
  | 0, k, i, l, hl, hd, hi, hk => by
    obtain ⟨k, rfl⟩ : ∃ m, k = m + 1 := ⟨k - 1, by omega⟩
    simp only [cofferbook_SpoilBytes.l0]
    rw [if_neg (by omega), if_pos (by omega)]
    exact spoil_tail 70 k 0 _ (by rw [List.length_append]; simp; omega) (by omega) (by omega) (by rw [List.length_append]; simp) (by omega)
  | d + 1, k, i, l, hl, hd, hi, hk => by
    obtain ⟨k, rfl⟩ : ∃ m, k = m + 1 := ⟨k - 1, by omega⟩
    have ew : wrap64 ((i : Int) + 1) = ((i + 1 : Nat) : Int) := by unfold wrap64; omega
    simp only [cofferbook_SpoilBytes.l0]
    rw [if_pos (by omega), if_pos (by omega), ew]
    exact spoil_go d k (i + 1) _ (by rw [List.length_set]; exact hl) (by rw [List.length_set]; omega) (by rw [List.length_set]; omega) (by omega)
theorem spoil_ends (l : List Int) (hl : l.length ≤ 4194304) : cofferbook_SpoilBytes.f (l.length + 82) l = some () := spoil_go l.length _ 0 l hl (by omega) (by omega) (by omega)
theorem same_call (B : List Int) (hB : B.length ≤ 4194304) {W : World} {lo lo' : Nat} {v v' : Value} (h : Res W lo v B) (h' : Res W lo' v' B) : Calls Tryd.prog 9 #[v, v'] W fun e w' => e = .returned (.bool true) ∧ Below W.heap.size W w' := by
  obtain ⟨A, c, rfl, h1, h2⟩ := h.reads (by omega)
  obtain ⟨A', c', rfl, h1', h2'⟩ := h'.reads (by omega)
  exact (cofferbook_SameBytes.calls _ A c B A' c' B true W h2 h1 h2' h1' (same_self B (by omega))).mono fun e w' ⟨he, hd⟩ => ⟨he, hd.below⟩
theorem num_call (E : Int) (W : World) : Calls Tryd.prog 8 #[.int .i64 E] W fun e w' => e = .returned (.int .i64 E) ∧ Below W.heap.size W w' :=
  (cofferlaw08_num.calls E E W rfl).mono fun e w' ⟨he, hd⟩ => ⟨he, hd.below⟩
set_option maxHeartbeats 4000000 in
set_option maxRecDepth 100000 in
theorem packs_call (kf : Nat → BitVec 32) (x : St) (cs ds : Array Value) (csz : cs.size = 8) (dsz : ds.size = 8) (E1 E2 : Int) (B1 B2 : List Int) (hB1 : B1.length ≤ 4194304) (hB2 : B2.length ≤ 4194304) (w : World)
    (r1 : ∀ W, Below w.heap.size w W → Calls Tryd.prog 6 #[.agg cs] W fun e w' => ∃ v, e = .returned (.tuple #[v, .int .i64 E1]) ∧ Res w' W.heap.size v B1 ∧ Below W.heap.size W w')
    (p1 : ∀ W, Below w.heap.size w W → Calls Tryd.prog 7 #[.agg cs] W fun e w' => ∃ v, e = .returned (.tuple #[v, .int .i64 E1]) ∧ Res w' W.heap.size v B1 ∧ Below W.heap.size W w')
    (r2 : ∀ W, Below w.heap.size w W → Calls Tryd.prog 6 #[.agg ds] W fun e w' => ∃ v, e = .returned (.tuple #[v, .int .i64 E2]) ∧ Res w' W.heap.size v B2 ∧ Below W.heap.size W w')
    (p2 : ∀ W, Below w.heap.size w W → Calls Tryd.prog 7 #[.agg ds] W fun e w' => ∃ v, e = .returned (.tuple #[v, .int .i64 E2]) ∧ Res w' W.heap.size v B2 ∧ Below W.heap.size W w') :
    Calls Tryd.prog 3 #[.agg cs, .agg ds] w fun e w' => e = .returned (.bool true) ∧ Below w.heap.size w w' := by
  have R1 := Aside0.mk r1
  clear r1
  have P1 := Aside0.mk p1
  clear p1
  have R2 := Aside0.mk r2
  clear r2
  have P2 := Aside0.mk p2
  clear p2
  have e1 : (E1 == E1) = true := by simp
  have e2 : (E2 == E2) = true := by simp
  go_enter Tryd.func3, Tryd.ntmps3
  go_wp2_with (first
    | ((with_reducible refine gate_dst (N := 2) rfl ?_); refine box_event ?hg (N := 2) ?hd (cs := cs) (t := 24) ?hr ?_; (case hd => rfl); (case hg => rfl); (case hr => first | (go_simp; done) | (go_simp; rfl)); intro g1 g1E W1 BG1 hb1; have g1A := Aside0.mk g1E; clear g1E)
    | ((with_reducible refine gate_dst (N := 3) rfl ?_); refine box_event ?hg (N := 3) ?hd (cs := ds) (t := 24) ?hr ?_; (case hd => rfl); (case hg => rfl); (case hr => first | (go_simp; done) | (go_simp; rfl)); intro g2 g2E W2 BG2 hb2; have g2A := Aside0.mk g2E; clear g2E; have K1 : Aside0 (W2.heap[g1]? = some (.cells cs 24 (0, 0))) := ⟨blk_below BG1 hb2⟩; have K2 := Aside0.mk BG2; have HB : Aside0 (Below w.heap.size w W2) := ⟨hb1.trans (hb2.mono hb1.size)⟩; clear BG1 BG2 hb1 hb2)
    | ((with_reducible refine gate_ (.load 24 (.tmp 2)) rfl ?_); refine wpList_load_row rfl 24 (.tmp 2) rfl g1 rfl 24 cs (0, 0) _ K1.out Tryd.underlying24 rfl (by rw [csz]; kernel_rfl) ?_)
    | fail)
  refine (R1.out W2 HB.out).mono ?_
  rintro e W3 ⟨want, rfl, hwant, hb⟩
  have Qwant := Aside0.mk hwant
  have Qwantl := Aside0.mk (hwant.lt)
  clear hwant
  have Swant := Aside0.mk hb.size
  have Twant := Aside0.mk HB.out.size
  have K1' : Aside0 (W3.heap[g1]? = some (.cells cs 24 (0, 0))) := ⟨blk_below K1.out hb⟩
  have K2' : Aside0 (W3.heap[g2]? = some (.cells ds 24 (0, 0))) := ⟨blk_below K2.out hb⟩
  have HB' : Aside0 (Below w.heap.size w W3) := ⟨HB.out.trans (hb.mono HB.out.size)⟩
  clear K1 K2 HB hb
  have K1 := K1'
  clear K1'
  have K2 := K2'
  clear K2'
  have HB := HB'
  clear HB'
  go_wp2_with (first | ((with_reducible refine gate_ (.load 24 (.tmp 2)) rfl ?_); refine wpList_load_row rfl 24 (.tmp 2) rfl g1 rfl 24 cs (0, 0) _ K1.out Tryd.underlying24 rfl (by rw [csz]; kernel_rfl) ?_) | fail)
  refine (P1.out W3 HB.out).mono ?_
  rintro e W4 ⟨a, rfl, ha, hb⟩
  have Qa := Aside0.mk ha
  have Qal := Aside0.mk (ha.lt)
  clear ha
  have Sa := Aside0.mk hb.size
  have Ta := Aside0.mk HB.out.size
  have K1' : Aside0 (W4.heap[g1]? = some (.cells cs 24 (0, 0))) := ⟨blk_below K1.out hb⟩
  have K2' : Aside0 (W4.heap[g2]? = some (.cells ds 24 (0, 0))) := ⟨blk_below K2.out hb⟩
  have HB' : Aside0 (Below w.heap.size w W4) := ⟨HB.out.trans (hb.mono HB.out.size)⟩
  have Qwant' := Aside0.mk (Qwant.out.below hb)
  clear K1 K2 HB Qwant hb
  have K1 := K1'
  clear K1'
  have K2 := K2'
  clear K2'
  have HB := HB'
  clear HB'
  have Qwant := Qwant'
  clear Qwant'
  go_wp2_with (first | ((with_reducible refine gate_ (.load 24 (.tmp 2)) rfl ?_); refine wpList_load_row rfl 24 (.tmp 2) rfl g1 rfl 24 cs (0, 0) _ K1.out Tryd.underlying24 rfl (by rw [csz]; kernel_rfl) ?_) | fail)
  refine (P1.out W4 HB.out).mono ?_
  rintro e W5 ⟨bb, rfl, hbb, hb⟩
  have Qbb := Aside0.mk hbb
  have Qbbl := Aside0.mk (hbb.lt)
  clear hbb
  have Sbb := Aside0.mk hb.size
  have Tbb := Aside0.mk HB.out.size
  have K1' : Aside0 (W5.heap[g1]? = some (.cells cs 24 (0, 0))) := ⟨blk_below K1.out hb⟩
  have K2' : Aside0 (W5.heap[g2]? = some (.cells ds 24 (0, 0))) := ⟨blk_below K2.out hb⟩
  have HB' : Aside0 (Below w.heap.size w W5) := ⟨HB.out.trans (hb.mono HB.out.size)⟩
  have Qwant' := Aside0.mk (Qwant.out.below hb)
  have Qa' := Aside0.mk (Qa.out.below hb)
  clear K1 K2 HB Qwant Qa hb
  have K1 := K1'
  clear K1'
  have K2 := K2'
  clear K2'
  have HB := HB'
  clear HB'
  have Qwant := Qwant'
  clear Qwant'
  have Qa := Qa'
  clear Qa'
  go_wp2_with (first | ((with_reducible refine gate_ (.load 24 (.tmp 3)) rfl ?_); refine wpList_load_row rfl 24 (.tmp 3) rfl g2 rfl 24 ds (0, 0) _ K2.out Tryd.underlying24 rfl (by rw [dsz]; kernel_rfl) ?_) | fail)
  refine (P2.out W5 HB.out).mono ?_
  rintro e W6 ⟨xx, rfl, hxx, hb⟩
  have Qxx := Aside0.mk hxx
  have Qxxl := Aside0.mk (hxx.lt)
  clear hxx
  have Sxx := Aside0.mk hb.size
  have Txx := Aside0.mk HB.out.size
  have K1' : Aside0 (W6.heap[g1]? = some (.cells cs 24 (0, 0))) := ⟨blk_below K1.out hb⟩
  have K2' : Aside0 (W6.heap[g2]? = some (.cells ds 24 (0, 0))) := ⟨blk_below K2.out hb⟩
  have HB' : Aside0 (Below w.heap.size w W6) := ⟨HB.out.trans (hb.mono HB.out.size)⟩
  have Qwant' := Aside0.mk (Qwant.out.below hb)
  have Qa' := Aside0.mk (Qa.out.below hb)
  have Qbb' := Aside0.mk (Qbb.out.below hb)
  clear K1 K2 HB Qwant Qa Qbb hb
  have K1 := K1'
  clear K1'
  have K2 := K2'
  clear K2'
  have HB := HB'
  clear HB'
  have Qwant := Qwant'
  clear Qwant'
  have Qa := Qa'
  clear Qa'
  have Qbb := Qbb'
  clear Qbb'
  go_wp2_with (first | ((with_reducible refine gate_ (.load 24 (.tmp 3)) rfl ?_); refine wpList_load_row rfl 24 (.tmp 3) rfl g2 rfl 24 ds (0, 0) _ K2.out Tryd.underlying24 rfl (by rw [dsz]; kernel_rfl) ?_) | fail)
  refine (R2.out W6 HB.out).mono ?_
  rintro e W7 ⟨yy, rfl, hyy, hb⟩
  have Qyy := Aside0.mk hyy
  have Qyyl := Aside0.mk (hyy.lt)
  clear hyy
  have Syy := Aside0.mk hb.size
  have Tyy := Aside0.mk HB.out.size
  have K1' : Aside0 (W7.heap[g1]? = some (.cells cs 24 (0, 0))) := ⟨blk_below K1.out hb⟩
  have K2' : Aside0 (W7.heap[g2]? = some (.cells ds 24 (0, 0))) := ⟨blk_below K2.out hb⟩
  have HB' : Aside0 (Below w.heap.size w W7) := ⟨HB.out.trans (hb.mono HB.out.size)⟩
  have Qwant' := Aside0.mk (Qwant.out.below hb)
  have Qa' := Aside0.mk (Qa.out.below hb)
  have Qbb' := Aside0.mk (Qbb.out.below hb)
  have Qxx' := Aside0.mk (Qxx.out.below hb)
  clear K1 K2 HB Qwant Qa Qbb Qxx hb
  have K1 := K1'
  clear K1'
  have K2 := K2'
  clear K2'
  have HB := HB'
  clear HB'
  have Qwant := Qwant'
  clear Qwant'
  have Qa := Qa'
  clear Qa'
  have Qbb := Qbb'
  clear Qbb'
  have Qxx := Qxx'
  clear Qxx'
  go_wp2_with (first | (go_at_call 99; fail) | fail)
  refine (num_call E1 W7).mono ?_
  rintro e W8 ⟨rfl, hb⟩
  have K1' : Aside0 (W8.heap[g1]? = some (.cells cs 24 (0, 0))) := ⟨blk_below K1.out hb⟩
  have K2' : Aside0 (W8.heap[g2]? = some (.cells ds 24 (0, 0))) := ⟨blk_below K2.out hb⟩
  have HB' : Aside0 (Below w.heap.size w W8) := ⟨HB.out.trans (hb.mono HB.out.size)⟩
  have Qwant' := Aside0.mk (Qwant.out.below hb)
  have Qa' := Aside0.mk (Qa.out.below hb)
  have Qbb' := Aside0.mk (Qbb.out.below hb)
  have Qxx' := Aside0.mk (Qxx.out.below hb)
  have Qyy' := Aside0.mk (Qyy.out.below hb)
  clear K1 K2 HB Qwant Qa Qbb Qxx Qyy hb
  have K1 := K1'
  clear K1'
  have K2 := K2'
  clear K2'
  have HB := HB'
  clear HB'
  have Qwant := Qwant'
  clear Qwant'
  have Qa := Qa'
  clear Qa'
  have Qbb := Qbb'
  clear Qbb'
  have Qxx := Qxx'
  clear Qxx'
  have Qyy := Qyy'
  clear Qyy'
  go_wp2_with fail
  refine (num_call E2 W8).mono ?_
  rintro e W9 ⟨rfl, hb⟩
  have K1' : Aside0 (W9.heap[g1]? = some (.cells cs 24 (0, 0))) := ⟨blk_below K1.out hb⟩
  have K2' : Aside0 (W9.heap[g2]? = some (.cells ds 24 (0, 0))) := ⟨blk_below K2.out hb⟩
  have HB' : Aside0 (Below w.heap.size w W9) := ⟨HB.out.trans (hb.mono HB.out.size)⟩
  have Qwant' := Aside0.mk (Qwant.out.below hb)
  have Qa' := Aside0.mk (Qa.out.below hb)
  have Qbb' := Aside0.mk (Qbb.out.below hb)
  have Qxx' := Aside0.mk (Qxx.out.below hb)
  have Qyy' := Aside0.mk (Qyy.out.below hb)
  clear K1 K2 HB Qwant Qa Qbb Qxx Qyy hb
  have K1 := K1'
  clear K1'
  have K2 := K2'
  clear K2'
  have HB := HB'
  clear HB'
  have Qwant := Qwant'
  clear Qwant'
  have Qa := Qa'
  clear Qa'
  have Qbb := Qbb'
  clear Qbb'
  have Qxx := Qxx'
  clear Qxx'
  have Qyy := Qyy'
  clear Qyy'
  go_wp2_with fail
  refine (same_call B1 hB1 Qa.out Qwant.out).mono ?_
  rintro e W10 ⟨rfl, hb⟩
  have K1' : Aside0 (W10.heap[g1]? = some (.cells cs 24 (0, 0))) := ⟨blk_below K1.out hb⟩
  have K2' : Aside0 (W10.heap[g2]? = some (.cells ds 24 (0, 0))) := ⟨blk_below K2.out hb⟩
  have HB' : Aside0 (Below w.heap.size w W10) := ⟨HB.out.trans (hb.mono HB.out.size)⟩
  have Qwant' := Aside0.mk (Qwant.out.below hb)
  have Qa' := Aside0.mk (Qa.out.below hb)
  have Qbb' := Aside0.mk (Qbb.out.below hb)
  have Qxx' := Aside0.mk (Qxx.out.below hb)
  have Qyy' := Aside0.mk (Qyy.out.below hb)
  clear K1 K2 HB Qwant Qa Qbb Qxx Qyy hb
  have K1 := K1'
  clear K1'
  have K2 := K2'
  clear K2'
  have HB := HB'
  clear HB'
  have Qwant := Qwant'
  clear Qwant'
  have Qa := Qa'
  clear Qa'
  have Qbb := Qbb'
  clear Qbb'
  have Qxx := Qxx'
  clear Qxx'
  have Qyy := Qyy'
  clear Qyy'
  go_wp2_with fail
  refine (same_call B2 hB2 Qxx.out Qyy.out).mono ?_
  rintro e W11 ⟨rfl, hb⟩
  have K1' : Aside0 (W11.heap[g1]? = some (.cells cs 24 (0, 0))) := ⟨blk_below K1.out hb⟩
  have K2' : Aside0 (W11.heap[g2]? = some (.cells ds 24 (0, 0))) := ⟨blk_below K2.out hb⟩
  have HB' : Aside0 (Below w.heap.size w W11) := ⟨HB.out.trans (hb.mono HB.out.size)⟩
  have Qwant' := Aside0.mk (Qwant.out.below hb)
  have Qa' := Aside0.mk (Qa.out.below hb)
  have Qbb' := Aside0.mk (Qbb.out.below hb)
  have Qxx' := Aside0.mk (Qxx.out.below hb)
  have Qyy' := Aside0.mk (Qyy.out.below hb)
  clear K1 K2 HB Qwant Qa Qbb Qxx Qyy hb
  have K1 := K1'
  clear K1'
  have K2 := K2'
  clear K2'
  have HB := HB'
  clear HB'
  have Qwant := Qwant'
  clear Qwant'
  have Qa := Qa'
  clear Qa'
  have Qbb := Qbb'
  clear Qbb'
  have Qxx := Qxx'
  clear Qxx'
  have Qyy := Qyy'
  clear Qyy'
  go_wp2_with fail
  refine (cofferbook_SpoilBytes.calls (B1.length + 82) (fun k => a.ownBlock = some k) a B1 w W11 HB.out ((Qa.out.low Ta.out).own (by unfold maxLen; omega)) (spoil_ends B1 hB1)).mono ?_
  rintro e W12 ⟨rfl, HB2, hK⟩
  have Qwant2 : Aside0 (Res W12 _ want B1) := ⟨Qwant.out.kept hK (fun k hk ha => by have h1 := Qal.out k ha; have h2 := Qwantl.out k hk; omega)⟩
  have Qbb2 : Aside0 (Res W12 _ bb B1) := ⟨Qbb.out.kept hK (fun k hk ha => by have h1 := Qal.out k ha; have h2 := Qbbl.out k hk; omega)⟩
  have Qxx2 : Aside0 (Res W12 _ xx B2) := ⟨Qxx.out.kept hK (fun k hk ha => by have h1 := Qal.out k ha; have h2 := Qxxl.out k hk; have := Sbb.out; omega)⟩
  have Qyy2 : Aside0 (Res W12 _ yy B2) := ⟨Qyy.out.kept hK (fun k hk ha => by have h1 := Qal.out k ha; have h2 := Qyyl.out k hk; have := Sbb.out; have := Sxx.out; omega)⟩
  have HBA := Aside0.mk HB2
  clear HB2 hK Qwant Qa Qbb Qxx Qyy HB K1 K2
  go_wp2_with fail
  refine (same_call B1 hB1 Qbb2.out Qwant2.out).mono ?_
  rintro e W13 ⟨rfl, hb⟩
  have Qxx3 := Aside0.mk (Qxx2.out.below hb)
  have Qyy3 := Aside0.mk (Qyy2.out.below hb)
  have HB3 := Aside0.mk (HBA.out.trans (hb.mono HBA.out.size))
  clear hb Qxx2 Qyy2 HBA
  go_wp2_with fail
  refine (same_call B2 hB2 Qxx3.out Qyy3.out).mono ?_
  rintro e W14 ⟨rfl, hb⟩
  have HB4 := Aside0.mk (HB3.out.trans (hb.mono HB3.out.size))
  clear hb
  go_wp2
  go_ret
  exact ⟨rfl, HB4.out⟩
end Go.Proofs.YtglcapkmeecknaaDoor.l03
