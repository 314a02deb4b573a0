/- A line's options, as the print's words say a row. (Merged by merge.py.) -/
import Derived.Test.YtkoldjmhcifpjaaMH
/-! ## OptRow -/
namespace Go.Proofs.Ytkoldjmhcifpjaa.optrow
open Go Go.RowKit Go.Proofs.Ytkoldjmhcifpjaa.parsep Go.Proofs.Ytkoldjmhcifpjaa.readi Go.Proofs.Ytkoldjmhcifpjaa.PShellReads Go.Proofs.YtkoldjmhcifpjaaW.PrintWords
set_option linter.unusedVariables false
def so (x : Bs × Bs) : S34 := ⟨⟨x.1.toArray⟩, ⟨x.2.toArray⟩⟩
theorem oc_reps {R : S34 → List Value → Prop} (hR : ∀ x : S34, R x [.string x.f0, .string x.f1]) : ∀ xs : List (Bs × Bs), Reps R 2 (xs.map so) (oc xs)
  | [] => Reps.none _ _
  | (k, v) :: t => by
    have ih := oc_reps hR t
    refine ⟨by simp [oc, oc_len t]; omega, fun j p hp => ?_⟩
    cases j with
    | zero =>
      simp at hp
      rw [← hp]
      exact hR _
    | succ j =>
      have h2 := ih.2 j p (by simpa using hp)
      have e : (oc ((k, v) :: t)).drop ((j + 1) * 2) = (oc t).drop (j * 2) := by
        rw [show (j + 1) * 2 = j * 2 + 2 by omega]
        rfl
      rw [e]
      exact h2
theorem row_R {w : World} {base : Nat} {v : Value} {xs : List (Bs × Bs)} (h : w.ownsRow base 34 2 v xs.length (oc xs)) : Kd.R k34 34 w base (fun _ => True) v (xs.map so) :=
  ⟨fun _ _ => trivial, oc xs, by rw [List.length_map]; exact h, oc_reps (fun x => k34_mkM _ _ _ x) xs⟩
end Go.Proofs.Ytkoldjmhcifpjaa.optrow
