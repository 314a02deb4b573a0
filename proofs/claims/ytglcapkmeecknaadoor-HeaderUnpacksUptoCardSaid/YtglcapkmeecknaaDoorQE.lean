/- What Unpack tells, in its shape; '==' of two copies. (Merged by merge.py.) -/
import Derived.Test.YtglcapkmeecknaaDoorQU
import Derived.Test.YtglcapkmeecknaaDoorWEqStruct
/-! ## EqV -/
namespace Go.Proofs.YtglcapkmeecknaaDoor.eqv
open Go Go.RowKit Go.Proofs.YtglcapkmeecknaaDoor.u13 Go.Proofs.YtglcapkmeecknaaDoor.sha Go.Proofs.YtglcapkmeecknaaDoor.tk Go.Proofs.YtglcapkmeecknaaDoorW.PrintWords
set_option linter.unusedVariables false
set_option linter.unusedSimpArgs false
theorem unV_form (kf : Nat → BitVec 32) (x : St) (sec : Bool) (b : List Int) : ∃ (y0 : Bool) (y1 y2 : Int) (y3 y4 y5 y6 y7 : ByteArray), unV kf x sec b = #[.bool y0, .int .i64 y1, .int .u64 y2, .string y3, .string y4, .string y5, .string y6, .string y7] := by
  unfold unV
  split
  · exact ⟨_, _, _, _, _, _, _, _, rfl⟩
  · exact ⟨_, _, _, _, _, _, _, _, rfl⟩
theorem eqA24 (d : Nat) (w : World) (x0 y0 : Bool) (x1 y1 x2 y2 : Int) (x3 y3 x4 y4 x5 y5 x6 y6 x7 y7 : ByteArray) :
    (Op.equalIn (d + 2) 24 (.agg #[.bool x0, .int .i64 x1, .int .u64 x2, .string x3, .string x4, .string x5, .string x6, .string x7]) (.agg #[.bool y0, .int .i64 y1, .int .u64 y2, .string y3, .string y4, .string y5, .string y6, .string y7])).run Tryd.prog w = .ok (x0 == y0 && (x1 == y1 && (x2 == y2 && (x3.toList == y3.toList && (x4.toList == y4.toList && (x5.toList == y5.toList && (x6.toList == y6.toList && (x7.toList == y7.toList)))))))) w := by
  refine eqA_of Tryd.underlying24 (by kernel_rfl) ?_
  refine eqf_cons (by rfl) (by go_simp; rfl) (by go_simp; rfl) (by go_simp) ?_
  refine eqf_cons (by rfl) (by go_simp; rfl) (by go_simp; rfl) (by go_simp) ?_
  refine eqf_cons (by rfl) (by go_simp; rfl) (by go_simp; rfl) (by go_simp) ?_
  refine eqf_cons (by rfl) (by go_simp; rfl) (by go_simp; rfl) (by go_simp) ?_
  refine eqf_cons (by rfl) (by go_simp; rfl) (by go_simp; rfl) (by go_simp) ?_
  refine eqf_cons (by rfl) (by go_simp; rfl) (by go_simp; rfl) (by go_simp) ?_
  refine eqf_cons (by rfl) (by go_simp; rfl) (by go_simp; rfl) (by go_simp) ?_
  exact eqf_last (by rfl) (by go_simp; rfl) (by go_simp; rfl) (by go_simp)
theorem eqS24 (d : Nat) (w : World) (x0 : Bool) (x1 x2 : Int) (x3 x4 x5 x6 x7 : ByteArray) :
    (Op.equalIn (d + 2) 24 (.agg #[.bool x0, .int .i64 x1, .int .u64 x2, .string x3, .string x4, .string x5, .string x6, .string x7]) (.agg #[.bool x0, .int .i64 x1, .int .u64 x2, .string x3, .string x4, .string x5, .string x6, .string x7])).run Tryd.prog w = .ok true w := by
  rw [eqA24]; simp
end Go.Proofs.YtglcapkmeecknaaDoor.eqv
