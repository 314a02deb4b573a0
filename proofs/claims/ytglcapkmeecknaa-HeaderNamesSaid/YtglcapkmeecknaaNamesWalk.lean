/- A closed sentence: the walk of the Go text of HeaderNames returns true; nothing is written. No condition. -/
import Derived.Test.YtglcapkmeecknaaRows
import Derived.WalkKit
import Derived.Below
namespace Go.Proofs.Ytglcapkmeecknaa.names
open Go.RowKit
theorem walk (w : World) : Calls Try.prog 3 #[] w fun e w' => e = .returned (.bool true) ∧ Below w.heap.size w w' := by
  go_enter Try.func3, Try.ntmps3
  go_wp2
  go_ret
  exact ⟨rfl, Below.refl _ _⟩
end Go.Proofs.Ytglcapkmeecknaa.names
