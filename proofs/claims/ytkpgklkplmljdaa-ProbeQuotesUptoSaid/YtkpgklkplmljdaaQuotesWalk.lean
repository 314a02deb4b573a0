/- probe.Quote and the document's Quote give the same text: the walk of the law ProbeQuotes. The text has at most 1048576 bytes. -/
import Derived.Test.YtkpgklkplmljdaaRows
import Derived.Test.YtkpgklkplmljdaaQuoteWalk
import Derived.Test.YtkpgklkplmljdaaRefQuote
namespace Go.Proofs.Ytkpgklkplmljdaa.quote
open Go.RowKit
set_option maxRecDepth 100000 in
theorem law_walk (s : ByteArray) (w : World) (hs : s.size ≤ 1048576) :
    Calls Try.prog 4 #[.string s] w fun e w' => e = .returned (.bool true) ∧ Below w.heap.size w w' := by
  go_enter Try.func4, Try.ntmps4
  go_wp2_with fail
  refine (quote_walk s _ hs).mono ?_
  rintro e W1 ⟨rfl, b1⟩
  go_wp2_with fail
  refine (rquote_walk s _ hs).mono ?_
  rintro e W2 ⟨rfl, b2⟩
  go_wp2
  go_ret
  exact ⟨rfl, b1.trans (b2.mono b1.size)⟩
end Go.Proofs.Ytkpgklkplmljdaa.quote
