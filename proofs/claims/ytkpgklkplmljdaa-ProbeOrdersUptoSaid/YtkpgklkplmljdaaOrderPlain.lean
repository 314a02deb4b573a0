-- what probe.Order and cofferref15.Order compute: the keyslots of priority 2, sorted, and behind them those of priority 1, sorted
import Derived.Test.YtkpgklkplmljdaaPProbeOrdersx0
namespace Go.Proofs.Ytkpgklkplmljdaa.PProbeOrders
open Go.RowKit Go.Proofs.YtkpgklkplmljdaaW.PrintWords Go.Proofs.YtkpgklkplmljdaaW.PrintLast Go.Proofs.YtkpgklkplmljdaaW.PrintMore
set_option linter.unusedVariables false

def ordSel (p : Int) (l : List S45) : List Int := (l.filter (fun s => s.f1 == p)).map S45.f0
def ordSort (l : List Int) : List Int := l.mergeSort (fun x y => decide (x ≤ y))
def ordered (l : List S45) : List Int := ordSort (ordSel 2 l) ++ ordSort (ordSel 1 l)
/-- What is built when priority q is to be asked next. -/
def ordAt (q : Nat) (l : List S45) : List Int := if q = 2 then [] else if q = 1 then ordSort (ordSel 2 l) else ordered l
def probe_Order.f (a0_0 : ByteArray) (a0_1 : ByteArray) (a0_2 : ByteArray) (a0_3 : ByteArray) (a0_4 : Int) (a0_5 : Int) (a0_6 : Int) (a0_7 : Int) (a0_8 : Int) (a0_9 : ByteArray) (a0_10 : ByteArray) (l0_11 : List (S45)) (l0_12 : List (S99)) (l0_13 : List (S101)) (a0_14 : Bool) (a0_15 : Int) (a0_16 : Int) (a0_17 : Bool) (a0_18 : Int) (a0_19 : Int) (a0_20 : Int) (a0_21 : Int) (a0_22 : Int) (a0_23 : Bool) (a0_24 : Int) (a0_25 : ByteArray) (l0_26 : List (S103)) : Option (List Int) := if l0_11.length < 1099511627776 then some (ordered l0_11) else none
def cofferref15_Order.f (a0_0 : ByteArray) (a0_1 : ByteArray) (a0_2 : ByteArray) (a0_3 : ByteArray) (a0_4 : Int) (a0_5 : Int) (a0_6 : Int) (a0_7 : Int) (a0_8 : Int) (a0_9 : ByteArray) (a0_10 : ByteArray) (l0_11 : List (S45)) (l0_12 : List (S99)) (l0_13 : List (S101)) (a0_14 : Bool) (a0_15 : Int) (a0_16 : Int) (a0_17 : Bool) (a0_18 : Int) (a0_19 : Int) (a0_20 : Int) (a0_21 : Int) (a0_22 : Int) (a0_23 : Bool) (a0_24 : Int) (a0_25 : ByteArray) (l0_26 : List (S103)) : Option (List Int) := if l0_11.length < 1099511627776 then some (ordered l0_11) else none
end Go.Proofs.Ytkpgklkplmljdaa.PProbeOrders
