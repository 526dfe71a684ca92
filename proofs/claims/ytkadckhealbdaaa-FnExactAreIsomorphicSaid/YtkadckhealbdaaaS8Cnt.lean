/- What CountFaults, IsFree and FirstFault answer. No condition. -/
import Derived.Test.YtkadckhealbdaaaS8SS
namespace Go.Proofs.Ytkadckhealbdaaa
open Go Go.RowKit Eng Mem
def cntF (k : Int) (l : List Int) (kind : Int) : Int × Int := if IsPart k l ∧ 0 ≤ kind ∧ kind ≤ 2 then ((faR l kind 0 l.length).length, 0) else (0, 2)
def freeF (k : Int) (l : List Int) (kind : Int) : Bool × Int := if IsPart k l ∧ 0 ≤ kind ∧ kind ≤ 2 then (decide (faR l kind 0 l.length = []), 0) else (false, 2)
end Go.Proofs.Ytkadckhealbdaaa
