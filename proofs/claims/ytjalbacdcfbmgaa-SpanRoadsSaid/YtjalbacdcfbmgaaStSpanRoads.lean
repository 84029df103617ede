/- What is left of SpanRoads: a statement over lists and numbers. -/
import Derived.Test.YtjalbacdcfbmgaaPx7
import Derived.Test.YtjalbacdcfbmgaaXOpens
namespace Go.Proofs.Ytjalbacdcfbmgaa.P
open Go.RowKit Go.Proofs.YtjalbacdcfbmgaaW.PrintWords Go.Proofs.YtjalbacdcfbmgaaW.PrintLast Go.Proofs.YtjalbacdcfbmgaaW.PrintMore
def SpanRoads_Pure : Prop := ∀ (l0 : List S36), l0.length ≤ 9223372036854775807 → (∀ x ∈ l0, wf36 x) → ∃ k, croftlaw42_SpanRoads.f k l0 = some true
end Go.Proofs.Ytjalbacdcfbmgaa.P
