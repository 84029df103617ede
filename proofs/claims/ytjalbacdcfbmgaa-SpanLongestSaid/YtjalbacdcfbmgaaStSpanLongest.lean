/- What is left of SpanLongest: a statement over lists and numbers. -/
import Derived.Test.YtjalbacdcfbmgaaPx9
import Derived.Test.YtjalbacdcfbmgaaXOpens
namespace Go.Proofs.Ytjalbacdcfbmgaa.P
open Go.RowKit Go.Proofs.YtjalbacdcfbmgaaW.PrintWords Go.Proofs.YtjalbacdcfbmgaaW.PrintLast Go.Proofs.YtjalbacdcfbmgaaW.PrintMore
def SpanLongest_Pure : Prop := ∀ (l0 : List S31), l0.length ≤ 9223372036854775807 → (∀ x ∈ l0, wf31 x) → ∃ k, croftlaw42_SpanLongest.f k l0 = some true
end Go.Proofs.Ytjalbacdcfbmgaa.P
