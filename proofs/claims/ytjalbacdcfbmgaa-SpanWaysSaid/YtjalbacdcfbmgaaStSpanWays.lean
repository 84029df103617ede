/- What is left of SpanWays: a statement over lists and numbers. -/
import Derived.Test.YtjalbacdcfbmgaaPx12
import Derived.Test.YtjalbacdcfbmgaaXOpens
namespace Go.Proofs.Ytjalbacdcfbmgaa.P
open Go.RowKit Go.Proofs.YtjalbacdcfbmgaaW.PrintWords Go.Proofs.YtjalbacdcfbmgaaW.PrintLast Go.Proofs.YtjalbacdcfbmgaaW.PrintMore
def SpanWays_Pure : Prop := ∀ (a0 : Int) (l1 : List S31) (a2 : Int) (a3 : Int), (Lit.int .i64 a0).wf = true → l1.length ≤ 9223372036854775807 → (∀ x ∈ l1, wf31 x) → (Lit.int .i64 a2).wf = true → (Lit.int .i64 a3).wf = true → ∃ k, croftlaw42_SpanWays.f k a0 l1 a2 a3 = some true
end Go.Proofs.Ytjalbacdcfbmgaa.P
