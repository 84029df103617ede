/- What is left of SweepTells: a statement over lists and numbers. -/
import Derived.Test.YtjehhfhkbboamaaPx8
import Derived.Test.YtjehhfhkbboamaaXOpens
namespace Go.Proofs.Ytjehhfhkbboamaa.P
open Go.RowKit Go.Proofs.YtjehhfhkbboamaaW.PrintWords Go.Proofs.YtjehhfhkbboamaaW.PrintLast Go.Proofs.YtjehhfhkbboamaaW.PrintMore
def SweepTells_Pure : Prop := ∀ (l0 : List S28), l0.length ≤ 9223372036854775807 → (∀ x ∈ l0, wf28 x) → ∃ k, croftlaw39_SweepTells.f k l0 = some true
end Go.Proofs.Ytjehhfhkbboamaa.P
