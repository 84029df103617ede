/- What is left of SweepAdds: a statement over lists and numbers. -/
import Derived.Test.YtjehhfhkbboamaaPx11
import Derived.Test.YtjehhfhkbboamaaXOpens
namespace Go.Proofs.Ytjehhfhkbboamaa.P
open Go.RowKit Go.Proofs.YtjehhfhkbboamaaW.PrintWords Go.Proofs.YtjehhfhkbboamaaW.PrintLast Go.Proofs.YtjehhfhkbboamaaW.PrintMore
def SweepAdds_Pure : Prop := ∀ (x0 : S28) (a1 : Int) (x2 : S28), wf28 x0 → (Lit.int .u32 a1).wf = true → wf28 x2 → ∃ k, croftlaw39_SweepAdds.f k x0.f0 x0.f1 x0.f2 x0.f3 a1 x2.f0 x2.f1 x2.f2 x2.f3 = some true
end Go.Proofs.Ytjehhfhkbboamaa.P
