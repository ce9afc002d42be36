/- The one pure statement of the law QuantaMeans: over numbers and lists alone. -/
import Derived.Test.YtjplkbeolakbjaaPQuantaMeansx
namespace Go.Proofs.Ytjplkbeolakbjaa.Pure
open Go.RowKit Go.Proofs.Ytjplkbeolakbjaa.PQuantaMeans Go.Proofs.YtjplkbeolakbjaaW.PrintWords Go.Proofs.YtjplkbeolakbjaaW.PrintLast Go.Proofs.YtjplkbeolakbjaaW.PrintMore
def QuantaMeansPure : Prop := ∀ (a0_0 : Int) (a0_1 : Int) (a0_2 : Bool), ((Lit.int .i64 a0_0).wf = true) → ((Lit.int .i64 a0_1).wf = true) → ∃ k, spylaw3_QuantaMeans.f k a0_0 a0_1 a0_2 = some true
end Go.Proofs.Ytjplkbeolakbjaa.Pure
