import Derived.Test.YtldjfonpegffiaaQx6
import Derived.Test.YtldjfonpegffiaaQArg
namespace Go.Proofs.Ytldjfonpegffiaa.Q
open Go.RowKit
open Go.RowKit Go.Proofs.Ytldjfonpegffiaa.Q Go.Proofs.YtldjfonpegffiaaW.PrintWords Go.Proofs.YtldjfonpegffiaaW.PrintLast Go.Proofs.YtldjfonpegffiaaW.PrintMore
/-- The pure statement of laws_FnExactDiskNew. -/
def laws_FnExactDiskNew.Pure : Prop := ∃ k, laws_FnExactDiskNew.f k  = some true
end Go.Proofs.Ytldjfonpegffiaa.Q
