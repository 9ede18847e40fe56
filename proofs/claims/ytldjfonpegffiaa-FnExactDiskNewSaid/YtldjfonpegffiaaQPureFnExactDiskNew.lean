/- The pure statement of FnExactDiskNew: a closed computation. -/
import Derived.Test.YtldjfonpegffiaaQStFnExactDiskNew
namespace Go.Proofs.Ytldjfonpegffiaa.Pure
open Go.RowKit
open Go.RowKit Go.Proofs.Ytldjfonpegffiaa.Q Go.Proofs.YtldjfonpegffiaaW.PrintWords Go.Proofs.YtldjfonpegffiaaW.PrintLast Go.Proofs.YtldjfonpegffiaaW.PrintMore
theorem FnExactDiskNew : laws_FnExactDiskNew.Pure := ⟨128, by decide +kernel⟩
end Go.Proofs.Ytldjfonpegffiaa.Pure
