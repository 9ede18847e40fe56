import Derived.Test.YtldjfonpegffiaaQx0
import Derived.Test.YtldjfonpegffiaaQOpens
namespace Go.Proofs.Ytldjfonpegffiaa.Q
open Go.RowKit Go.Proofs.Ytldjfonpegffiaa.Q Go.Proofs.YtldjfonpegffiaaW.PrintWords Go.Proofs.YtldjfonpegffiaaW.PrintLast Go.Proofs.YtldjfonpegffiaaW.PrintMore
end Go.Proofs.Ytldjfonpegffiaa.Q
