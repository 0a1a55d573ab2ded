/- lives answers true: the documented examples, reckoned. -/
import Derived.Test.YtcamljlhdejmmaaMB
import Derived.Test.YtcamljlhdejmmaaPx6
namespace Go.Proofs.Ytcamljlhdejmmaa.Pure
open Go.RowKit Go.Proofs.Ytcamljlhdejmmaa.P Go.Proofs.YtcamljlhdejmmaaW.PrintWords Go.Proofs.YtcamljlhdejmmaaW.PrintLast Go.Proofs.YtcamljlhdejmmaaW.PrintMore
set_option maxRecDepth 100000 in
theorem lives29 : Ev (fun k => intervalmonlaw29_lives.f k) true :=
  Ev.of intervalmonlaw29_lives.mono (k := 30) (by decide +kernel)
end Go.Proofs.Ytcamljlhdejmmaa.Pure
