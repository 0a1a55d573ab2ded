/- lives answers true: the documented examples, reckoned. -/
import Derived.Test.YtjpgommmkjgddaaDoorMFrac
import Derived.Test.YtjpgommmkjgddaaDoorPx12
namespace Go.Proofs.YtjpgommmkjgddaaDoor.Pure
open Go.RowKit Go.Proofs.YtjpgommmkjgddaaDoor.P Go.Proofs.YtjpgommmkjgddaaDoorW.PrintWords Go.Proofs.YtjpgommmkjgddaaDoorW.PrintLast Go.Proofs.YtjpgommmkjgddaaDoorW.PrintMore
set_option maxRecDepth 100000 in
theorem lives03 : Ev (fun k => intervalmonlaw03_lives.f k) true :=
  Ev.of intervalmonlaw03_lives.mono (k := 30) (by decide +kernel)
end Go.Proofs.YtjpgommmkjgddaaDoor.Pure
