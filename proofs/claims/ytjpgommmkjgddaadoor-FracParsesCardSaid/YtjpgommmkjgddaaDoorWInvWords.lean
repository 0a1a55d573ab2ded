-- PRINTED BY print.sh 35421559b90ae4d0a3588c463048766b98c2df88dd9212a6774a882060cdf62d: not written by this session
import Derived.Test.YtjpgommmkjgddaaDoorWInv
import Derived.Test.YtjpgommmkjgddaaDoorWFootNe
namespace Go.Proofs.YtjpgommmkjgddaaDoorW.PrintWords
open Go.RowKit
end Go.Proofs.YtjpgommmkjgddaaDoorW.PrintWords
namespace Go.Proofs.YtjpgommmkjgddaaDoorW.PrintLast
section
variable {ops : Array Oper} {a : Act} {o og : Oper} {g : Nat} {t : Tmp} {u : Bool}
end
end Go.Proofs.YtjpgommmkjgddaaDoorW.PrintLast
