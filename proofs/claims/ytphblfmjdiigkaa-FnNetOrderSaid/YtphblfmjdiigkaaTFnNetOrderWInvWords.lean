/- Words of the kit's print for this seat, those alone that this claim's theorem reaches. -/
import Derived.Test.YtphblfmjdiigkaaTFnNetOrderWInv
import Derived.Test.YtphblfmjdiigkaaTFnNetOrderWFootNe
namespace Go.Proofs.YtphblfmjdiigkaaW.PrintWords
open Go.RowKit
end Go.Proofs.YtphblfmjdiigkaaW.PrintWords
namespace Go.Proofs.YtphblfmjdiigkaaW.PrintLast
section
variable {ops : Array Oper} {a : Act} {o og : Oper} {g : Nat} {t : Tmp} {u : Bool}
end
end Go.Proofs.YtphblfmjdiigkaaW.PrintLast
