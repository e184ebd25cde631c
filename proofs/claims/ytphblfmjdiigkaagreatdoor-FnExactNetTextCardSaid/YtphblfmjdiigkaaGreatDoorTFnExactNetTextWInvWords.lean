/- Words of the kit's print for this seat, those alone that this claim's theorem reaches. -/
import Derived.Test.YtphblfmjdiigkaaGreatDoorTFnExactNetTextWInv
import Derived.Test.YtphblfmjdiigkaaGreatDoorTFnExactNetTextWFootNe
namespace Go.Proofs.YtphblfmjdiigkaaGreatDoorW.PrintWords
open Go.RowKit
end Go.Proofs.YtphblfmjdiigkaaGreatDoorW.PrintWords
namespace Go.Proofs.YtphblfmjdiigkaaGreatDoorW.PrintLast
section
variable {ops : Array Oper} {a : Act} {o og : Oper} {g : Nat} {t : Tmp} {u : Bool}
end
end Go.Proofs.YtphblfmjdiigkaaGreatDoorW.PrintLast
