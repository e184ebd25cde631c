/- Words of the kit's print for this seat, those alone that this claim's theorem reaches. -/
import Derived.Test.YtlgogdpnakbhiaaTFnMemTwoWInv
import Derived.Test.YtlgogdpnakbhiaaTFnMemTwoWFootNe
namespace Go.Proofs.YtlgogdpnakbhiaaW.PrintWords
open Go.RowKit
end Go.Proofs.YtlgogdpnakbhiaaW.PrintWords
namespace Go.Proofs.YtlgogdpnakbhiaaW.PrintLast
section
variable {ops : Array Oper} {a : Act} {o og : Oper} {g : Nat} {t : Tmp} {u : Bool}
end
end Go.Proofs.YtlgogdpnakbhiaaW.PrintLast
