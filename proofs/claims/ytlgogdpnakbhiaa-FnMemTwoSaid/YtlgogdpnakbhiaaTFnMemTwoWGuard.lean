/- Words of the kit's print for this seat, those alone that this claim's theorem reaches. -/
import Derived.Test.YtlgogdpnakbhiaaTFnMemTwoWWords
/-! ### 58. A guarded operation whose guard is known to want it: the same goal without the guard -/
namespace Go.Proofs.YtlgogdpnakbhiaaW.PrintWords
open Go.RowKit
section
variable {P : Program} {ops : Array Oper} {rest : List Oper} {o : Oper} {a : Act} {Q : Exit → Act → World → Prop} {W : World}
end
end Go.Proofs.YtlgogdpnakbhiaaW.PrintWords
