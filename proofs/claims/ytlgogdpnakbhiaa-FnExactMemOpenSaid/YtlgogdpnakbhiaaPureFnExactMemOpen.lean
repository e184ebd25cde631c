/- The law FnExactMemOpen returns true. No condition. -/
import Derived.Test.YtlgogdpnakbhiaaHFnExactMemOpenx2
namespace Go.Proofs.Ytlgogdpnakbhiaa.Pure
open Go.RowKit Go.Proofs.Ytlgogdpnakbhiaa.HFnExactMemOpen Go.Proofs.YtlgogdpnakbhiaaW.PrintWords Go.Proofs.YtlgogdpnakbhiaaW.PrintLast
theorem FnExactMemOpen : laws_FnExactMemOpen.Pure := ⟨20, by kernel_rfl⟩
end Go.Proofs.Ytlgogdpnakbhiaa.Pure
