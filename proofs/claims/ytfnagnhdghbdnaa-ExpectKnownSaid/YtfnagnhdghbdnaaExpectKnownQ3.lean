/- The machine runs these calls (part 3). -/
import Derived.Test.YtfnagnhdghbdnaaExpectKnownK
import Derived.KernelRfl
namespace Go.Proofs.Ytfnagnhdghbdnaa.expectKnown
open Hx Go
set_option maxRecDepth 100000
theorem Kq16 : valOf (evM (ctxOf Kit Kbt) 100000 [(12, [(Kk14, Kv14)]), (13, [(Kk15, Kv15)])] 200 (.fn (.func 8) [] []) Kk16 emptyH) = some (.val Kv16) := by kernel_rfl
end Go.Proofs.Ytfnagnhdghbdnaa.expectKnown
