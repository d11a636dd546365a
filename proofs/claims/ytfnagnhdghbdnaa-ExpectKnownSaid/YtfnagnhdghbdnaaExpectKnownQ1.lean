/- The machine runs these calls (part 1). -/
import Derived.Test.YtfnagnhdghbdnaaExpectKnownK
import Derived.KernelRfl
namespace Go.Proofs.Ytfnagnhdghbdnaa.expectKnown
open Hx Go
set_option maxRecDepth 100000
theorem Kq13 : valOf (evM (ctxOf Kit Kbt) 100000 [(12, [(Kk11, Kv11)]), (13, [(Kk12, Kv12)])] 200 (.fn (.func 8) [] []) Kk13 emptyH) = some (.val Kv13) := by kernel_rfl
end Go.Proofs.Ytfnagnhdghbdnaa.expectKnown
