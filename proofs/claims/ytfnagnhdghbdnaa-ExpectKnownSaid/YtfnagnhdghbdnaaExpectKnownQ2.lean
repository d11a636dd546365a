/- The machine runs these calls (part 2). -/
import Derived.Test.YtfnagnhdghbdnaaExpectKnownK
import Derived.KernelRfl
namespace Go.Proofs.Ytfnagnhdghbdnaa.expectKnown
open Hx Go
set_option maxRecDepth 100000
theorem Kq14 : valOf (evM (ctxOf Kit Kbt) 100000 [(24, [(Kk8, Kv8), (Kk9, Kv9)]), (25, [(Kk10, Kv10)])] 200 (.fn (.func 12) [] []) Kk14 emptyH) = some (.val Kv14) := by kernel_rfl
theorem Kq15 : valOf (evM (ctxOf Kit Kbt) 100000 [] 200 (.fn (.func 13) [] []) Kk15 emptyH) = some (.val Kv15) := by kernel_rfl
end Go.Proofs.Ytfnagnhdghbdnaa.expectKnown
