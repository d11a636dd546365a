/- The machine runs these calls (part 2). -/
import Derived.Test.YtpkngodkcopjbaaPolicyKnownK
import Derived.KernelRfl
namespace Go.Proofs.Ytpkngodkcopjbaa.policyKnown
open Hx Go
set_option maxRecDepth 100000
theorem Kq20 : valOf (evM (ctxOf Kit Kbt) 100000 [(11, [(Kk12, Kv12)])] 200 (.fn (.func 26) [] []) Kk20 emptyH) = some (.val Kv20) := by kernel_rfl
theorem Kq21 : valOf (evM (ctxOf Kit Kbt) 100000 [(11, [(Kk12, Kv12)])] 200 (.fn (.func 26) [] []) Kk21 emptyH) = some (.val Kv21) := by kernel_rfl
theorem Kq22 : valOf (evM (ctxOf Kit Kbt) 100000 [(11, [(Kk12, Kv12)])] 200 (.fn (.func 26) [] []) Kk22 emptyH) = some (.val Kv22) := by kernel_rfl
end Go.Proofs.Ytpkngodkcopjbaa.policyKnown
