/- The machine runs these calls (part 1). -/
import Derived.Test.YtpkngodkcopjbaaPolicyKnownK
import Derived.KernelRfl
namespace Go.Proofs.Ytpkngodkcopjbaa.policyKnown
open Hx Go
set_option maxRecDepth 100000
theorem Kq17 : valOf (evM (ctxOf Kit Kbt) 100000 [(11, [(Kk12, Kv12)])] 200 (.fn (.func 26) [] []) Kk17 emptyH) = some (.val Kv17) := by kernel_rfl
theorem Kq18 : valOf (evM (ctxOf Kit Kbt) 100000 [(11, [(Kk12, Kv12)])] 200 (.fn (.func 26) [] []) Kk18 emptyH) = some (.val Kv18) := by kernel_rfl
theorem Kq19 : valOf (evM (ctxOf Kit Kbt) 100000 [(11, [(Kk12, Kv12)])] 200 (.fn (.func 26) [] []) Kk19 emptyH) = some (.val Kv19) := by kernel_rfl
end Go.Proofs.Ytpkngodkcopjbaa.policyKnown
