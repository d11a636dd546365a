/- The machine runs these calls (part 3). -/
import Derived.Test.YtpkngodkcopjbaaPolicyKnownK
import Derived.KernelRfl
namespace Go.Proofs.Ytpkngodkcopjbaa.policyKnown
open Hx Go
set_option maxRecDepth 100000
theorem Kq23 : valOf (evM (ctxOf Kit Kbt) 100000 [(11, [(Kk12, Kv12)])] 200 (.fn (.func 26) [] []) Kk23 emptyH) = some (.val Kv23) := by kernel_rfl
theorem Kq24 : valOf (evM (ctxOf Kit Kbt) 100000 [(11, [(Kk12, Kv12)])] 200 (.fn (.func 26) [] []) Kk24 emptyH) = some (.val Kv24) := by kernel_rfl
theorem Kq25 : valOf (evM (ctxOf Kit Kbt) 100000 [(12, [(Kk9, Kv9)]), (11, [(Kk12, Kv12)])] 200 (.fn (.func 13) [] []) Kk25 emptyH) = some (.val Kv25) := by kernel_rfl
theorem Kq26 : valOf (evM (ctxOf Kit Kbt) 100000 [(12, [(Kk9, Kv9)])] 200 (.fn (.func 15) [] []) Kk26 emptyH) = some (.val Kv26) := by kernel_rfl
end Go.Proofs.Ytpkngodkcopjbaa.policyKnown
