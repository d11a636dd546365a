/- The machine runs these calls (part 5). -/
import Derived.Test.YtpkngodkcopjbaaPolicyKnownK
import Derived.KernelRfl
namespace Go.Proofs.Ytpkngodkcopjbaa.policyKnown
open Hx Go
set_option maxRecDepth 100000
theorem Kq66 : valOf (evM (ctxOf Kit Kbt) 100000 [] 200 (.fn (.func 30) [] []) Kk66 emptyH) = some (.val Kv66) := by kernel_rfl
theorem Kq67 : valOf (evM (ctxOf Kit Kbt) 100000 [(15, [(Kk65, Kv65)]), (30, [(Kk66, Kv66)])] 200 (.fn (.func 11) [] []) Kk67 emptyH) = some (.val Kv67) := by kernel_rfl
theorem Kq68 : valOf (evM (ctxOf Kit Kbt) 100000 [(12, [(Kk64, Kv64)])] 200 (.fn (.func 15) [] []) Kk68 emptyH) = some (.val Kv68) := by kernel_rfl
theorem Kq69 : valOf (evM (ctxOf Kit Kbt) 100000 [] 200 (.fn (.func 30) [] []) Kk69 emptyH) = some (.val Kv69) := by kernel_rfl
theorem Kq70 : valOf (evM (ctxOf Kit Kbt) 100000 [(15, [(Kk68, Kv68)]), (30, [(Kk69, Kv69)])] 200 (.fn (.func 11) [] []) Kk70 emptyH) = some (.val Kv70) := by kernel_rfl
theorem Kq71 : valOf (evM (ctxOf Kit Kbt) 100000 [(11, [(Kk70, Kv70)])] 200 (.fn (.func 26) [] []) Kk71 emptyH) = some (.val Kv71) := by kernel_rfl
theorem Kq72 : valOf (evM (ctxOf Kit Kbt) 100000 [(11, [(Kk67, Kv67)])] 200 (.fn (.func 26) [] []) Kk72 emptyH) = some (.val Kv72) := by kernel_rfl
theorem Kq73 : valOf (evM (ctxOf Kit Kbt) 100000 [(11, [(Kk67, Kv67)])] 200 (.fn (.func 26) [] []) Kk73 emptyH) = some (.val Kv73) := by kernel_rfl
theorem Kq74 : valOf (evM (ctxOf Kit Kbt) 100000 [(11, [(Kk67, Kv67)])] 200 (.fn (.func 26) [] []) Kk74 emptyH) = some (.val Kv74) := by kernel_rfl
theorem Kq75 : valOf (evM (ctxOf Kit Kbt) 100000 [(12, [(Kk64, Kv64)])] 200 (.fn (.func 15) [] []) Kk75 emptyH) = some (.val Kv75) := by kernel_rfl
theorem Kq76 : valOf (evM (ctxOf Kit Kbt) 100000 [] 200 (.fn (.func 30) [] []) Kk76 emptyH) = some (.val Kv76) := by kernel_rfl
theorem Kq77 : valOf (evM (ctxOf Kit Kbt) 100000 [(15, [(Kk75, Kv75)]), (30, [(Kk76, Kv76)])] 200 (.fn (.func 11) [] []) Kk77 emptyH) = some (.val Kv77) := by kernel_rfl
theorem Kq78 : valOf (evM (ctxOf Kit Kbt) 100000 [(11, [(Kk77, Kv77)])] 200 (.fn (.func 26) [] []) Kk78 emptyH) = some (.val Kv78) := by kernel_rfl
end Go.Proofs.Ytpkngodkcopjbaa.policyKnown
