/- The machine runs these calls (part 4). -/
import Derived.Test.YtfnagnhdghbdnaaExpectKnownK
import Derived.KernelRfl
namespace Go.Proofs.Ytfnagnhdghbdnaa.expectKnown
open Hx Go
set_option maxRecDepth 100000
theorem Kq17 : valOf (evM (ctxOf Kit Kbt) 100000 [] 200 (.fn (.func 24) [] []) Kk17 emptyH) = some (.val Kv17) := by kernel_rfl
theorem Kq18 : valOf (evM (ctxOf Kit Kbt) 100000 [(24, [(Kk9, Kv9), (Kk17, Kv17)]), (25, [(Kk10, Kv10)])] 200 (.fn (.func 12) [] []) Kk18 emptyH) = some (.val Kv18) := by kernel_rfl
theorem Kq19 : valOf (evM (ctxOf Kit Kbt) 100000 [(12, [(Kk18, Kv18)])] 200 (.fn (.func 8) [] []) Kk19 emptyH) = some (.val Kv19) := by kernel_rfl
theorem Kq20 : valOf (evM (ctxOf Kit Kbt) 100000 [(24, [(Kk9, Kv9), (Kk17, Kv17)]), (25, [(Kk10, Kv10)])] 200 (.fn (.func 12) [] []) Kk20 emptyH) = some (.val Kv20) := by kernel_rfl
theorem Kq21 : valOf (evM (ctxOf Kit Kbt) 100000 [(13, [(Kk15, Kv15)]), (12, [(Kk20, Kv20)])] 200 (.fn (.func 8) [] []) Kk21 emptyH) = some (.val Kv21) := by kernel_rfl
theorem Kq22 : valOf (evM (ctxOf Kit Kbt) 100000 [(24, [(Kk8, Kv8), (Kk17, Kv17)]), (25, [(Kk10, Kv10)])] 200 (.fn (.func 12) [] []) Kk22 emptyH) = some (.val Kv22) := by kernel_rfl
theorem Kq23 : valOf (evM (ctxOf Kit Kbt) 100000 [(12, [(Kk22, Kv22)])] 200 (.fn (.func 7) [] []) Kk23 emptyH) = some (.val Kv23) := by kernel_rfl
theorem Kq24 : valOf (evM (ctxOf Kit Kbt) 100000 [(24, [(Kk0, Kv0)])] 200 (.fn (.func 12) [] []) Kk24 emptyH) = some (.val Kv24) := by kernel_rfl
theorem Kq25 : valOf (evM (ctxOf Kit Kbt) 100000 [(24, [(Kk0, Kv0)])] 200 (.fn (.func 12) [] []) Kk25 emptyH) = some (.val Kv25) := by kernel_rfl
theorem Kq26 : valOf (evM (ctxOf Kit Kbt) 100000 [(12, [(Kk25, Kv25)])] 200 (.fn (.func 5) [] []) Kk26 emptyH) = some (.val Kv26) := by kernel_rfl
theorem Kq27 : valOf (evM (ctxOf Kit Kbt) 100000 [(24, [(Kk0, Kv0)]), (25, [(Kk10, Kv10)])] 200 (.fn (.func 12) [] []) Kk27 emptyH) = some (.val Kv27) := by kernel_rfl
theorem Kq28 : valOf (evM (ctxOf Kit Kbt) 100000 [(12, [(Kk27, Kv27)])] 200 (.fn (.func 5) [] []) Kk28 emptyH) = some (.val Kv28) := by kernel_rfl
theorem Kq29 : valOf (evM (ctxOf Kit Kbt) 100000 [(24, [(Kk0, Kv0)])] 200 (.fn (.func 12) [] []) Kk29 emptyH) = some (.val Kv29) := by kernel_rfl
theorem Kq30 : valOf (evM (ctxOf Kit Kbt) 100000 [(12, [(Kk29, Kv29)])] 200 (.fn (.func 7) [] []) Kk30 emptyH) = some (.val Kv30) := by kernel_rfl
theorem Kq31 : valOf (evM (ctxOf Kit Kbt) 100000 [(24, [(Kk0, Kv0), (Kk9, Kv9)])] 200 (.fn (.func 12) [] []) Kk31 emptyH) = some (.val Kv31) := by kernel_rfl
theorem Kq32 : valOf (evM (ctxOf Kit Kbt) 100000 [(12, [(Kk31, Kv31)])] 200 (.fn (.func 7) [] []) Kk32 emptyH) = some (.val Kv32) := by kernel_rfl
theorem Kq33 : valOf (evM (ctxOf Kit Kbt) 100000 [(25, [(Kk10, Kv10)]), (24, [(Kk17, Kv17)])] 200 (.fn (.func 12) [] []) Kk33 emptyH) = some (.val Kv33) := by kernel_rfl
theorem Kq34 : valOf (evM (ctxOf Kit Kbt) 100000 [(12, [(Kk33, Kv33)])] 200 (.fn (.func 5) [] []) Kk34 emptyH) = some (.val Kv34) := by kernel_rfl
theorem Kq35 : valOf (evM (ctxOf Kit Kbt) 100000 [(12, [(Kk1, Kv1)])] 200 (.fn (.func 6) [] []) Kk35 emptyH) = some (.val Kv35) := by kernel_rfl
theorem Kq36 : valOf (evM (ctxOf Kit Kbt) 100000 [(24, [(Kk0, Kv0)])] 200 (.fn (.func 12) [] []) Kk36 emptyH) = some (.val Kv36) := by kernel_rfl
theorem Kq37 : valOf (evM (ctxOf Kit Kbt) 100000 [] 200 (.fn (.func 13) [] []) Kk37 emptyH) = some (.val Kv37) := by kernel_rfl
end Go.Proofs.Ytfnagnhdghbdnaa.expectKnown
