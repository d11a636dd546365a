/- The machine runs these calls (part 0). -/
import Derived.Test.YtpkngodkcopjbaaPolicyKnownK
import Derived.KernelRfl
namespace Go.Proofs.Ytpkngodkcopjbaa.policyKnown
open Hx Go
set_option maxRecDepth 100000
theorem Kq0 : valOf (evM (ctxOf Kit Kbt) 100000 [] 200 (.fn (.func 31) [] []) Kk0 emptyH) = some (.val Kv0) := by kernel_rfl
theorem Kq1 : valOf (evM (ctxOf Kit Kbt) 100000 [(31, [(Kk0, Kv0)])] 200 (.fn (.func 12) [] []) Kk1 emptyH) = some (.val Kv1) := by kernel_rfl
theorem Kq2 : valOf (evM (ctxOf Kit Kbt) 100000 [(12, [(Kk1, Kv1)])] 200 (.fn (.func 20) [] []) Kk2 emptyH) = some (.val Kv2) := by kernel_rfl
theorem Kq3 : valOf (evM (ctxOf Kit Kbt) 100000 [(12, [(Kk1, Kv1)])] 200 (.fn (.func 15) [] []) Kk3 emptyH) = some (.val Kv3) := by kernel_rfl
theorem Kq4 : valOf (evM (ctxOf Kit Kbt) 100000 [(15, [(Kk3, Kv3)])] 200 (.fn (.func 11) [] []) Kk4 emptyH) = some (.val Kv4) := by kernel_rfl
theorem Kq5 : valOf (evM (ctxOf Kit Kbt) 100000 [(11, [(Kk4, Kv4)])] 200 (.fn (.func 10) [] []) Kk5 emptyH) = some (.val Kv5) := by kernel_rfl
theorem Kq6 : valOf (evM (ctxOf Kit Kbt) 100000 [(12, [(Kk1, Kv1)]), (20, [(Kk2, Kv2)]), (11, [(Kk4, Kv4)]), (10, [(Kk5, Kv5)])] 200 (.fn (.func 4) [] []) Kk6 emptyH) = some (.val Kv6) := by kernel_rfl
theorem Kq7 : valOf (evM (ctxOf Kit Kbt) 100000 [] 200 (.fn (.func 31) [] []) Kk7 emptyH) = some (.val Kv7) := by kernel_rfl
theorem Kq8 : valOf (evM (ctxOf Kit Kbt) 100000 [] 200 (.fn (.func 35) [] []) Kk8 emptyH) = some (.val Kv8) := by kernel_rfl
theorem Kq9 : valOf (evM (ctxOf Kit Kbt) 100000 [(31, [(Kk7, Kv7)]), (35, [(Kk8, Kv8)])] 200 (.fn (.func 12) [] []) Kk9 emptyH) = some (.val Kv9) := by kernel_rfl
theorem Kq10 : valOf (evM (ctxOf Kit Kbt) 100000 [(12, [(Kk9, Kv9)])] 200 (.fn (.func 15) [] []) Kk10 emptyH) = some (.val Kv10) := by kernel_rfl
theorem Kq11 : valOf (evM (ctxOf Kit Kbt) 100000 [] 200 (.fn (.func 30) [] []) Kk11 emptyH) = some (.val Kv11) := by kernel_rfl
theorem Kq12 : valOf (evM (ctxOf Kit Kbt) 100000 [(15, [(Kk10, Kv10)]), (30, [(Kk11, Kv11)])] 200 (.fn (.func 11) [] []) Kk12 emptyH) = some (.val Kv12) := by kernel_rfl
theorem Kq13 : valOf (evM (ctxOf Kit Kbt) 100000 [(12, [(Kk9, Kv9)])] 200 (.fn (.func 15) [] []) Kk13 emptyH) = some (.val Kv13) := by kernel_rfl
theorem Kq14 : valOf (evM (ctxOf Kit Kbt) 100000 [] 200 (.fn (.func 30) [] []) Kk14 emptyH) = some (.val Kv14) := by kernel_rfl
theorem Kq15 : valOf (evM (ctxOf Kit Kbt) 100000 [(15, [(Kk13, Kv13)]), (30, [(Kk14, Kv14)])] 200 (.fn (.func 11) [] []) Kk15 emptyH) = some (.val Kv15) := by kernel_rfl
theorem Kq16 : valOf (evM (ctxOf Kit Kbt) 100000 [(11, [(Kk15, Kv15)])] 200 (.fn (.func 26) [] []) Kk16 emptyH) = some (.val Kv16) := by kernel_rfl
end Go.Proofs.Ytpkngodkcopjbaa.policyKnown
