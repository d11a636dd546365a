/- The machine runs these calls (part 0). -/
import Derived.Test.YtnkcimeebobjaaaDoorFitRoundsK
import Derived.KernelRfl
namespace Go.Proofs.YtnkcimeebobjaaaDoor.fitRounds
open Hx Go
set_option maxRecDepth 100000
theorem Kq0 : valOf (evM (ctxOf Kit Kbt Kex) 100000 [] 200 (.fn (.func 51) [] []) Kk0 emptyH) = some (.val Kv0) := by kernel_rfl
theorem Kq1 : valOf (evM (ctxOf Kit Kbt Kex) 100000 [] 200 (.fn (.func 84) [] []) Kk1 emptyH) = some (.val Kv1) := by kernel_rfl
theorem Kq2 : valOf (evM (ctxOf Kit Kbt Kex) 100000 [(51, [(Kk0, Kv0)]), (84, [(Kk1, Kv1)])] 200 (.fn (.func 65) [] []) Kk2 emptyH) = some (.val Kv2) := by kernel_rfl
theorem Kq3 : valOf (evM (ctxOf Kit Kbt Kex) 100000 [(65, [(Kk2, Kv2)])] 200 (.fn (.func 30) [] []) Kk3 emptyH) = some (.val Kv3) := by kernel_rfl
theorem Kq4 : valOf (evM (ctxOf Kit Kbt Kex) 100000 [(84, [(Kk1, Kv1)])] 200 (.fn (.func 65) [] []) Kk4 emptyH) = some (.val Kv4) := by kernel_rfl
theorem Kq5 : valOf (evM (ctxOf Kit Kbt Kex) 100000 [(65, [(Kk4, Kv4)])] 200 (.fn (.func 30) [] []) Kk5 emptyH) = some (.val Kv5) := by kernel_rfl
theorem Kq6 : valOf (evM (ctxOf Kit Kbt Kex) 100000 [(51, [(Kk0, Kv0)])] 200 (.fn (.func 19) [] []) Kk6 emptyH) = some (.val Kv6) := by kernel_rfl
theorem Kq7 : valOf (evM (ctxOf Kit Kbt Kex) 100000 [(51, [(Kk0, Kv0)])] 200 (.fn (.func 19) [] []) Kk7 emptyH) = some (.val Kv7) := by kernel_rfl
theorem Kq8 : valOf (evM (ctxOf Kit Kbt Kex) 100000 [] 200 (.fn (.func 37) [] []) Kk8 emptyH) = some (.val Kv8) := by kernel_rfl
theorem Kq9 : valOf (evM (ctxOf Kit Kbt Kex) 100000 [] 200 (.fn (.func 37) [] []) Kk9 emptyH) = some (.val Kv9) := by kernel_rfl
theorem Kq10 : valOf (evM (ctxOf Kit Kbt Kex) 100000 [] 200 (.fn (.func 37) [] []) Kk10 emptyH) = some (.val Kv10) := by kernel_rfl
theorem Kq11 : valOf (evM (ctxOf Kit Kbt Kex) 100000 [] 200 (.fn (.func 37) [] []) Kk11 emptyH) = some (.val Kv11) := by kernel_rfl
theorem Kq12 : valOf (evM (ctxOf Kit Kbt Kex) 100000 [(51, [(Kk0, Kv0)]), (30, [(Kk3, Kv3), (Kk5, Kv5)]), (19, [(Kk6, Kv6), (Kk7, Kv7)]), (37, [(Kk8, Kv8), (Kk9, Kv9), (Kk10, Kv10), (Kk11, Kv11)])] 200 (.fn (.func 14) [] []) Kk12 emptyH) = some (.val Kv12) := by kernel_rfl
end Go.Proofs.YtnkcimeebobjaaaDoor.fitRounds
