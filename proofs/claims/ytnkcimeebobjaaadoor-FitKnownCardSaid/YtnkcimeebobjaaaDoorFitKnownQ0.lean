/- The machine runs these calls (part 0). -/
import Derived.Test.YtnkcimeebobjaaaDoorFitKnownK
import Derived.KernelRfl
namespace Go.Proofs.YtnkcimeebobjaaaDoor.fitKnown
open Hx Go
set_option maxRecDepth 100000
theorem Kq1 : valOf (evM (ctxOf Kit Kbt Kex) 100000 [] 200 (.fn (.func 51) [] []) Kk1 emptyH) = some (.val Kv1) := by kernel_rfl
theorem Kq2 : valOf (evM (ctxOf Kit Kbt Kex) 100000 [] 200 (.fn (.func 51) [] []) Kk2 emptyH) = some (.val Kv2) := by kernel_rfl
theorem Kq3 : valOf (evM (ctxOf Kit Kbt Kex) 100000 [(51, [(Kk2, Kv2)])] 200 (.fn (.func 19) [] []) Kk3 emptyH) = some (.val Kv3) := by kernel_rfl
theorem Kq4 : valOf (evM (ctxOf Kit Kbt Kex) 100000 [(51, [(Kk2, Kv2)])] 200 (.fn (.func 19) [] []) Kk4 emptyH) = some (.val Kv4) := by kernel_rfl
theorem Kq5 : valOf (evM (ctxOf Kit Kbt Kex) 100000 [(51, [(Kk2, Kv2)])] 200 (.fn (.func 19) [] []) Kk5 emptyH) = some (.val Kv5) := by kernel_rfl
theorem Kq6 : valOf (evM (ctxOf Kit Kbt Kex) 100000 [] 200 (.fn (.func 84) [] []) Kk6 emptyH) = some (.val Kv6) := by kernel_rfl
theorem Kq7 : valOf (evM (ctxOf Kit Kbt Kex) 100000 [(84, [(Kk6, Kv6)])] 200 (.fn (.func 65) [] []) Kk7 emptyH) = some (.val Kv7) := by kernel_rfl
theorem Kq8 : valOf (evM (ctxOf Kit Kbt Kex) 100000 [(65, [(Kk7, Kv7)])] 200 (.fn (.func 30) [] []) Kk8 emptyH) = some (.val Kv8) := by kernel_rfl
theorem Kq9 : valOf (evM (ctxOf Kit Kbt Kex) 100000 [(84, [(Kk6, Kv6)])] 200 (.fn (.func 65) [] []) Kk9 emptyH) = some (.val Kv9) := by kernel_rfl
theorem Kq10 : valOf (evM (ctxOf Kit Kbt Kex) 100000 [(65, [(Kk9, Kv9)])] 200 (.fn (.func 30) [] []) Kk10 emptyH) = some (.val Kv10) := by kernel_rfl
theorem Kq11 : valOf (evM (ctxOf Kit Kbt Kex) 100000 [(84, [(Kk6, Kv6)])] 200 (.fn (.func 65) [] []) Kk11 emptyH) = some (.val Kv11) := by kernel_rfl
theorem Kq12 : valOf (evM (ctxOf Kit Kbt Kex) 100000 [(65, [(Kk11, Kv11)])] 200 (.fn (.func 30) [] []) Kk12 emptyH) = some (.val Kv12) := by kernel_rfl
theorem Kq13 : valOf (evM (ctxOf Kit Kbt Kex) 100000 [(51, [(Kk1, Kv1)]), (84, [(Kk6, Kv6)])] 200 (.fn (.func 65) [] []) Kk13 emptyH) = some (.val Kv13) := by kernel_rfl
theorem Kq14 : valOf (evM (ctxOf Kit Kbt Kex) 100000 [(65, [(Kk13, Kv13)])] 200 (.fn (.func 30) [] []) Kk14 emptyH) = some (.val Kv14) := by kernel_rfl
theorem Kq15 : valOf (evM (ctxOf Kit Kbt Kex) 100000 [(84, [(Kk6, Kv6)])] 200 (.fn (.func 65) [] []) Kk15 emptyH) = some (.val Kv15) := by kernel_rfl
theorem Kq16 : valOf (evM (ctxOf Kit Kbt Kex) 100000 [(65, [(Kk15, Kv15)])] 200 (.fn (.func 30) [] []) Kk16 emptyH) = some (.val Kv16) := by kernel_rfl
theorem Kq17 : valOf (evM (ctxOf Kit Kbt Kex) 100000 [(51, [(Kk2, Kv2)]), (84, [(Kk6, Kv6)])] 200 (.fn (.func 65) [] []) Kk17 emptyH) = some (.val Kv17) := by kernel_rfl
theorem Kq18 : valOf (evM (ctxOf Kit Kbt Kex) 100000 [(65, [(Kk17, Kv17)])] 200 (.fn (.func 30) [] []) Kk18 emptyH) = some (.val Kv18) := by kernel_rfl
theorem Kq19 : valOf (evM (ctxOf Kit Kbt Kex) 100000 [(84, [(Kk6, Kv6)])] 200 (.fn (.func 65) [] []) Kk19 emptyH) = some (.val Kv19) := by kernel_rfl
theorem Kq20 : valOf (evM (ctxOf Kit Kbt Kex) 100000 [(65, [(Kk19, Kv19)])] 200 (.fn (.func 30) [] []) Kk20 emptyH) = some (.val Kv20) := by kernel_rfl
theorem Kq21 : valOf (evM (ctxOf Kit Kbt Kex) 100000 [(51, [(Kk2, Kv2)])] 200 (.fn (.func 19) [] []) Kk21 emptyH) = some (.val Kv21) := by kernel_rfl
theorem Kq22 : valOf (evM (ctxOf Kit Kbt Kex) 100000 [(51, [(Kk2, Kv2)])] 200 (.fn (.func 19) [] []) Kk22 emptyH) = some (.val Kv22) := by kernel_rfl
theorem Kq23 : frzOf (evM (ctxOf Kit Kbt Kex) 100000 [] 200 (.fn (.func 10) [] []) Kk23 emptyH) Kv23 = true := by kernel_rfl
theorem Kq24 : valOf (evM (ctxOf Kit Kbt Kex) 100000 [(10, [(Kk23, Kv23)])] 200 (.fn (.func 37) [] []) Kk24 emptyH) = some (.val Kv24) := by kernel_rfl
theorem Kq25 : frzOf (evM (ctxOf Kit Kbt Kex) 100000 [] 200 (.fn (.func 10) [] []) Kk25 emptyH) Kv25 = true := by kernel_rfl
theorem Kq26 : valOf (evM (ctxOf Kit Kbt Kex) 100000 [(10, [(Kk25, Kv25)])] 200 (.fn (.func 37) [] []) Kk26 emptyH) = some (.val Kv26) := by kernel_rfl
theorem Kq27 : frzOf (evM (ctxOf Kit Kbt Kex) 100000 [] 200 (.fn (.func 10) [] []) Kk27 emptyH) Kv27 = true := by kernel_rfl
theorem Kq28 : valOf (evM (ctxOf Kit Kbt Kex) 100000 [(10, [(Kk27, Kv27)])] 200 (.fn (.func 37) [] []) Kk28 emptyH) = some (.val Kv28) := by kernel_rfl
theorem Kq29 : frzOf (evM (ctxOf Kit Kbt Kex) 100000 [] 200 (.fn (.func 10) [] []) Kk29 emptyH) Kv29 = true := by kernel_rfl
theorem Kq30 : valOf (evM (ctxOf Kit Kbt Kex) 100000 [(10, [(Kk29, Kv29)])] 200 (.fn (.func 37) [] []) Kk30 emptyH) = some (.val Kv30) := by kernel_rfl
theorem Kq31 : valOf (evM (ctxOf Kit Kbt Kex) 100000 [] 200 (.fn (.func 24) [] []) Kk31 emptyH) = some (.val Kv31) := by kernel_rfl
theorem Kq32 : valOf (evM (ctxOf Kit Kbt Kex) 100000 [] 200 (.fn (.func 24) [] []) Kk32 emptyH) = some (.val Kv32) := by kernel_rfl
theorem Kq33 : valOf (evM (ctxOf Kit Kbt Kex) 100000 [(51, [(Kk2, Kv2)]), (30, [(Kk18, Kv18), (Kk20, Kv20)]), (19, [(Kk21, Kv21), (Kk22, Kv22)]), (37, [(Kk24, Kv24), (Kk26, Kv26), (Kk28, Kv28), (Kk30, Kv30)]), (24, [(Kk31, Kv31), (Kk32, Kv32)])] 200 (.fn (.func 14) [] []) Kk33 emptyH) = some (.val Kv33) := by kernel_rfl
theorem Kq34 : frzOf (evM (ctxOf Kit Kbt Kex) 100000 [] 200 (.fn (.func 10) [] []) Kk34 emptyH) Kv34 = true := by kernel_rfl
theorem Kq35 : valOf (evM (ctxOf Kit Kbt Kex) 100000 [(10, [(Kk34, Kv34)])] 200 (.fn (.func 37) [] []) Kk35 emptyH) = some (.val Kv35) := by kernel_rfl
theorem Kq36 : frzOf (evM (ctxOf Kit Kbt Kex) 100000 [] 200 (.fn (.func 10) [] []) Kk36 emptyH) Kv36 = true := by kernel_rfl
theorem Kq37 : valOf (evM (ctxOf Kit Kbt Kex) 100000 [(10, [(Kk36, Kv36)])] 200 (.fn (.func 37) [] []) Kk37 emptyH) = some (.val Kv37) := by kernel_rfl
theorem Kq38 : frzOf (evM (ctxOf Kit Kbt Kex) 100000 [] 200 (.fn (.func 10) [] []) Kk38 emptyH) Kv38 = true := by kernel_rfl
theorem Kq39 : valOf (evM (ctxOf Kit Kbt Kex) 100000 [(10, [(Kk38, Kv38)])] 200 (.fn (.func 37) [] []) Kk39 emptyH) = some (.val Kv39) := by kernel_rfl
theorem Kq40 : valOf (evM (ctxOf Kit Kbt Kex) 100000 [] 200 (.fn (.func 24) [] []) Kk40 emptyH) = some (.val Kv40) := by kernel_rfl
theorem Kq41 : valOf (evM (ctxOf Kit Kbt Kex) 100000 [(10, [(Kk0, Kv0)]), (51, [(Kk1, Kv1)]), (19, [(Kk3, Kv3), (Kk4, Kv4), (Kk5, Kv5)]), (30, [(Kk8, Kv8), (Kk10, Kv10), (Kk12, Kv12), (Kk14, Kv14), (Kk16, Kv16)]), (14, [(Kk33, Kv33)]), (37, [(Kk35, Kv35), (Kk37, Kv37), (Kk39, Kv39)]), (24, [(Kk40, Kv40)])] 200 (.fn (.func 7) [] []) Kk41 emptyH) = some (.val Kv41) := by kernel_rfl
end Go.Proofs.YtnkcimeebobjaaaDoor.fitKnown
