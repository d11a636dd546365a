/- The machine runs these calls (part 0). -/
import Derived.Test.YtdodlmlcbhmikaaDoorAdjustKnownK
import Derived.KernelRfl
namespace Go.Proofs.YtdodlmlcbhmikaaDoor.adjustKnown
open Hx Go
set_option maxRecDepth 100000
theorem Kq0 : valOf (evM (ctxOf Kit Kbt Kex) 100000 [] 200 (.fn (.func 54) [] []) Kk0 emptyH) = some (.val Kv0) := by kernel_rfl
theorem Kq1 : valOf (evM (ctxOf Kit Kbt Kex) 100000 [(54, [(Kk0, Kv0)])] 200 (.fn (.func 24) [] []) Kk1 emptyH) = some (.val Kv1) := by kernel_rfl
theorem Kq2 : valOf (evM (ctxOf Kit Kbt Kex) 100000 [(24, [(Kk1, Kv1)])] 200 (.fn (.func 14) [] []) Kk2 emptyH) = some (.val Kv2) := by kernel_rfl
theorem Kq3 : valOf (evM (ctxOf Kit Kbt Kex) 100000 [(14, [(Kk2, Kv2)])] 200 (.fn (.func 5) [] []) Kk3 emptyH) = some (.val Kv3) := by kernel_rfl
theorem Kq4 : valOf (evM (ctxOf Kit Kbt Kex) 100000 [(54, [(Kk0, Kv0)])] 200 (.fn (.func 24) [] []) Kk4 emptyH) = some (.val Kv4) := by kernel_rfl
theorem Kq5 : valOf (evM (ctxOf Kit Kbt Kex) 100000 [(24, [(Kk4, Kv4)])] 200 (.fn (.func 13) [] []) Kk5 emptyH) = some (.val Kv5) := by kernel_rfl
theorem Kq6 : valOf (evM (ctxOf Kit Kbt Kex) 100000 [(54, [(Kk0, Kv0)])] 200 (.fn (.func 24) [] []) Kk6 emptyH) = some (.val Kv6) := by kernel_rfl
theorem Kq7 : valOf (evM (ctxOf Kit Kbt Kex) 100000 [(24, [(Kk6, Kv6)])] 200 (.fn (.func 13) [] []) Kk7 emptyH) = some (.val Kv7) := by kernel_rfl
theorem Kq8 : valOf (evM (ctxOf Kit Kbt Kex) 100000 [] 200 (.fn (.func 60) [] []) Kk8 emptyH) = some (.val Kv8) := by kernel_rfl
theorem Kq9 : valOf (evM (ctxOf Kit Kbt Kex) 100000 [(60, [(Kk8, Kv8)])] 200 (.fn (.func 36) [] []) Kk9 emptyH) = some (.val Kv9) := by kernel_rfl
theorem Kq10 : valOf (evM (ctxOf Kit Kbt Kex) 100000 [(36, [(Kk9, Kv9)])] 200 (.fn (.func 26) [] []) Kk10 emptyH) = some (.val Kv10) := by kernel_rfl
theorem Kq11 : valOf (evM (ctxOf Kit Kbt Kex) 100000 [(24, [(Kk1, Kv1)]), (26, [(Kk10, Kv10)])] 200 (.fn (.func 13) [] []) Kk11 emptyH) = some (.val Kv11) := by kernel_rfl
theorem Kq12 : valOf (evM (ctxOf Kit Kbt Kex) 100000 [(54, [(Kk0, Kv0)])] 200 (.fn (.func 24) [] []) Kk12 emptyH) = some (.val Kv12) := by kernel_rfl
theorem Kq13 : valOf (evM (ctxOf Kit Kbt Kex) 100000 [] 200 (.fn (.func 60) [] []) Kk13 emptyH) = some (.val Kv13) := by kernel_rfl
theorem Kq14 : valOf (evM (ctxOf Kit Kbt Kex) 100000 [(60, [(Kk13, Kv13)])] 200 (.fn (.func 36) [] []) Kk14 emptyH) = some (.val Kv14) := by kernel_rfl
theorem Kq15 : valOf (evM (ctxOf Kit Kbt Kex) 100000 [(36, [(Kk14, Kv14)])] 200 (.fn (.func 26) [] []) Kk15 emptyH) = some (.val Kv15) := by kernel_rfl
theorem Kq16 : valOf (evM (ctxOf Kit Kbt Kex) 100000 [(24, [(Kk12, Kv12)]), (26, [(Kk15, Kv15)])] 200 (.fn (.func 13) [] []) Kk16 emptyH) = some (.val Kv16) := by kernel_rfl
theorem Kq17 : valOf (evM (ctxOf Kit Kbt Kex) 100000 [(54, [(Kk0, Kv0)])] 200 (.fn (.func 24) [] []) Kk17 emptyH) = some (.val Kv17) := by kernel_rfl
theorem Kq18 : valOf (evM (ctxOf Kit Kbt Kex) 100000 [(24, [(Kk1, Kv1)]), (26, [(Kk10, Kv10)])] 200 (.fn (.func 7) [] []) Kk18 emptyH) = some (.val Kv18) := by kernel_rfl
theorem Kq19 : valOf (evM (ctxOf Kit Kbt Kex) 100000 [] 200 (.fn (.func 54) [] []) Kk19 emptyH) = some (.val Kv19) := by kernel_rfl
theorem Kq20 : valOf (evM (ctxOf Kit Kbt Kex) 100000 [(54, [(Kk19, Kv19)])] 200 (.fn (.func 24) [] []) Kk20 emptyH) = some (.val Kv20) := by kernel_rfl
theorem Kq21 : valOf (evM (ctxOf Kit Kbt Kex) 100000 [] 200 (.fn (.func 35) [] []) Kk21 emptyH) = some (.val Kv21) := by kernel_rfl
theorem Kq22 : valOf (evM (ctxOf Kit Kbt Kex) 100000 [] 200 (.fn (.func 60) [] []) Kk22 emptyH) = some (.val Kv22) := by kernel_rfl
theorem Kq23 : valOf (evM (ctxOf Kit Kbt Kex) 100000 [(60, [(Kk22, Kv22)])] 200 (.fn (.func 36) [] []) Kk23 emptyH) = some (.val Kv23) := by kernel_rfl
theorem Kq24 : valOf (evM (ctxOf Kit Kbt Kex) 100000 [] 200 (.fn (.func 77) [] []) Kk24 emptyH) = some (.val Kv24) := by kernel_rfl
theorem Kq25 : valOf (evM (ctxOf Kit Kbt Kex) 100000 [(77, [(Kk24, Kv24)])] 200 (.fn (.func 60) [] []) Kk25 emptyH) = some (.val Kv25) := by kernel_rfl
theorem Kq26 : valOf (evM (ctxOf Kit Kbt Kex) 100000 [(60, [(Kk25, Kv25)])] 200 (.fn (.func 36) [] []) Kk26 emptyH) = some (.val Kv26) := by kernel_rfl
theorem Kq27 : valOf (evM (ctxOf Kit Kbt Kex) 100000 [(24, [(Kk20, Kv20)]), (35, [(Kk21, Kv21)]), (36, [(Kk23, Kv23), (Kk26, Kv26)])] 200 (.fn (.func 8) [] []) Kk27 emptyH) = some (.val Kv27) := by kernel_rfl
theorem Kq28 : valOf (evM (ctxOf Kit Kbt Kex) 100000 [(54, [(Kk19, Kv19)])] 200 (.fn (.func 24) [] []) Kk28 emptyH) = some (.val Kv28) := by kernel_rfl
theorem Kq29 : valOf (evM (ctxOf Kit Kbt Kex) 100000 [] 200 (.fn (.func 35) [] []) Kk29 emptyH) = some (.val Kv29) := by kernel_rfl
theorem Kq30 : valOf (evM (ctxOf Kit Kbt Kex) 100000 [(24, [(Kk28, Kv28)]), (35, [(Kk29, Kv29)])] 200 (.fn (.func 8) [] []) Kk30 emptyH) = some (.val Kv30) := by kernel_rfl
theorem Kq31 : valOf (evM (ctxOf Kit Kbt Kex) 100000 [(54, [(Kk19, Kv19)])] 200 (.fn (.func 24) [] []) Kk31 emptyH) = some (.val Kv31) := by kernel_rfl
theorem Kq32 : valOf (evM (ctxOf Kit Kbt Kex) 100000 [] 200 (.fn (.func 60) [] []) Kk32 emptyH) = some (.val Kv32) := by kernel_rfl
theorem Kq33 : valOf (evM (ctxOf Kit Kbt Kex) 100000 [(60, [(Kk32, Kv32)])] 200 (.fn (.func 36) [] []) Kk33 emptyH) = some (.val Kv33) := by kernel_rfl
theorem Kq34 : valOf (evM (ctxOf Kit Kbt Kex) 100000 [(35, [(Kk29, Kv29)]), (36, [(Kk33, Kv33)])] 200 (.fn (.func 26) [] []) Kk34 emptyH) = some (.val Kv34) := by kernel_rfl
theorem Kq35 : valOf (evM (ctxOf Kit Kbt Kex) 100000 [(24, [(Kk31, Kv31)]), (26, [(Kk34, Kv34)])] 200 (.fn (.func 13) [] []) Kk35 emptyH) = some (.val Kv35) := by kernel_rfl
theorem Kq36 : valOf (evM (ctxOf Kit Kbt Kex) 100000 [] 200 (.fn (.func 60) [] []) Kk36 emptyH) = some (.val Kv36) := by kernel_rfl
theorem Kq37 : valOf (evM (ctxOf Kit Kbt Kex) 100000 [(60, [(Kk36, Kv36)])] 200 (.fn (.func 36) [] []) Kk37 emptyH) = some (.val Kv37) := by kernel_rfl
theorem Kq38 : valOf (evM (ctxOf Kit Kbt Kex) 100000 [(36, [(Kk37, Kv37)])] 200 (.fn (.func 26) [] []) Kk38 emptyH) = some (.val Kv38) := by kernel_rfl
theorem Kq39 : valOf (evM (ctxOf Kit Kbt Kex) 100000 [(24, [(Kk20, Kv20)]), (26, [(Kk38, Kv38)])] 200 (.fn (.func 13) [] []) Kk39 emptyH) = some (.val Kv39) := by kernel_rfl
theorem Kq40 : valOf (evM (ctxOf Kit Kbt Kex) 100000 [] 200 (.fn (.func 64) [] []) Kk40 emptyH) = some (.val Kv40) := by kernel_rfl
theorem Kq41 : valOf (evM (ctxOf Kit Kbt Kex) 100000 [(64, [(Kk40, Kv40)])] 200 (.fn (.func 45) [] []) Kk41 emptyH) = some (.val Kv41) := by kernel_rfl
theorem Kq42 : frzOf (evM (ctxOf Kit Kbt Kex) 100000 [] 200 (.fn (.func 47) [] []) Kk42 emptyH) Kv42 = true := by kernel_rfl
theorem Kq43 : valOf (evM (ctxOf Kit Kbt Kex) 100000 [] 200 (.fn (.func 85) [] []) Kk43 emptyH) = some (.val Kv43) := by kernel_rfl
theorem Kq44 : valOf (evM (ctxOf Kit Kbt Kex) 100000 [] 200 (.fn (.func 93) [] []) Kk44 emptyH) = some (.val Kv44) := by kernel_rfl
theorem Kq45 : frzOf (evM (ctxOf Kit Kbt Kex) 100000 [] 200 (.fn (.func 94) [] []) Kk45 emptyH) Kv45 = true := by kernel_rfl
theorem Kq46 : valOf (evM (ctxOf Kit Kbt Kex) 100000 [(94, [(Kk45, Kv45)])] 200 (.fn (.func 95) [] []) Kk46 emptyH) = some (.val Kv46) := by kernel_rfl
theorem Kq47 : frzOf (evM (ctxOf Kit Kbt Kex) 100000 [] 200 (.fn (.func 94) [] []) Kk47 emptyH) Kv47 = true := by kernel_rfl
theorem Kq48 : frzOf (evM (ctxOf Kit Kbt Kex) 100000 [] 200 (.fn (.func 94) [] []) Kk48 emptyH) Kv48 = true := by kernel_rfl
theorem Kq49 : valOf (evM (ctxOf Kit Kbt Kex) 100000 [(94, [(Kk48, Kv48)])] 200 (.fn (.func 95) [] []) Kk49 emptyH) = some (.val Kv49) := by kernel_rfl
theorem Kq50 : frzOf (evM (ctxOf Kit Kbt Kex) 100000 [] 200 (.fn (.func 94) [] []) Kk50 emptyH) Kv50 = true := by kernel_rfl
theorem Kq51 : frzOf (evM (ctxOf Kit Kbt Kex) 100000 [] 200 (.fn (.func 94) [] []) Kk51 emptyH) Kv51 = true := by kernel_rfl
theorem Kq52 : valOf (evM (ctxOf Kit Kbt Kex) 100000 [(94, [(Kk51, Kv51)])] 200 (.fn (.func 95) [] []) Kk52 emptyH) = some (.val Kv52) := by kernel_rfl
theorem Kq53 : frzOf (evM (ctxOf Kit Kbt Kex) 100000 [] 200 (.fn (.func 94) [] []) Kk53 emptyH) Kv53 = true := by kernel_rfl
theorem Kq54 : frzOf (evM (ctxOf Kit Kbt Kex) 100000 [] 200 (.fn (.func 94) [] []) Kk54 emptyH) Kv54 = true := by kernel_rfl
theorem Kq55 : valOf (evM (ctxOf Kit Kbt Kex) 100000 [(94, [(Kk54, Kv54)])] 200 (.fn (.func 95) [] []) Kk55 emptyH) = some (.val Kv55) := by kernel_rfl
end Go.Proofs.YtdodlmlcbhmikaaDoor.adjustKnown
