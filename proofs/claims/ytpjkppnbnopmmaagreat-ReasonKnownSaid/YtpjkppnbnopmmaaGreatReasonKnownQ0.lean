/- The machine runs these calls (part 0). -/
import Derived.Test.YtpjkppnbnopmmaaGreatReasonKnownK
import Derived.KernelRfl
namespace Go.Proofs.YtpjkppnbnopmmaaGreat.reasonKnown
open Hx Go
set_option maxRecDepth 100000
theorem Kq0 : valOf (evM (ctxOf Kit Kbt Kex) 100000 [] 200 (.fn (.func 42) [] []) Kk0 emptyH) = some (.val Kv0) := by kernel_rfl
theorem Kq1 : valOf (evM (ctxOf Kit Kbt Kex) 100000 [] 200 (.fn (.func 43) [] []) Kk1 emptyH) = some (.val Kv1) := by kernel_rfl
theorem Kq2 : valOf (evM (ctxOf Kit Kbt Kex) 100000 [(42, [(Kk0, Kv0)]), (43, [(Kk1, Kv1)])] 200 (.fn (.func 28) [] []) Kk2 emptyH) = some (.val Kv2) := by kernel_rfl
theorem Kq3 : valOf (evM (ctxOf Kit Kbt Kex) 100000 [] 200 (.fn (.func 81) [] []) Kk3 emptyH) = some (.val Kv3) := by kernel_rfl
theorem Kq4 : frzOf (evM (ctxOf Kit Kbt Kex) 100000 [] 200 (.fn (.func 82) [] []) Kk4 emptyH) Kv4 = true := by kernel_rfl
theorem Kq5 : frzOf (evM (ctxOf Kit Kbt Kex) 100000 [] 200 (.fn (.func 82) [] []) Kk5 emptyH) Kv5 = true := by kernel_rfl
theorem Kq6 : frzOf (evM (ctxOf Kit Kbt Kex) 100000 [] 200 (.fn (.func 82) [] []) Kk6 emptyH) Kv6 = true := by kernel_rfl
theorem Kq7 : frzOf (evM (ctxOf Kit Kbt Kex) 100000 [] 200 (.fn (.func 82) [] []) Kk7 emptyH) Kv7 = true := by kernel_rfl
theorem Kq8 : valOf (evM (ctxOf Kit Kbt Kex) 100000 [(82, [(Kk7, Kv7)])] 200 (.fn (.func 83) [] []) Kk8 emptyH) = some (.val Kv8) := by kernel_rfl
theorem Kq9 : frzOf (evM (ctxOf Kit Kbt Kex) 100000 [] 200 (.fn (.func 82) [] []) Kk9 emptyH) Kv9 = true := by kernel_rfl
theorem Kq10 : frzOf (evM (ctxOf Kit Kbt Kex) 100000 [] 200 (.fn (.func 82) [] []) Kk10 emptyH) Kv10 = true := by kernel_rfl
theorem Kq11 : frzOf (evM (ctxOf Kit Kbt Kex) 100000 [] 200 (.fn (.func 82) [] []) Kk11 emptyH) Kv11 = true := by kernel_rfl
theorem Kq12 : frzOf (evM (ctxOf Kit Kbt Kex) 100000 [] 200 (.fn (.func 82) [] []) Kk12 emptyH) Kv12 = true := by kernel_rfl
theorem Kq13 : valOf (evM (ctxOf Kit Kbt Kex) 100000 [(82, [(Kk12, Kv12)])] 200 (.fn (.func 83) [] []) Kk13 emptyH) = some (.val Kv13) := by kernel_rfl
theorem Kq14 : valOf (evM (ctxOf Kit Kbt Kex) 100000 [(81, [(Kk3, Kv3)]), (82, [(Kk4, Kv4), (Kk5, Kv5), (Kk6, Kv6), (Kk7, Kv7), (Kk9, Kv9), (Kk10, Kv10), (Kk11, Kv11), (Kk12, Kv12)]), (83, [(Kk8, Kv8), (Kk13, Kv13)])] 200 (.fn (.func 64) [] []) Kk14 emptyH) = some (.val Kv14) := by kernel_rfl
theorem Kq15 : valOf (evM (ctxOf Kit Kbt Kex) 100000 [(42, [(Kk0, Kv0)]), (43, [(Kk1, Kv1)]), (64, [(Kk14, Kv14)])] 200 (.fn (.func 44) [] []) Kk15 emptyH) = some (.val Kv15) := by kernel_rfl
theorem Kq16 : valOf (evM (ctxOf Kit Kbt Kex) 100000 [(44, [(Kk15, Kv15)])] 200 (.fn (.func 30) [] []) Kk16 emptyH) = some (.val Kv16) := by kernel_rfl
theorem Kq17 : valOf (evM (ctxOf Kit Kbt Kex) 100000 [] 200 (.fn (.func 52) [] []) Kk17 emptyH) = some (.val Kv17) := by kernel_rfl
theorem Kq18 : valOf (evM (ctxOf Kit Kbt Kex) 100000 [(52, [(Kk17, Kv17)])] 200 (.fn (.func 38) [] []) Kk18 emptyH) = some (.val Kv18) := by kernel_rfl
theorem Kq19 : valOf (evM (ctxOf Kit Kbt Kex) 100000 [(42, [(Kk0, Kv0)]), (43, [(Kk1, Kv1)]), (28, [(Kk2, Kv2)]), (81, [(Kk3, Kv3)]), (82, [(Kk4, Kv4), (Kk5, Kv5), (Kk6, Kv6), (Kk7, Kv7), (Kk9, Kv9), (Kk10, Kv10), (Kk11, Kv11), (Kk12, Kv12)]), (83, [(Kk8, Kv8), (Kk13, Kv13)]), (30, [(Kk16, Kv16)]), (38, [(Kk18, Kv18)])] 200 (.fn (.func 6) [] []) Kk19 emptyH) = some (.val Kv19) := by kernel_rfl
theorem Kq20 : valOf (evM (ctxOf Kit Kbt Kex) 100000 [(42, [(Kk0, Kv0)]), (43, [(Kk1, Kv1)])] 200 (.fn (.func 28) [] []) Kk20 emptyH) = some (.val Kv20) := by kernel_rfl
theorem Kq21 : valOf (evM (ctxOf Kit Kbt Kex) 100000 [(44, [(Kk15, Kv15)])] 200 (.fn (.func 30) [] []) Kk21 emptyH) = some (.val Kv21) := by kernel_rfl
theorem Kq22 : valOf (evM (ctxOf Kit Kbt Kex) 100000 [] 200 (.fn (.func 52) [] []) Kk22 emptyH) = some (.val Kv22) := by kernel_rfl
theorem Kq23 : valOf (evM (ctxOf Kit Kbt Kex) 100000 [(52, [(Kk22, Kv22)])] 200 (.fn (.func 38) [] []) Kk23 emptyH) = some (.val Kv23) := by kernel_rfl
theorem Kq24 : valOf (evM (ctxOf Kit Kbt Kex) 100000 [(42, [(Kk0, Kv0)]), (43, [(Kk1, Kv1)]), (81, [(Kk3, Kv3)]), (82, [(Kk4, Kv4), (Kk5, Kv5), (Kk6, Kv6), (Kk7, Kv7), (Kk9, Kv9), (Kk10, Kv10), (Kk11, Kv11), (Kk12, Kv12)]), (83, [(Kk8, Kv8), (Kk13, Kv13)]), (28, [(Kk20, Kv20)]), (30, [(Kk21, Kv21)]), (38, [(Kk23, Kv23)])] 200 (.fn (.func 6) [] []) Kk24 emptyH) = some (.val Kv24) := by kernel_rfl
theorem Kq25 : valOf (evM (ctxOf Kit Kbt Kex) 100000 [(42, [(Kk0, Kv0)]), (43, [(Kk1, Kv1)])] 200 (.fn (.func 7) [] []) Kk25 emptyH) = some (.val Kv25) := by kernel_rfl
theorem Kq26 : valOf (evM (ctxOf Kit Kbt Kex) 100000 [(42, [(Kk0, Kv0)]), (43, [(Kk1, Kv1)])] 200 (.fn (.func 7) [] []) Kk26 emptyH) = some (.val Kv26) := by kernel_rfl
theorem Kq27 : valOf (evM (ctxOf Kit Kbt Kex) 100000 [(42, [(Kk0, Kv0)]), (43, [(Kk1, Kv1)])] 200 (.fn (.func 28) [] []) Kk27 emptyH) = some (.val Kv27) := by kernel_rfl
theorem Kq28 : valOf (evM (ctxOf Kit Kbt Kex) 100000 [(28, [(Kk27, Kv27)])] 200 (.fn (.func 7) [] []) Kk28 emptyH) = some (.val Kv28) := by kernel_rfl
theorem Kq29 : valOf (evM (ctxOf Kit Kbt Kex) 100000 [(42, [(Kk0, Kv0)]), (43, [(Kk1, Kv1)])] 200 (.fn (.func 28) [] []) Kk29 emptyH) = some (.val Kv29) := by kernel_rfl
theorem Kq30 : valOf (evM (ctxOf Kit Kbt Kex) 100000 [(44, [(Kk15, Kv15)])] 200 (.fn (.func 30) [] []) Kk30 emptyH) = some (.val Kv30) := by kernel_rfl
theorem Kq31 : valOf (evM (ctxOf Kit Kbt Kex) 100000 [] 200 (.fn (.func 43) [] []) Kk31 emptyH) = some (.val Kv31) := by kernel_rfl
theorem Kq32 : valOf (evM (ctxOf Kit Kbt Kex) 100000 [(82, [(Kk4, Kv4)])] 200 (.fn (.func 83) [] []) Kk32 emptyH) = some (.val Kv32) := by kernel_rfl
theorem Kq33 : valOf (evM (ctxOf Kit Kbt Kex) 100000 [(82, [(Kk5, Kv5)])] 200 (.fn (.func 83) [] []) Kk33 emptyH) = some (.val Kv33) := by kernel_rfl
theorem Kq34 : valOf (evM (ctxOf Kit Kbt Kex) 100000 [(82, [(Kk6, Kv6)])] 200 (.fn (.func 83) [] []) Kk34 emptyH) = some (.val Kv34) := by kernel_rfl
theorem Kq35 : valOf (evM (ctxOf Kit Kbt Kex) 100000 [(82, [(Kk9, Kv9)])] 200 (.fn (.func 83) [] []) Kk35 emptyH) = some (.val Kv35) := by kernel_rfl
theorem Kq36 : valOf (evM (ctxOf Kit Kbt Kex) 100000 [(82, [(Kk10, Kv10)])] 200 (.fn (.func 83) [] []) Kk36 emptyH) = some (.val Kv36) := by kernel_rfl
theorem Kq37 : valOf (evM (ctxOf Kit Kbt Kex) 100000 [(82, [(Kk11, Kv11)])] 200 (.fn (.func 83) [] []) Kk37 emptyH) = some (.val Kv37) := by kernel_rfl
theorem Kq38 : valOf (evM (ctxOf Kit Kbt Kex) 100000 [] 200 (.fn (.func 52) [] []) Kk38 emptyH) = some (.val Kv38) := by kernel_rfl
theorem Kq39 : valOf (evM (ctxOf Kit Kbt Kex) 100000 [(52, [(Kk38, Kv38)])] 200 (.fn (.func 38) [] []) Kk39 emptyH) = some (.val Kv39) := by kernel_rfl
theorem Kq40 : valOf (evM (ctxOf Kit Kbt Kex) 100000 [] 200 (.fn (.func 43) [] []) Kk40 emptyH) = some (.val Kv40) := by kernel_rfl
theorem Kq41 : valOf (evM (ctxOf Kit Kbt Kex) 100000 [] 200 (.fn (.func 52) [] []) Kk41 emptyH) = some (.val Kv41) := by kernel_rfl
theorem Kq42 : valOf (evM (ctxOf Kit Kbt Kex) 100000 [(52, [(Kk41, Kv41)])] 200 (.fn (.func 38) [] []) Kk42 emptyH) = some (.val Kv42) := by kernel_rfl
theorem Kq43 : valOf (evM (ctxOf Kit Kbt Kex) 100000 [] 200 (.fn (.func 43) [] []) Kk43 emptyH) = some (.val Kv43) := by kernel_rfl
theorem Kq44 : valOf (evM (ctxOf Kit Kbt Kex) 100000 [(42, [(Kk0, Kv0)]), (81, [(Kk3, Kv3)]), (82, [(Kk4, Kv4), (Kk5, Kv5), (Kk6, Kv6), (Kk7, Kv7), (Kk9, Kv9), (Kk10, Kv10), (Kk11, Kv11), (Kk12, Kv12)]), (83, [(Kk8, Kv8), (Kk13, Kv13), (Kk32, Kv32), (Kk33, Kv33), (Kk34, Kv34), (Kk35, Kv35), (Kk36, Kv36), (Kk37, Kv37)]), (28, [(Kk29, Kv29)]), (30, [(Kk30, Kv30)]), (43, [(Kk31, Kv31), (Kk40, Kv40), (Kk43, Kv43)]), (38, [(Kk39, Kv39), (Kk42, Kv42)])] 200 (.fn (.func 12) [] []) Kk44 emptyH) = some (.val Kv44) := by kernel_rfl
end Go.Proofs.YtpjkppnbnopmmaaGreat.reasonKnown
