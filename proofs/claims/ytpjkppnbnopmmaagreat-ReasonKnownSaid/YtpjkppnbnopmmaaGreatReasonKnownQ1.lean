/- The machine runs these calls (part 1). -/
import Derived.Test.YtpjkppnbnopmmaaGreatReasonKnownK
import Derived.KernelRfl
namespace Go.Proofs.YtpjkppnbnopmmaaGreat.reasonKnown
open Hx Go
set_option maxRecDepth 100000
theorem Kq45 : valOf (evM (ctxOf Kit Kbt Kex) 100000 [] 200 (.fn (.func 52) [] []) Kk45 emptyH) = some (.val Kv45) := by kernel_rfl
theorem Kq46 : valOf (evM (ctxOf Kit Kbt Kex) 100000 [(52, [(Kk45, Kv45)])] 200 (.fn (.func 38) [] []) Kk46 emptyH) = some (.val Kv46) := by kernel_rfl
theorem Kq47 : valOf (evM (ctxOf Kit Kbt Kex) 100000 [] 200 (.fn (.func 52) [] []) Kk47 emptyH) = some (.val Kv47) := by kernel_rfl
theorem Kq48 : valOf (evM (ctxOf Kit Kbt Kex) 100000 [(52, [(Kk47, Kv47)])] 200 (.fn (.func 38) [] []) Kk48 emptyH) = some (.val Kv48) := by kernel_rfl
theorem Kq49 : valOf (evM (ctxOf Kit Kbt Kex) 100000 [(42, [(Kk0, Kv0)]), (43, [(Kk1, Kv1), (Kk31, Kv31), (Kk40, Kv40), (Kk43, Kv43)]), (28, [(Kk2, Kv2)]), (81, [(Kk3, Kv3)]), (82, [(Kk4, Kv4), (Kk5, Kv5), (Kk6, Kv6), (Kk7, Kv7), (Kk9, Kv9), (Kk10, Kv10), (Kk11, Kv11), (Kk12, Kv12)]), (83, [(Kk8, Kv8), (Kk13, Kv13), (Kk32, Kv32), (Kk33, Kv33), (Kk34, Kv34), (Kk35, Kv35), (Kk36, Kv36), (Kk37, Kv37)]), (30, [(Kk16, Kv16)]), (38, [(Kk18, Kv18), (Kk46, Kv46), (Kk48, Kv48)])] 200 (.fn (.func 12) [] []) Kk49 emptyH) = some (.val Kv49) := by kernel_rfl
theorem Kq50 : valOf (evM (ctxOf Kit Kbt Kex) 100000 [(42, [(Kk0, Kv0)]), (43, [(Kk1, Kv1)])] 200 (.fn (.func 28) [] []) Kk50 emptyH) = some (.val Kv50) := by kernel_rfl
theorem Kq51 : valOf (evM (ctxOf Kit Kbt Kex) 100000 [(44, [(Kk15, Kv15)])] 200 (.fn (.func 30) [] []) Kk51 emptyH) = some (.val Kv51) := by kernel_rfl
theorem Kq52 : valOf (evM (ctxOf Kit Kbt Kex) 100000 [] 200 (.fn (.func 38) [] []) Kk52 emptyH) = some (.val Kv52) := by kernel_rfl
theorem Kq53 : valOf (evM (ctxOf Kit Kbt Kex) 100000 [(42, [(Kk0, Kv0)]), (81, [(Kk3, Kv3)]), (82, [(Kk4, Kv4), (Kk5, Kv5), (Kk6, Kv6), (Kk7, Kv7), (Kk9, Kv9), (Kk10, Kv10), (Kk11, Kv11), (Kk12, Kv12)]), (83, [(Kk8, Kv8), (Kk13, Kv13), (Kk32, Kv32), (Kk33, Kv33), (Kk34, Kv34), (Kk35, Kv35), (Kk36, Kv36), (Kk37, Kv37)]), (43, [(Kk31, Kv31)]), (28, [(Kk50, Kv50)]), (30, [(Kk51, Kv51)]), (38, [(Kk52, Kv52)])] 200 (.fn (.func 12) [] []) Kk53 emptyH) = some (.val Kv53) := by kernel_rfl
theorem Kq54 : valOf (evM (ctxOf Kit Kbt Kex) 100000 [(42, [(Kk0, Kv0)]), (43, [(Kk1, Kv1)])] 200 (.fn (.func 28) [] []) Kk54 emptyH) = some (.val Kv54) := by kernel_rfl
theorem Kq55 : valOf (evM (ctxOf Kit Kbt Kex) 100000 [(44, [(Kk15, Kv15)])] 200 (.fn (.func 30) [] []) Kk55 emptyH) = some (.val Kv55) := by kernel_rfl
theorem Kq56 : valOf (evM (ctxOf Kit Kbt Kex) 100000 [] 200 (.fn (.func 52) [] []) Kk56 emptyH) = some (.val Kv56) := by kernel_rfl
theorem Kq57 : valOf (evM (ctxOf Kit Kbt Kex) 100000 [(52, [(Kk56, Kv56)])] 200 (.fn (.func 38) [] []) Kk57 emptyH) = some (.val Kv57) := by kernel_rfl
theorem Kq58 : valOf (evM (ctxOf Kit Kbt Kex) 100000 [] 200 (.fn (.func 52) [] []) Kk58 emptyH) = some (.val Kv58) := by kernel_rfl
theorem Kq59 : valOf (evM (ctxOf Kit Kbt Kex) 100000 [(52, [(Kk58, Kv58)])] 200 (.fn (.func 38) [] []) Kk59 emptyH) = some (.val Kv59) := by kernel_rfl
theorem Kq60 : valOf (evM (ctxOf Kit Kbt Kex) 100000 [] 200 (.fn (.func 52) [] []) Kk60 emptyH) = some (.val Kv60) := by kernel_rfl
theorem Kq61 : valOf (evM (ctxOf Kit Kbt Kex) 100000 [(52, [(Kk60, Kv60)])] 200 (.fn (.func 38) [] []) Kk61 emptyH) = some (.val Kv61) := by kernel_rfl
theorem Kq62 : valOf (evM (ctxOf Kit Kbt Kex) 100000 [(42, [(Kk0, Kv0)]), (43, [(Kk1, Kv1), (Kk31, Kv31), (Kk40, Kv40), (Kk43, Kv43)]), (81, [(Kk3, Kv3)]), (82, [(Kk4, Kv4), (Kk5, Kv5), (Kk6, Kv6), (Kk7, Kv7), (Kk9, Kv9), (Kk10, Kv10), (Kk11, Kv11), (Kk12, Kv12)]), (83, [(Kk8, Kv8), (Kk13, Kv13), (Kk32, Kv32), (Kk33, Kv33), (Kk34, Kv34), (Kk35, Kv35), (Kk36, Kv36), (Kk37, Kv37)]), (28, [(Kk54, Kv54)]), (30, [(Kk55, Kv55)]), (38, [(Kk57, Kv57), (Kk59, Kv59), (Kk61, Kv61)])] 200 (.fn (.func 7) [] []) Kk62 emptyH) = some (.val Kv62) := by kernel_rfl
theorem Kq63 : valOf (evM (ctxOf Kit Kbt Kex) 100000 [(7, [(Kk62, Kv62)])] 200 (.fn (.func 12) [] []) Kk63 emptyH) = some (.val Kv63) := by kernel_rfl
theorem Kq64 : valOf (evM (ctxOf Kit Kbt Kex) 100000 [] 200 (.fn (.func 52) [] []) Kk64 emptyH) = some (.val Kv64) := by kernel_rfl
theorem Kq65 : valOf (evM (ctxOf Kit Kbt Kex) 100000 [(52, [(Kk64, Kv64)])] 200 (.fn (.func 38) [] []) Kk65 emptyH) = some (.val Kv65) := by kernel_rfl
theorem Kq66 : valOf (evM (ctxOf Kit Kbt Kex) 100000 [(42, [(Kk0, Kv0)]), (43, [(Kk1, Kv1), (Kk31, Kv31), (Kk40, Kv40), (Kk43, Kv43)]), (81, [(Kk3, Kv3)]), (82, [(Kk4, Kv4), (Kk5, Kv5), (Kk6, Kv6), (Kk7, Kv7), (Kk9, Kv9), (Kk10, Kv10), (Kk11, Kv11), (Kk12, Kv12)]), (83, [(Kk8, Kv8), (Kk13, Kv13), (Kk32, Kv32), (Kk33, Kv33), (Kk34, Kv34), (Kk35, Kv35), (Kk36, Kv36), (Kk37, Kv37)]), (28, [(Kk29, Kv29)]), (30, [(Kk30, Kv30)]), (38, [(Kk39, Kv39), (Kk42, Kv42), (Kk65, Kv65)])] 200 (.fn (.func 13) [] []) Kk66 emptyH) = some (.val Kv66) := by kernel_rfl
end Go.Proofs.YtpjkppnbnopmmaaGreat.reasonKnown
