/- The machine runs these calls (part 1). -/
import Derived.Test.YtdodlmlcbhmikaaDoorAdjustKnownK
import Derived.KernelRfl
namespace Go.Proofs.YtdodlmlcbhmikaaDoor.adjustKnown
open Hx Go
set_option maxRecDepth 100000
theorem Kq56 : frzOf (evM (ctxOf Kit Kbt Kex) 100000 [] 200 (.fn (.func 94) [] []) Kk56 emptyH) Kv56 = true := by kernel_rfl
theorem Kq57 : valOf (evM (ctxOf Kit Kbt Kex) 100000 [(93, [(Kk44, Kv44)]), (94, [(Kk45, Kv45), (Kk47, Kv47), (Kk48, Kv48), (Kk50, Kv50), (Kk51, Kv51), (Kk53, Kv53), (Kk54, Kv54), (Kk56, Kv56)]), (95, [(Kk46, Kv46), (Kk49, Kv49), (Kk52, Kv52), (Kk55, Kv55)])] 200 (.fn (.func 71) [] []) Kk57 emptyH) = some (.val Kv57) := by kernel_rfl
theorem Kq58 : valOf (evM (ctxOf Kit Kbt Kex) 100000 [(64, [(Kk40, Kv40)]), (85, [(Kk43, Kv43)]), (71, [(Kk57, Kv57)])] 200 (.fn (.func 50) [] []) Kk58 emptyH) = some (.val Kv58) := by kernel_rfl
theorem Kq59 : valOf (evM (ctxOf Kit Kbt Kex) 100000 [] 200 (.fn (.func 85) [] []) Kk59 emptyH) = some (.val Kv59) := by kernel_rfl
theorem Kq60 : valOf (evM (ctxOf Kit Kbt Kex) 100000 [(93, [(Kk44, Kv44)]), (94, [(Kk45, Kv45), (Kk47, Kv47), (Kk48, Kv48), (Kk50, Kv50), (Kk51, Kv51), (Kk53, Kv53), (Kk54, Kv54), (Kk56, Kv56)]), (95, [(Kk52, Kv52), (Kk55, Kv55)])] 200 (.fn (.func 71) [] []) Kk60 emptyH) = some (.val Kv60) := by kernel_rfl
theorem Kq61 : valOf (evM (ctxOf Kit Kbt Kex) 100000 [(64, [(Kk40, Kv40)]), (85, [(Kk59, Kv59)]), (71, [(Kk60, Kv60)])] 200 (.fn (.func 50) [] []) Kk61 emptyH) = some (.val Kv61) := by kernel_rfl
theorem Kq62 : frzOf (evM (ctxOf Kit Kbt Kex) 100000 [] 200 (.fn (.func 47) [] []) Kk62 emptyH) Kv62 = true := by kernel_rfl
theorem Kq63 : valOf (evM (ctxOf Kit Kbt Kex) 100000 [] 200 (.fn (.func 85) [] []) Kk63 emptyH) = some (.val Kv63) := by kernel_rfl
theorem Kq64 : valOf (evM (ctxOf Kit Kbt Kex) 100000 [(93, [(Kk44, Kv44)]), (94, [(Kk45, Kv45), (Kk47, Kv47), (Kk48, Kv48), (Kk50, Kv50), (Kk51, Kv51), (Kk53, Kv53), (Kk54, Kv54), (Kk56, Kv56)]), (95, [(Kk52, Kv52)])] 200 (.fn (.func 71) [] []) Kk64 emptyH) = some (.val Kv64) := by kernel_rfl
theorem Kq65 : valOf (evM (ctxOf Kit Kbt Kex) 100000 [(64, [(Kk40, Kv40)]), (85, [(Kk63, Kv63)]), (71, [(Kk64, Kv64)])] 200 (.fn (.func 50) [] []) Kk65 emptyH) = some (.val Kv65) := by kernel_rfl
theorem Kq66 : frzOf (evM (ctxOf Kit Kbt Kex) 100000 [] 200 (.fn (.func 47) [] []) Kk66 emptyH) Kv66 = true := by kernel_rfl
theorem Kq67 : frzOf (evM (ctxOf Kit Kbt Kex) 100000 [] 200 (.fn (.func 47) [] []) Kk67 emptyH) Kv67 = true := by kernel_rfl
theorem Kq68 : valOf (evM (ctxOf Kit Kbt Kex) 100000 [] 200 (.fn (.func 85) [] []) Kk68 emptyH) = some (.val Kv68) := by kernel_rfl
theorem Kq69 : valOf (evM (ctxOf Kit Kbt Kex) 100000 [(94, [(Kk47, Kv47)])] 200 (.fn (.func 95) [] []) Kk69 emptyH) = some (.val Kv69) := by kernel_rfl
theorem Kq70 : valOf (evM (ctxOf Kit Kbt Kex) 100000 [(94, [(Kk50, Kv50)])] 200 (.fn (.func 95) [] []) Kk70 emptyH) = some (.val Kv70) := by kernel_rfl
theorem Kq71 : valOf (evM (ctxOf Kit Kbt Kex) 100000 [(94, [(Kk53, Kv53)])] 200 (.fn (.func 95) [] []) Kk71 emptyH) = some (.val Kv71) := by kernel_rfl
theorem Kq72 : valOf (evM (ctxOf Kit Kbt Kex) 100000 [(94, [(Kk56, Kv56)])] 200 (.fn (.func 95) [] []) Kk72 emptyH) = some (.val Kv72) := by kernel_rfl
theorem Kq73 : valOf (evM (ctxOf Kit Kbt Kex) 100000 [(93, [(Kk44, Kv44)]), (94, [(Kk45, Kv45), (Kk47, Kv47), (Kk48, Kv48), (Kk50, Kv50), (Kk51, Kv51), (Kk53, Kv53), (Kk54, Kv54), (Kk56, Kv56)]), (95, [(Kk69, Kv69), (Kk70, Kv70), (Kk71, Kv71), (Kk72, Kv72)])] 200 (.fn (.func 71) [] []) Kk73 emptyH) = some (.val Kv73) := by kernel_rfl
theorem Kq74 : valOf (evM (ctxOf Kit Kbt Kex) 100000 [(64, [(Kk40, Kv40)]), (85, [(Kk68, Kv68)]), (71, [(Kk73, Kv73)])] 200 (.fn (.func 50) [] []) Kk74 emptyH) = some (.val Kv74) := by kernel_rfl
theorem Kq75 : valOf (evM (ctxOf Kit Kbt Kex) 100000 [] 200 (.fn (.func 85) [] []) Kk75 emptyH) = some (.val Kv75) := by kernel_rfl
theorem Kq76 : valOf (evM (ctxOf Kit Kbt Kex) 100000 [(93, [(Kk44, Kv44)]), (94, [(Kk45, Kv45), (Kk47, Kv47), (Kk48, Kv48), (Kk50, Kv50), (Kk51, Kv51), (Kk53, Kv53), (Kk54, Kv54), (Kk56, Kv56)]), (95, [(Kk71, Kv71), (Kk72, Kv72)])] 200 (.fn (.func 71) [] []) Kk76 emptyH) = some (.val Kv76) := by kernel_rfl
theorem Kq77 : valOf (evM (ctxOf Kit Kbt Kex) 100000 [(64, [(Kk40, Kv40)]), (85, [(Kk75, Kv75)]), (71, [(Kk76, Kv76)])] 200 (.fn (.func 50) [] []) Kk77 emptyH) = some (.val Kv77) := by kernel_rfl
theorem Kq78 : valOf (evM (ctxOf Kit Kbt Kex) 100000 [] 200 (.fn (.func 85) [] []) Kk78 emptyH) = some (.val Kv78) := by kernel_rfl
theorem Kq79 : valOf (evM (ctxOf Kit Kbt Kex) 100000 [(93, [(Kk44, Kv44)]), (94, [(Kk45, Kv45), (Kk47, Kv47), (Kk48, Kv48), (Kk50, Kv50), (Kk51, Kv51), (Kk53, Kv53), (Kk54, Kv54), (Kk56, Kv56)]), (95, [(Kk71, Kv71)])] 200 (.fn (.func 71) [] []) Kk79 emptyH) = some (.val Kv79) := by kernel_rfl
theorem Kq80 : valOf (evM (ctxOf Kit Kbt Kex) 100000 [(64, [(Kk40, Kv40)]), (85, [(Kk78, Kv78)]), (71, [(Kk79, Kv79)])] 200 (.fn (.func 50) [] []) Kk80 emptyH) = some (.val Kv80) := by kernel_rfl
theorem Kq81 : frzOf (evM (ctxOf Kit Kbt Kex) 100000 [] 200 (.fn (.func 47) [] []) Kk81 emptyH) Kv81 = true := by kernel_rfl
theorem Kq82 : frzOf (evM (ctxOf Kit Kbt Kex) 100000 [] 200 (.fn (.func 47) [] []) Kk82 emptyH) Kv82 = true := by kernel_rfl
theorem Kq83 : valOf (evM (ctxOf Kit Kbt Kex) 100000 [] 200 (.fn (.func 85) [] []) Kk83 emptyH) = some (.val Kv83) := by kernel_rfl
theorem Kq84 : valOf (evM (ctxOf Kit Kbt Kex) 100000 [(93, [(Kk44, Kv44)]), (94, [(Kk45, Kv45), (Kk47, Kv47), (Kk48, Kv48), (Kk50, Kv50), (Kk51, Kv51), (Kk53, Kv53), (Kk54, Kv54), (Kk56, Kv56)]), (95, [(Kk55, Kv55)])] 200 (.fn (.func 71) [] []) Kk84 emptyH) = some (.val Kv84) := by kernel_rfl
theorem Kq85 : valOf (evM (ctxOf Kit Kbt Kex) 100000 [(64, [(Kk40, Kv40)]), (85, [(Kk83, Kv83)]), (71, [(Kk84, Kv84)])] 200 (.fn (.func 50) [] []) Kk85 emptyH) = some (.val Kv85) := by kernel_rfl
theorem Kq86 : frzOf (evM (ctxOf Kit Kbt Kex) 100000 [] 200 (.fn (.func 47) [] []) Kk86 emptyH) Kv86 = true := by kernel_rfl
theorem Kq87 : frzOf (evM (ctxOf Kit Kbt Kex) 100000 [] 200 (.fn (.func 47) [] []) Kk87 emptyH) Kv87 = true := by kernel_rfl
theorem Kq88 : valOf (evM (ctxOf Kit Kbt Kex) 100000 [] 200 (.fn (.func 85) [] []) Kk88 emptyH) = some (.val Kv88) := by kernel_rfl
theorem Kq89 : valOf (evM (ctxOf Kit Kbt Kex) 100000 [(93, [(Kk44, Kv44)]), (94, [(Kk45, Kv45), (Kk47, Kv47), (Kk48, Kv48), (Kk50, Kv50), (Kk51, Kv51), (Kk53, Kv53), (Kk54, Kv54), (Kk56, Kv56)]), (95, [(Kk72, Kv72)])] 200 (.fn (.func 71) [] []) Kk89 emptyH) = some (.val Kv89) := by kernel_rfl
theorem Kq90 : valOf (evM (ctxOf Kit Kbt Kex) 100000 [(64, [(Kk40, Kv40)]), (85, [(Kk88, Kv88)]), (71, [(Kk89, Kv89)])] 200 (.fn (.func 50) [] []) Kk90 emptyH) = some (.val Kv90) := by kernel_rfl
theorem Kq91 : frzOf (evM (ctxOf Kit Kbt Kex) 100000 [] 200 (.fn (.func 47) [] []) Kk91 emptyH) Kv91 = true := by kernel_rfl
theorem Kq92 : frzOf (evM (ctxOf Kit Kbt Kex) 100000 [] 200 (.fn (.func 47) [] []) Kk92 emptyH) Kv92 = true := by kernel_rfl
theorem Kq93 : frzOf (evM (ctxOf Kit Kbt Kex) 100000 [] 200 (.fn (.func 47) [] []) Kk93 emptyH) Kv93 = true := by kernel_rfl
end Go.Proofs.YtdodlmlcbhmikaaDoor.adjustKnown
