/- The machine runs these calls (part 2). -/
import Derived.Test.YtdodlmlcbhmikaaDoorAdjustKnownK
import Derived.KernelRfl
namespace Go.Proofs.YtdodlmlcbhmikaaDoor.adjustKnown
open Hx Go
set_option maxRecDepth 100000
theorem Kq94 : frzOf (evM (ctxOf Kit Kbt Kex) 100000 [(24, [(Kk12, Kv12)]), (45, [(Kk41, Kv41)]), (47, [(Kk42, Kv42), (Kk62, Kv62), (Kk66, Kv66), (Kk67, Kv67), (Kk81, Kv81), (Kk82, Kv82), (Kk86, Kv86), (Kk87, Kv87), (Kk91, Kv91), (Kk92, Kv92), (Kk93, Kv93)]), (50, [(Kk58, Kv58), (Kk61, Kv61), (Kk65, Kv65), (Kk74, Kv74), (Kk77, Kv77), (Kk80, Kv80), (Kk85, Kv85), (Kk90, Kv90)])] 200 (.fn (.func 5) [] []) Kk94 emptyH) Kv94 = true := by kernel_rfl
theorem Kq95 : valOf (evM (ctxOf Kit Kbt Kex) 100000 [] 200 (.fn (.func 85) [] []) Kk95 emptyH) = some (.val Kv95) := by kernel_rfl
theorem Kq96 : valOf (evM (ctxOf Kit Kbt Kex) 100000 [(93, [(Kk44, Kv44)]), (94, [(Kk45, Kv45), (Kk47, Kv47), (Kk48, Kv48), (Kk50, Kv50), (Kk51, Kv51), (Kk53, Kv53), (Kk54, Kv54), (Kk56, Kv56)]), (95, [(Kk46, Kv46), (Kk49, Kv49), (Kk52, Kv52), (Kk55, Kv55), (Kk69, Kv69), (Kk70, Kv70), (Kk71, Kv71), (Kk72, Kv72)])] 200 (.fn (.func 71) [] []) Kk96 emptyH) = some (.val Kv96) := by kernel_rfl
theorem Kq97 : valOf (evM (ctxOf Kit Kbt Kex) 100000 [(64, [(Kk40, Kv40)]), (85, [(Kk95, Kv95)]), (71, [(Kk96, Kv96)])] 200 (.fn (.func 50) [] []) Kk97 emptyH) = some (.val Kv97) := by kernel_rfl
theorem Kq98 : valOf (evM (ctxOf Kit Kbt Kex) 100000 [] 200 (.fn (.func 85) [] []) Kk98 emptyH) = some (.val Kv98) := by kernel_rfl
theorem Kq99 : valOf (evM (ctxOf Kit Kbt Kex) 100000 [(93, [(Kk44, Kv44)]), (94, [(Kk45, Kv45), (Kk47, Kv47), (Kk48, Kv48), (Kk50, Kv50), (Kk51, Kv51), (Kk53, Kv53), (Kk54, Kv54), (Kk56, Kv56)]), (95, [(Kk52, Kv52), (Kk55, Kv55), (Kk71, Kv71), (Kk72, Kv72)])] 200 (.fn (.func 71) [] []) Kk99 emptyH) = some (.val Kv99) := by kernel_rfl
theorem Kq100 : valOf (evM (ctxOf Kit Kbt Kex) 100000 [(64, [(Kk40, Kv40)]), (85, [(Kk98, Kv98)]), (71, [(Kk99, Kv99)])] 200 (.fn (.func 50) [] []) Kk100 emptyH) = some (.val Kv100) := by kernel_rfl
theorem Kq101 : frzOf (evM (ctxOf Kit Kbt Kex) 100000 [] 200 (.fn (.func 47) [] []) Kk101 emptyH) Kv101 = true := by kernel_rfl
theorem Kq102 : valOf (evM (ctxOf Kit Kbt Kex) 100000 [] 200 (.fn (.func 85) [] []) Kk102 emptyH) = some (.val Kv102) := by kernel_rfl
theorem Kq103 : valOf (evM (ctxOf Kit Kbt Kex) 100000 [(93, [(Kk44, Kv44)]), (94, [(Kk45, Kv45), (Kk47, Kv47), (Kk48, Kv48), (Kk50, Kv50), (Kk51, Kv51), (Kk53, Kv53), (Kk54, Kv54), (Kk56, Kv56)]), (95, [(Kk52, Kv52), (Kk71, Kv71)])] 200 (.fn (.func 71) [] []) Kk103 emptyH) = some (.val Kv103) := by kernel_rfl
theorem Kq104 : valOf (evM (ctxOf Kit Kbt Kex) 100000 [(64, [(Kk40, Kv40)]), (85, [(Kk102, Kv102)]), (71, [(Kk103, Kv103)])] 200 (.fn (.func 50) [] []) Kk104 emptyH) = some (.val Kv104) := by kernel_rfl
theorem Kq105 : frzOf (evM (ctxOf Kit Kbt Kex) 100000 [] 200 (.fn (.func 47) [] []) Kk105 emptyH) Kv105 = true := by kernel_rfl
theorem Kq106 : frzOf (evM (ctxOf Kit Kbt Kex) 100000 [] 200 (.fn (.func 47) [] []) Kk106 emptyH) Kv106 = true := by kernel_rfl
theorem Kq107 : valOf (evM (ctxOf Kit Kbt Kex) 100000 [] 200 (.fn (.func 85) [] []) Kk107 emptyH) = some (.val Kv107) := by kernel_rfl
theorem Kq108 : valOf (evM (ctxOf Kit Kbt Kex) 100000 [(93, [(Kk44, Kv44)]), (94, [(Kk45, Kv45), (Kk47, Kv47), (Kk48, Kv48), (Kk50, Kv50), (Kk51, Kv51), (Kk53, Kv53), (Kk54, Kv54), (Kk56, Kv56)]), (95, [(Kk55, Kv55), (Kk72, Kv72)])] 200 (.fn (.func 71) [] []) Kk108 emptyH) = some (.val Kv108) := by kernel_rfl
theorem Kq109 : valOf (evM (ctxOf Kit Kbt Kex) 100000 [(64, [(Kk40, Kv40)]), (85, [(Kk107, Kv107)]), (71, [(Kk108, Kv108)])] 200 (.fn (.func 50) [] []) Kk109 emptyH) = some (.val Kv109) := by kernel_rfl
theorem Kq110 : frzOf (evM (ctxOf Kit Kbt Kex) 100000 [] 200 (.fn (.func 47) [] []) Kk110 emptyH) Kv110 = true := by kernel_rfl
theorem Kq111 : frzOf (evM (ctxOf Kit Kbt Kex) 100000 [] 200 (.fn (.func 47) [] []) Kk111 emptyH) Kv111 = true := by kernel_rfl
theorem Kq112 : frzOf (evM (ctxOf Kit Kbt Kex) 100000 [(24, [(Kk1, Kv1)]), (45, [(Kk41, Kv41)]), (47, [(Kk42, Kv42), (Kk101, Kv101), (Kk105, Kv105), (Kk106, Kv106), (Kk110, Kv110), (Kk111, Kv111)]), (50, [(Kk97, Kv97), (Kk100, Kv100), (Kk104, Kv104), (Kk109, Kv109)])] 200 (.fn (.func 5) [] []) Kk112 emptyH) Kv112 = true := by kernel_rfl
theorem Kq113 : valOf (evM (ctxOf Kit Kbt Kex) 100000 [] 200 (.fn (.func 85) [] []) Kk113 emptyH) = some (.val Kv113) := by kernel_rfl
theorem Kq114 : valOf (evM (ctxOf Kit Kbt Kex) 100000 [(93, [(Kk44, Kv44)]), (94, [(Kk45, Kv45), (Kk47, Kv47), (Kk48, Kv48), (Kk50, Kv50), (Kk51, Kv51), (Kk53, Kv53), (Kk54, Kv54), (Kk56, Kv56)]), (95, [(Kk46, Kv46), (Kk49, Kv49), (Kk69, Kv69), (Kk70, Kv70)])] 200 (.fn (.func 71) [] []) Kk114 emptyH) = some (.val Kv114) := by kernel_rfl
theorem Kq115 : valOf (evM (ctxOf Kit Kbt Kex) 100000 [(64, [(Kk40, Kv40)]), (85, [(Kk113, Kv113)]), (71, [(Kk114, Kv114)])] 200 (.fn (.func 50) [] []) Kk115 emptyH) = some (.val Kv115) := by kernel_rfl
theorem Kq116 : valOf (evM (ctxOf Kit Kbt Kex) 100000 [] 200 (.fn (.func 85) [] []) Kk116 emptyH) = some (.val Kv116) := by kernel_rfl
theorem Kq117 : valOf (evM (ctxOf Kit Kbt Kex) 100000 [(93, [(Kk44, Kv44)]), (94, [(Kk45, Kv45), (Kk47, Kv47), (Kk48, Kv48), (Kk50, Kv50), (Kk51, Kv51), (Kk53, Kv53), (Kk54, Kv54), (Kk56, Kv56)]), (95, [(Kk46, Kv46), (Kk49, Kv49)])] 200 (.fn (.func 71) [] []) Kk117 emptyH) = some (.val Kv117) := by kernel_rfl
theorem Kq118 : valOf (evM (ctxOf Kit Kbt Kex) 100000 [(64, [(Kk40, Kv40)]), (85, [(Kk116, Kv116)]), (71, [(Kk117, Kv117)])] 200 (.fn (.func 50) [] []) Kk118 emptyH) = some (.val Kv118) := by kernel_rfl
end Go.Proofs.YtdodlmlcbhmikaaDoor.adjustKnown
