/- The machine runs these calls (part 3). -/
import Derived.Test.YtdodlmlcbhmikaaDoorAdjustKnownK
import Derived.KernelRfl
namespace Go.Proofs.YtdodlmlcbhmikaaDoor.adjustKnown
open Hx Go
set_option maxRecDepth 100000
theorem Kq119 : valOf (evM (ctxOf Kit Kbt Kex) 100000 [] 200 (.fn (.func 85) [] []) Kk119 emptyH) = some (.val Kv119) := by kernel_rfl
theorem Kq120 : valOf (evM (ctxOf Kit Kbt Kex) 100000 [(93, [(Kk44, Kv44)]), (94, [(Kk45, Kv45), (Kk47, Kv47), (Kk48, Kv48), (Kk50, Kv50), (Kk51, Kv51), (Kk53, Kv53), (Kk54, Kv54), (Kk56, Kv56)]), (95, [(Kk46, Kv46)])] 200 (.fn (.func 71) [] []) Kk120 emptyH) = some (.val Kv120) := by kernel_rfl
theorem Kq121 : valOf (evM (ctxOf Kit Kbt Kex) 100000 [(64, [(Kk40, Kv40)]), (85, [(Kk119, Kv119)]), (71, [(Kk120, Kv120)])] 200 (.fn (.func 50) [] []) Kk121 emptyH) = some (.val Kv121) := by kernel_rfl
theorem Kq122 : frzOf (evM (ctxOf Kit Kbt Kex) 100000 [] 200 (.fn (.func 47) [] []) Kk122 emptyH) Kv122 = true := by kernel_rfl
theorem Kq123 : frzOf (evM (ctxOf Kit Kbt Kex) 100000 [] 200 (.fn (.func 47) [] []) Kk123 emptyH) Kv123 = true := by kernel_rfl
theorem Kq124 : frzOf (evM (ctxOf Kit Kbt Kex) 100000 [] 200 (.fn (.func 47) [] []) Kk124 emptyH) Kv124 = true := by kernel_rfl
theorem Kq125 : valOf (evM (ctxOf Kit Kbt Kex) 100000 [] 200 (.fn (.func 85) [] []) Kk125 emptyH) = some (.val Kv125) := by kernel_rfl
theorem Kq126 : valOf (evM (ctxOf Kit Kbt Kex) 100000 [(93, [(Kk44, Kv44)]), (94, [(Kk45, Kv45), (Kk47, Kv47), (Kk48, Kv48), (Kk50, Kv50), (Kk51, Kv51), (Kk53, Kv53), (Kk54, Kv54), (Kk56, Kv56)]), (95, [(Kk69, Kv69), (Kk70, Kv70)])] 200 (.fn (.func 71) [] []) Kk126 emptyH) = some (.val Kv126) := by kernel_rfl
theorem Kq127 : valOf (evM (ctxOf Kit Kbt Kex) 100000 [(64, [(Kk40, Kv40)]), (85, [(Kk125, Kv125)]), (71, [(Kk126, Kv126)])] 200 (.fn (.func 50) [] []) Kk127 emptyH) = some (.val Kv127) := by kernel_rfl
theorem Kq128 : valOf (evM (ctxOf Kit Kbt Kex) 100000 [] 200 (.fn (.func 85) [] []) Kk128 emptyH) = some (.val Kv128) := by kernel_rfl
theorem Kq129 : valOf (evM (ctxOf Kit Kbt Kex) 100000 [(93, [(Kk44, Kv44)]), (94, [(Kk45, Kv45), (Kk47, Kv47), (Kk48, Kv48), (Kk50, Kv50), (Kk51, Kv51), (Kk53, Kv53), (Kk54, Kv54), (Kk56, Kv56)]), (95, [(Kk69, Kv69)])] 200 (.fn (.func 71) [] []) Kk129 emptyH) = some (.val Kv129) := by kernel_rfl
theorem Kq130 : valOf (evM (ctxOf Kit Kbt Kex) 100000 [(64, [(Kk40, Kv40)]), (85, [(Kk128, Kv128)]), (71, [(Kk129, Kv129)])] 200 (.fn (.func 50) [] []) Kk130 emptyH) = some (.val Kv130) := by kernel_rfl
theorem Kq131 : frzOf (evM (ctxOf Kit Kbt Kex) 100000 [] 200 (.fn (.func 47) [] []) Kk131 emptyH) Kv131 = true := by kernel_rfl
theorem Kq132 : frzOf (evM (ctxOf Kit Kbt Kex) 100000 [] 200 (.fn (.func 47) [] []) Kk132 emptyH) Kv132 = true := by kernel_rfl
theorem Kq133 : frzOf (evM (ctxOf Kit Kbt Kex) 100000 [] 200 (.fn (.func 47) [] []) Kk133 emptyH) Kv133 = true := by kernel_rfl
theorem Kq134 : frzOf (evM (ctxOf Kit Kbt Kex) 100000 [] 200 (.fn (.func 47) [] []) Kk134 emptyH) Kv134 = true := by kernel_rfl
theorem Kq135 : frzOf (evM (ctxOf Kit Kbt Kex) 100000 [] 200 (.fn (.func 47) [] []) Kk135 emptyH) Kv135 = true := by kernel_rfl
theorem Kq136 : valOf (evM (ctxOf Kit Kbt Kex) 100000 [] 200 (.fn (.func 85) [] []) Kk136 emptyH) = some (.val Kv136) := by kernel_rfl
theorem Kq137 : valOf (evM (ctxOf Kit Kbt Kex) 100000 [(93, [(Kk44, Kv44)]), (94, [(Kk45, Kv45), (Kk47, Kv47), (Kk48, Kv48), (Kk50, Kv50), (Kk51, Kv51), (Kk53, Kv53), (Kk54, Kv54), (Kk56, Kv56)]), (95, [(Kk49, Kv49)])] 200 (.fn (.func 71) [] []) Kk137 emptyH) = some (.val Kv137) := by kernel_rfl
theorem Kq138 : valOf (evM (ctxOf Kit Kbt Kex) 100000 [(64, [(Kk40, Kv40)]), (85, [(Kk136, Kv136)]), (71, [(Kk137, Kv137)])] 200 (.fn (.func 50) [] []) Kk138 emptyH) = some (.val Kv138) := by kernel_rfl
theorem Kq139 : frzOf (evM (ctxOf Kit Kbt Kex) 100000 [] 200 (.fn (.func 47) [] []) Kk139 emptyH) Kv139 = true := by kernel_rfl
theorem Kq140 : valOf (evM (ctxOf Kit Kbt Kex) 100000 [] 200 (.fn (.func 85) [] []) Kk140 emptyH) = some (.val Kv140) := by kernel_rfl
theorem Kq141 : valOf (evM (ctxOf Kit Kbt Kex) 100000 [(93, [(Kk44, Kv44)]), (94, [(Kk45, Kv45), (Kk47, Kv47), (Kk48, Kv48), (Kk50, Kv50), (Kk51, Kv51), (Kk53, Kv53), (Kk54, Kv54), (Kk56, Kv56)]), (95, [(Kk70, Kv70)])] 200 (.fn (.func 71) [] []) Kk141 emptyH) = some (.val Kv141) := by kernel_rfl
theorem Kq142 : valOf (evM (ctxOf Kit Kbt Kex) 100000 [(64, [(Kk40, Kv40)]), (85, [(Kk140, Kv140)]), (71, [(Kk141, Kv141)])] 200 (.fn (.func 50) [] []) Kk142 emptyH) = some (.val Kv142) := by kernel_rfl
theorem Kq143 : frzOf (evM (ctxOf Kit Kbt Kex) 100000 [] 200 (.fn (.func 47) [] []) Kk143 emptyH) Kv143 = true := by kernel_rfl
theorem Kq144 : frzOf (evM (ctxOf Kit Kbt Kex) 100000 [] 200 (.fn (.func 47) [] []) Kk144 emptyH) Kv144 = true := by kernel_rfl
end Go.Proofs.YtdodlmlcbhmikaaDoor.adjustKnown
