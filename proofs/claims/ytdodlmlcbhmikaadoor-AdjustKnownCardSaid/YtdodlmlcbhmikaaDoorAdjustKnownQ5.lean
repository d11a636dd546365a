/- The machine runs these calls (part 5). -/
import Derived.Test.YtdodlmlcbhmikaaDoorAdjustKnownK
import Derived.KernelRfl
namespace Go.Proofs.YtdodlmlcbhmikaaDoor.adjustKnown
open Hx Go
set_option maxRecDepth 100000
theorem Kq191 : valOf (evM (ctxOf Kit Kbt Kex) 100000 [] 200 (.fn (.func 85) [] []) Kk191 emptyH) = some (.val Kv191) := by kernel_rfl
theorem Kq192 : valOf (evM (ctxOf Kit Kbt Kex) 100000 [(93, [(Kk151, Kv151)]), (94, [(Kk152, Kv152), (Kk154, Kv154), (Kk156, Kv156), (Kk158, Kv158)]), (95, [(Kk155, Kv155), (Kk159, Kv159)])] 200 (.fn (.func 71) [] []) Kk192 emptyH) = some (.val Kv192) := by kernel_rfl
theorem Kq193 : valOf (evM (ctxOf Kit Kbt Kex) 100000 [(64, [(Kk148, Kv148)]), (85, [(Kk191, Kv191)]), (71, [(Kk192, Kv192)])] 200 (.fn (.func 50) [] []) Kk193 emptyH) = some (.val Kv193) := by kernel_rfl
theorem Kq194 : frzOf (evM (ctxOf Kit Kbt Kex) 100000 [] 200 (.fn (.func 47) [] []) Kk194 emptyH) Kv194 = true := by kernel_rfl
theorem Kq195 : frzOf (evM (ctxOf Kit Kbt Kex) 100000 [] 200 (.fn (.func 47) [] []) Kk195 emptyH) Kv195 = true := by kernel_rfl
theorem Kq196 : valOf (evM (ctxOf Kit Kbt Kex) 100000 [] 200 (.fn (.func 85) [] []) Kk196 emptyH) = some (.val Kv196) := by kernel_rfl
theorem Kq197 : valOf (evM (ctxOf Kit Kbt Kex) 100000 [(93, [(Kk151, Kv151)]), (94, [(Kk152, Kv152), (Kk154, Kv154), (Kk156, Kv156), (Kk158, Kv158)]), (95, [(Kk159, Kv159)])] 200 (.fn (.func 71) [] []) Kk197 emptyH) = some (.val Kv197) := by kernel_rfl
theorem Kq198 : valOf (evM (ctxOf Kit Kbt Kex) 100000 [(64, [(Kk148, Kv148)]), (85, [(Kk196, Kv196)]), (71, [(Kk197, Kv197)])] 200 (.fn (.func 50) [] []) Kk198 emptyH) = some (.val Kv198) := by kernel_rfl
theorem Kq199 : frzOf (evM (ctxOf Kit Kbt Kex) 100000 [(47, [(Kk42, Kv42), (Kk82, Kv82), (Kk181, Kv181), (Kk194, Kv194), (Kk195, Kv195)]), (45, [(Kk149, Kv149)]), (50, [(Kk161, Kv161), (Kk188, Kv188), (Kk193, Kv193), (Kk198, Kv198)]), (24, [(Kk190, Kv190)])] 200 (.fn (.func 5) [] []) Kk199 emptyH) Kv199 = true := by kernel_rfl
theorem Kq200 : valOf (evM (ctxOf Kit Kbt Kex) 100000 [] 200 (.fn (.func 85) [] []) Kk200 emptyH) = some (.val Kv200) := by kernel_rfl
theorem Kq201 : valOf (evM (ctxOf Kit Kbt Kex) 100000 [(93, [(Kk151, Kv151)]), (94, [(Kk152, Kv152), (Kk154, Kv154), (Kk156, Kv156), (Kk158, Kv158)]), (95, [(Kk153, Kv153), (Kk157, Kv157)])] 200 (.fn (.func 71) [] []) Kk201 emptyH) = some (.val Kv201) := by kernel_rfl
theorem Kq202 : valOf (evM (ctxOf Kit Kbt Kex) 100000 [(64, [(Kk148, Kv148)]), (85, [(Kk200, Kv200)]), (71, [(Kk201, Kv201)])] 200 (.fn (.func 50) [] []) Kk202 emptyH) = some (.val Kv202) := by kernel_rfl
theorem Kq203 : valOf (evM (ctxOf Kit Kbt Kex) 100000 [] 200 (.fn (.func 85) [] []) Kk203 emptyH) = some (.val Kv203) := by kernel_rfl
theorem Kq204 : valOf (evM (ctxOf Kit Kbt Kex) 100000 [(93, [(Kk151, Kv151)]), (94, [(Kk152, Kv152), (Kk154, Kv154), (Kk156, Kv156), (Kk158, Kv158)]), (95, [(Kk157, Kv157)])] 200 (.fn (.func 71) [] []) Kk204 emptyH) = some (.val Kv204) := by kernel_rfl
theorem Kq205 : valOf (evM (ctxOf Kit Kbt Kex) 100000 [(64, [(Kk148, Kv148)]), (85, [(Kk203, Kv203)]), (71, [(Kk204, Kv204)])] 200 (.fn (.func 50) [] []) Kk205 emptyH) = some (.val Kv205) := by kernel_rfl
theorem Kq206 : frzOf (evM (ctxOf Kit Kbt Kex) 100000 [(47, [(Kk42, Kv42), (Kk82, Kv82), (Kk92, Kv92), (Kk181, Kv181), (Kk185, Kv185), (Kk194, Kv194), (Kk195, Kv195)]), (45, [(Kk149, Kv149)]), (50, [(Kk184, Kv184), (Kk188, Kv188), (Kk193, Kv193), (Kk198, Kv198), (Kk202, Kv202), (Kk205, Kv205)]), (24, [(Kk190, Kv190)])] 200 (.fn (.func 6) [] []) Kk206 emptyH) Kv206 = true := by kernel_rfl
theorem Kq207 : valOf (evM (ctxOf Kit Kbt Kex) 100000 [] 200 (.fn (.func 24) [] []) Kk207 emptyH) = some (.val Kv207) := by kernel_rfl
theorem Kq208 : valOf (evM (ctxOf Kit Kbt Kex) 100000 [] 200 (.fn (.func 36) [] []) Kk208 emptyH) = some (.val Kv208) := by kernel_rfl
theorem Kq209 : valOf (evM (ctxOf Kit Kbt Kex) 100000 [(36, [(Kk208, Kv208)])] 200 (.fn (.func 26) [] []) Kk209 emptyH) = some (.val Kv209) := by kernel_rfl
theorem Kq210 : valOf (evM (ctxOf Kit Kbt Kex) 100000 [] 200 (.fn (.func 24) [] []) Kk210 emptyH) = some (.val Kv210) := by kernel_rfl
theorem Kq211 : valOf (evM (ctxOf Kit Kbt Kex) 100000 [] 200 (.fn (.func 60) [] []) Kk211 emptyH) = some (.val Kv211) := by kernel_rfl
theorem Kq212 : valOf (evM (ctxOf Kit Kbt Kex) 100000 [(60, [(Kk211, Kv211)])] 200 (.fn (.func 36) [] []) Kk212 emptyH) = some (.val Kv212) := by kernel_rfl
theorem Kq213 : valOf (evM (ctxOf Kit Kbt Kex) 100000 [(36, [(Kk212, Kv212)])] 200 (.fn (.func 26) [] []) Kk213 emptyH) = some (.val Kv213) := by kernel_rfl
theorem Kq214 : valOf (evM (ctxOf Kit Kbt Kex) 100000 [(24, [(Kk210, Kv210)]), (26, [(Kk213, Kv213)])] 200 (.fn (.func 7) [] []) Kk214 emptyH) = some (.val Kv214) := by kernel_rfl
theorem Kq215 : valOf (evM (ctxOf Kit Kbt Kex) 100000 [] 200 (.fn (.func 36) [] []) Kk215 emptyH) = some (.val Kv215) := by kernel_rfl
theorem Kq216 : valOf (evM (ctxOf Kit Kbt Kex) 100000 [] 200 (.fn (.func 36) [] []) Kk216 emptyH) = some (.val Kv216) := by kernel_rfl
theorem Kq217 : valOf (evM (ctxOf Kit Kbt Kex) 100000 [(36, [(Kk215, Kv215), (Kk216, Kv216)])] 200 (.fn (.func 8) [] []) Kk217 emptyH) = some (.val Kv217) := by kernel_rfl
theorem Kq218 : valOf (evM (ctxOf Kit Kbt Kex) 100000 [(36, [(Kk208, Kv208)])] 200 (.fn (.func 26) [] []) Kk218 emptyH) = some (.val Kv218) := by kernel_rfl
theorem Kq219 : valOf (evM (ctxOf Kit Kbt Kex) 100000 [(26, [(Kk218, Kv218)])] 200 (.fn (.func 13) [] []) Kk219 emptyH) = some (.val Kv219) := by kernel_rfl
theorem Kq220 : valOf (evM (ctxOf Kit Kbt Kex) 100000 [(4, [(Kk146, Kv146)]), (5, [(Kk165, Kv165), (Kk189, Kv189), (Kk199, Kv199)]), (6, [(Kk166, Kv166), (Kk168, Kv168), (Kk171, Kv171), (Kk206, Kv206)]), (7, [(Kk173, Kv173), (Kk214, Kv214)]), (8, [(Kk175, Kv175), (Kk177, Kv177), (Kk217, Kv217)]), (24, [(Kk207, Kv207)]), (26, [(Kk209, Kv209)]), (13, [(Kk219, Kv219)])] 200 (.fn (.func 3) [] []) Kk220 emptyH) = some (.val Kv220) := by kernel_rfl
end Go.Proofs.YtdodlmlcbhmikaaDoor.adjustKnown
