/- The machine runs these calls (part 4). -/
import Derived.Test.YtdodlmlcbhmikaaDoorAdjustKnownK
import Derived.KernelRfl
namespace Go.Proofs.YtdodlmlcbhmikaaDoor.adjustKnown
open Hx Go
set_option maxRecDepth 100000
theorem Kq145 : frzOf (evM (ctxOf Kit Kbt Kex) 100000 [(24, [(Kk12, Kv12)]), (45, [(Kk41, Kv41)]), (47, [(Kk42, Kv42), (Kk62, Kv62), (Kk66, Kv66), (Kk67, Kv67), (Kk81, Kv81), (Kk82, Kv82), (Kk86, Kv86), (Kk87, Kv87), (Kk91, Kv91), (Kk92, Kv92), (Kk106, Kv106), (Kk122, Kv122), (Kk123, Kv123), (Kk124, Kv124), (Kk131, Kv131), (Kk132, Kv132), (Kk133, Kv133), (Kk134, Kv134), (Kk135, Kv135), (Kk139, Kv139), (Kk143, Kv143), (Kk144, Kv144)]), (50, [(Kk61, Kv61), (Kk65, Kv65), (Kk77, Kv77), (Kk80, Kv80), (Kk85, Kv85), (Kk90, Kv90), (Kk100, Kv100), (Kk115, Kv115), (Kk118, Kv118), (Kk121, Kv121), (Kk127, Kv127), (Kk130, Kv130), (Kk138, Kv138), (Kk142, Kv142)])] 200 (.fn (.func 6) [] []) Kk145 emptyH) Kv145 = true := by kernel_rfl
theorem Kq146 : valOf (evM (ctxOf Kit Kbt Kex) 100000 [(5, [(Kk3, Kv3), (Kk94, Kv94), (Kk112, Kv112)]), (13, [(Kk5, Kv5), (Kk7, Kv7), (Kk11, Kv11), (Kk16, Kv16), (Kk35, Kv35), (Kk39, Kv39)]), (26, [(Kk10, Kv10), (Kk15, Kv15)]), (24, [(Kk17, Kv17)]), (7, [(Kk18, Kv18)]), (8, [(Kk27, Kv27), (Kk30, Kv30)]), (6, [(Kk145, Kv145)])] 200 (.fn (.func 4) [] []) Kk146 emptyH) = some (.val Kv146) := by kernel_rfl
theorem Kq147 : valOf (evM (ctxOf Kit Kbt Kex) 100000 [] 200 (.fn (.func 24) [] []) Kk147 emptyH) = some (.val Kv147) := by kernel_rfl
theorem Kq148 : valOf (evM (ctxOf Kit Kbt Kex) 100000 [] 200 (.fn (.func 64) [] []) Kk148 emptyH) = some (.val Kv148) := by kernel_rfl
theorem Kq149 : valOf (evM (ctxOf Kit Kbt Kex) 100000 [(64, [(Kk148, Kv148)])] 200 (.fn (.func 45) [] []) Kk149 emptyH) = some (.val Kv149) := by kernel_rfl
theorem Kq150 : valOf (evM (ctxOf Kit Kbt Kex) 100000 [] 200 (.fn (.func 85) [] []) Kk150 emptyH) = some (.val Kv150) := by kernel_rfl
theorem Kq151 : valOf (evM (ctxOf Kit Kbt Kex) 100000 [] 200 (.fn (.func 93) [] []) Kk151 emptyH) = some (.val Kv151) := by kernel_rfl
theorem Kq152 : frzOf (evM (ctxOf Kit Kbt Kex) 100000 [] 200 (.fn (.func 94) [] []) Kk152 emptyH) Kv152 = true := by kernel_rfl
theorem Kq153 : valOf (evM (ctxOf Kit Kbt Kex) 100000 [(94, [(Kk152, Kv152)])] 200 (.fn (.func 95) [] []) Kk153 emptyH) = some (.val Kv153) := by kernel_rfl
theorem Kq154 : frzOf (evM (ctxOf Kit Kbt Kex) 100000 [] 200 (.fn (.func 94) [] []) Kk154 emptyH) Kv154 = true := by kernel_rfl
theorem Kq155 : valOf (evM (ctxOf Kit Kbt Kex) 100000 [(94, [(Kk154, Kv154)])] 200 (.fn (.func 95) [] []) Kk155 emptyH) = some (.val Kv155) := by kernel_rfl
theorem Kq156 : frzOf (evM (ctxOf Kit Kbt Kex) 100000 [] 200 (.fn (.func 94) [] []) Kk156 emptyH) Kv156 = true := by kernel_rfl
theorem Kq157 : valOf (evM (ctxOf Kit Kbt Kex) 100000 [(94, [(Kk156, Kv156)])] 200 (.fn (.func 95) [] []) Kk157 emptyH) = some (.val Kv157) := by kernel_rfl
theorem Kq158 : frzOf (evM (ctxOf Kit Kbt Kex) 100000 [] 200 (.fn (.func 94) [] []) Kk158 emptyH) Kv158 = true := by kernel_rfl
theorem Kq159 : valOf (evM (ctxOf Kit Kbt Kex) 100000 [(94, [(Kk158, Kv158)])] 200 (.fn (.func 95) [] []) Kk159 emptyH) = some (.val Kv159) := by kernel_rfl
theorem Kq160 : valOf (evM (ctxOf Kit Kbt Kex) 100000 [(93, [(Kk151, Kv151)]), (94, [(Kk152, Kv152), (Kk154, Kv154), (Kk156, Kv156), (Kk158, Kv158)]), (95, [(Kk153, Kv153), (Kk155, Kv155), (Kk157, Kv157), (Kk159, Kv159)])] 200 (.fn (.func 71) [] []) Kk160 emptyH) = some (.val Kv160) := by kernel_rfl
theorem Kq161 : valOf (evM (ctxOf Kit Kbt Kex) 100000 [(64, [(Kk148, Kv148)]), (85, [(Kk150, Kv150)]), (71, [(Kk160, Kv160)])] 200 (.fn (.func 50) [] []) Kk161 emptyH) = some (.val Kv161) := by kernel_rfl
theorem Kq162 : valOf (evM (ctxOf Kit Kbt Kex) 100000 [] 200 (.fn (.func 85) [] []) Kk162 emptyH) = some (.val Kv162) := by kernel_rfl
theorem Kq163 : valOf (evM (ctxOf Kit Kbt Kex) 100000 [(93, [(Kk151, Kv151)]), (94, [(Kk152, Kv152), (Kk154, Kv154), (Kk156, Kv156), (Kk158, Kv158)]), (95, [(Kk157, Kv157), (Kk159, Kv159)])] 200 (.fn (.func 71) [] []) Kk163 emptyH) = some (.val Kv163) := by kernel_rfl
theorem Kq164 : valOf (evM (ctxOf Kit Kbt Kex) 100000 [(64, [(Kk148, Kv148)]), (85, [(Kk162, Kv162)]), (71, [(Kk163, Kv163)])] 200 (.fn (.func 50) [] []) Kk164 emptyH) = some (.val Kv164) := by kernel_rfl
theorem Kq165 : valOf (evM (ctxOf Kit Kbt Kex) 100000 [(47, [(Kk42, Kv42)]), (24, [(Kk147, Kv147)]), (45, [(Kk149, Kv149)]), (50, [(Kk161, Kv161), (Kk164, Kv164)])] 200 (.fn (.func 5) [] []) Kk165 emptyH) = some (.val Kv165) := by kernel_rfl
theorem Kq166 : valOf (evM (ctxOf Kit Kbt Kex) 100000 [(47, [(Kk42, Kv42)]), (24, [(Kk147, Kv147)]), (45, [(Kk149, Kv149)]), (50, [(Kk164, Kv164)])] 200 (.fn (.func 6) [] []) Kk166 emptyH) = some (.val Kv166) := by kernel_rfl
theorem Kq167 : valOf (evM (ctxOf Kit Kbt Kex) 100000 [(24, [(Kk147, Kv147)])] 200 (.fn (.func 14) [] []) Kk167 emptyH) = some (.val Kv167) := by kernel_rfl
theorem Kq168 : valOf (evM (ctxOf Kit Kbt Kex) 100000 [(14, [(Kk167, Kv167)])] 200 (.fn (.func 6) [] []) Kk168 emptyH) = some (.val Kv168) := by kernel_rfl
theorem Kq169 : valOf (evM (ctxOf Kit Kbt Kex) 100000 [] 200 (.fn (.func 24) [] []) Kk169 emptyH) = some (.val Kv169) := by kernel_rfl
theorem Kq170 : valOf (evM (ctxOf Kit Kbt Kex) 100000 [(24, [(Kk169, Kv169)])] 200 (.fn (.func 14) [] []) Kk170 emptyH) = some (.val Kv170) := by kernel_rfl
theorem Kq171 : valOf (evM (ctxOf Kit Kbt Kex) 100000 [(14, [(Kk170, Kv170)])] 200 (.fn (.func 6) [] []) Kk171 emptyH) = some (.val Kv171) := by kernel_rfl
theorem Kq172 : valOf (evM (ctxOf Kit Kbt Kex) 100000 [] 200 (.fn (.func 24) [] []) Kk172 emptyH) = some (.val Kv172) := by kernel_rfl
theorem Kq173 : valOf (evM (ctxOf Kit Kbt Kex) 100000 [(24, [(Kk172, Kv172)])] 200 (.fn (.func 7) [] []) Kk173 emptyH) = some (.val Kv173) := by kernel_rfl
theorem Kq174 : valOf (evM (ctxOf Kit Kbt Kex) 100000 [] 200 (.fn (.func 24) [] []) Kk174 emptyH) = some (.val Kv174) := by kernel_rfl
theorem Kq175 : valOf (evM (ctxOf Kit Kbt Kex) 100000 [(24, [(Kk174, Kv174)])] 200 (.fn (.func 8) [] []) Kk175 emptyH) = some (.val Kv175) := by kernel_rfl
theorem Kq176 : valOf (evM (ctxOf Kit Kbt Kex) 100000 [] 200 (.fn (.func 24) [] []) Kk176 emptyH) = some (.val Kv176) := by kernel_rfl
theorem Kq177 : valOf (evM (ctxOf Kit Kbt Kex) 100000 [(24, [(Kk176, Kv176)])] 200 (.fn (.func 8) [] []) Kk177 emptyH) = some (.val Kv177) := by kernel_rfl
theorem Kq178 : valOf (evM (ctxOf Kit Kbt Kex) 100000 [] 200 (.fn (.func 85) [] []) Kk178 emptyH) = some (.val Kv178) := by kernel_rfl
theorem Kq179 : valOf (evM (ctxOf Kit Kbt Kex) 100000 [(93, [(Kk151, Kv151)]), (94, [(Kk152, Kv152), (Kk154, Kv154), (Kk156, Kv156), (Kk158, Kv158)]), (95, [(Kk153, Kv153), (Kk155, Kv155)])] 200 (.fn (.func 71) [] []) Kk179 emptyH) = some (.val Kv179) := by kernel_rfl
theorem Kq180 : valOf (evM (ctxOf Kit Kbt Kex) 100000 [(64, [(Kk148, Kv148)]), (85, [(Kk178, Kv178)]), (71, [(Kk179, Kv179)])] 200 (.fn (.func 50) [] []) Kk180 emptyH) = some (.val Kv180) := by kernel_rfl
theorem Kq181 : frzOf (evM (ctxOf Kit Kbt Kex) 100000 [] 200 (.fn (.func 47) [] []) Kk181 emptyH) Kv181 = true := by kernel_rfl
theorem Kq182 : valOf (evM (ctxOf Kit Kbt Kex) 100000 [] 200 (.fn (.func 85) [] []) Kk182 emptyH) = some (.val Kv182) := by kernel_rfl
theorem Kq183 : valOf (evM (ctxOf Kit Kbt Kex) 100000 [(93, [(Kk151, Kv151)]), (94, [(Kk152, Kv152), (Kk154, Kv154), (Kk156, Kv156), (Kk158, Kv158)]), (95, [(Kk153, Kv153)])] 200 (.fn (.func 71) [] []) Kk183 emptyH) = some (.val Kv183) := by kernel_rfl
theorem Kq184 : valOf (evM (ctxOf Kit Kbt Kex) 100000 [(64, [(Kk148, Kv148)]), (85, [(Kk182, Kv182)]), (71, [(Kk183, Kv183)])] 200 (.fn (.func 50) [] []) Kk184 emptyH) = some (.val Kv184) := by kernel_rfl
theorem Kq185 : frzOf (evM (ctxOf Kit Kbt Kex) 100000 [] 200 (.fn (.func 47) [] []) Kk185 emptyH) Kv185 = true := by kernel_rfl
theorem Kq186 : valOf (evM (ctxOf Kit Kbt Kex) 100000 [] 200 (.fn (.func 85) [] []) Kk186 emptyH) = some (.val Kv186) := by kernel_rfl
theorem Kq187 : valOf (evM (ctxOf Kit Kbt Kex) 100000 [(93, [(Kk151, Kv151)]), (94, [(Kk152, Kv152), (Kk154, Kv154), (Kk156, Kv156), (Kk158, Kv158)]), (95, [(Kk155, Kv155)])] 200 (.fn (.func 71) [] []) Kk187 emptyH) = some (.val Kv187) := by kernel_rfl
theorem Kq188 : valOf (evM (ctxOf Kit Kbt Kex) 100000 [(64, [(Kk148, Kv148)]), (85, [(Kk186, Kv186)]), (71, [(Kk187, Kv187)])] 200 (.fn (.func 50) [] []) Kk188 emptyH) = some (.val Kv188) := by kernel_rfl
theorem Kq189 : frzOf (evM (ctxOf Kit Kbt Kex) 100000 [(47, [(Kk42, Kv42), (Kk92, Kv92), (Kk181, Kv181), (Kk185, Kv185)]), (24, [(Kk147, Kv147)]), (45, [(Kk149, Kv149)]), (50, [(Kk161, Kv161), (Kk180, Kv180), (Kk184, Kv184), (Kk188, Kv188)])] 200 (.fn (.func 5) [] []) Kk189 emptyH) Kv189 = true := by kernel_rfl
theorem Kq190 : valOf (evM (ctxOf Kit Kbt Kex) 100000 [] 200 (.fn (.func 24) [] []) Kk190 emptyH) = some (.val Kv190) := by kernel_rfl
end Go.Proofs.YtdodlmlcbhmikaaDoor.adjustKnown
