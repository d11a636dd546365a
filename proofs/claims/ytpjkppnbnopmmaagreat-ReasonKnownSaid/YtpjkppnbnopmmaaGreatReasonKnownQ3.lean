/- The machine runs these calls (part 3). -/
import Derived.Test.YtpjkppnbnopmmaaGreatReasonKnownK
import Derived.KernelRfl
namespace Go.Proofs.YtpjkppnbnopmmaaGreat.reasonKnown
open Hx Go
set_option maxRecDepth 100000
theorem Kq109 : valOf (evM (ctxOf Kit Kbt Kex) 100000 [] 200 (.fn (.func 43) [] []) Kk109 emptyH) = some (.val Kv109) := by kernel_rfl
theorem Kq110 : valOf (evM (ctxOf Kit Kbt Kex) 100000 [(81, [(Kk3, Kv3)]), (82, [(Kk4, Kv4), (Kk5, Kv5), (Kk6, Kv6), (Kk7, Kv7), (Kk9, Kv9), (Kk10, Kv10), (Kk11, Kv11), (Kk12, Kv12)]), (83, [(Kk37, Kv37)])] 200 (.fn (.func 64) [] []) Kk110 emptyH) = some (.val Kv110) := by kernel_rfl
theorem Kq111 : valOf (evM (ctxOf Kit Kbt Kex) 100000 [(42, [(Kk0, Kv0)]), (43, [(Kk109, Kv109)]), (64, [(Kk110, Kv110)])] 200 (.fn (.func 44) [] []) Kk111 emptyH) = some (.val Kv111) := by kernel_rfl
theorem Kq112 : valOf (evM (ctxOf Kit Kbt Kex) 100000 [(44, [(Kk111, Kv111)])] 200 (.fn (.func 32) [] []) Kk112 emptyH) = some (.val Kv112) := by kernel_rfl
theorem Kq113 : valOf (evM (ctxOf Kit Kbt Kex) 100000 [] 200 (.fn (.func 43) [] []) Kk113 emptyH) = some (.val Kv113) := by kernel_rfl
theorem Kq114 : valOf (evM (ctxOf Kit Kbt Kex) 100000 [(81, [(Kk3, Kv3)]), (82, [(Kk4, Kv4), (Kk5, Kv5), (Kk6, Kv6), (Kk7, Kv7), (Kk9, Kv9), (Kk10, Kv10), (Kk11, Kv11), (Kk12, Kv12)]), (83, [(Kk32, Kv32), (Kk34, Kv34)])] 200 (.fn (.func 64) [] []) Kk114 emptyH) = some (.val Kv114) := by kernel_rfl
theorem Kq115 : valOf (evM (ctxOf Kit Kbt Kex) 100000 [(42, [(Kk0, Kv0)]), (43, [(Kk113, Kv113)]), (64, [(Kk114, Kv114)])] 200 (.fn (.func 44) [] []) Kk115 emptyH) = some (.val Kv115) := by kernel_rfl
theorem Kq116 : valOf (evM (ctxOf Kit Kbt Kex) 100000 [(44, [(Kk115, Kv115)])] 200 (.fn (.func 32) [] []) Kk116 emptyH) = some (.val Kv116) := by kernel_rfl
theorem Kq117 : valOf (evM (ctxOf Kit Kbt Kex) 100000 [] 200 (.fn (.func 43) [] []) Kk117 emptyH) = some (.val Kv117) := by kernel_rfl
theorem Kq118 : valOf (evM (ctxOf Kit Kbt Kex) 100000 [(81, [(Kk3, Kv3)]), (82, [(Kk4, Kv4), (Kk5, Kv5), (Kk6, Kv6), (Kk7, Kv7), (Kk9, Kv9), (Kk10, Kv10), (Kk11, Kv11), (Kk12, Kv12)]), (83, [(Kk34, Kv34)])] 200 (.fn (.func 64) [] []) Kk118 emptyH) = some (.val Kv118) := by kernel_rfl
theorem Kq119 : valOf (evM (ctxOf Kit Kbt Kex) 100000 [(42, [(Kk0, Kv0)]), (43, [(Kk117, Kv117)]), (64, [(Kk118, Kv118)])] 200 (.fn (.func 44) [] []) Kk119 emptyH) = some (.val Kv119) := by kernel_rfl
theorem Kq120 : valOf (evM (ctxOf Kit Kbt Kex) 100000 [(44, [(Kk119, Kv119)])] 200 (.fn (.func 32) [] []) Kk120 emptyH) = some (.val Kv120) := by kernel_rfl
theorem Kq121 : valOf (evM (ctxOf Kit Kbt Kex) 100000 [] 200 (.fn (.func 43) [] []) Kk121 emptyH) = some (.val Kv121) := by kernel_rfl
theorem Kq122 : valOf (evM (ctxOf Kit Kbt Kex) 100000 [(81, [(Kk3, Kv3)]), (82, [(Kk4, Kv4), (Kk5, Kv5), (Kk6, Kv6), (Kk7, Kv7), (Kk9, Kv9), (Kk10, Kv10), (Kk11, Kv11), (Kk12, Kv12)]), (83, [(Kk35, Kv35), (Kk37, Kv37)])] 200 (.fn (.func 64) [] []) Kk122 emptyH) = some (.val Kv122) := by kernel_rfl
theorem Kq123 : valOf (evM (ctxOf Kit Kbt Kex) 100000 [(42, [(Kk0, Kv0)]), (43, [(Kk121, Kv121)]), (64, [(Kk122, Kv122)])] 200 (.fn (.func 44) [] []) Kk123 emptyH) = some (.val Kv123) := by kernel_rfl
theorem Kq124 : valOf (evM (ctxOf Kit Kbt Kex) 100000 [(44, [(Kk123, Kv123)])] 200 (.fn (.func 32) [] []) Kk124 emptyH) = some (.val Kv124) := by kernel_rfl
theorem Kq125 : valOf (evM (ctxOf Kit Kbt Kex) 100000 [(44, [(Kk95, Kv95)])] 200 (.fn (.func 32) [] []) Kk125 emptyH) = some (.val Kv125) := by kernel_rfl
theorem Kq126 : valOf (evM (ctxOf Kit Kbt Kex) 100000 [(44, [(Kk99, Kv99)])] 200 (.fn (.func 32) [] []) Kk126 emptyH) = some (.val Kv126) := by kernel_rfl
theorem Kq127 : valOf (evM (ctxOf Kit Kbt Kex) 100000 [(28, [(Kk105, Kv105)]), (30, [(Kk108, Kv108)]), (32, [(Kk112, Kv112), (Kk116, Kv116), (Kk120, Kv120), (Kk124, Kv124), (Kk125, Kv125), (Kk126, Kv126)])] 200 (.fn (.func 14) [] []) Kk127 emptyH) = some (.val Kv127) := by kernel_rfl
theorem Kq128 : valOf (evM (ctxOf Kit Kbt Kex) 100000 [(6, [(Kk19, Kv19), (Kk24, Kv24)]), (7, [(Kk25, Kv25), (Kk26, Kv26), (Kk28, Kv28)]), (12, [(Kk44, Kv44), (Kk49, Kv49), (Kk53, Kv53), (Kk63, Kv63)]), (13, [(Kk66, Kv66), (Kk67, Kv67), (Kk73, Kv73), (Kk74, Kv74)]), (14, [(Kk101, Kv101), (Kk103, Kv103), (Kk127, Kv127)])] 200 (.fn (.func 4) [] []) Kk128 emptyH) = some (.val Kv128) := by kernel_rfl
theorem Kq129 : valOf (evM (ctxOf Kit Kbt Kex) 100000 [] 200 (.fn (.func 42) [] []) Kk129 emptyH) = some (.val Kv129) := by kernel_rfl
theorem Kq130 : valOf (evM (ctxOf Kit Kbt Kex) 100000 [] 200 (.fn (.func 43) [] []) Kk130 emptyH) = some (.val Kv130) := by kernel_rfl
theorem Kq131 : valOf (evM (ctxOf Kit Kbt Kex) 100000 [(42, [(Kk129, Kv129)]), (43, [(Kk130, Kv130)])] 200 (.fn (.func 28) [] []) Kk131 emptyH) = some (.val Kv131) := by kernel_rfl
theorem Kq132 : valOf (evM (ctxOf Kit Kbt Kex) 100000 [] 200 (.fn (.func 81) [] []) Kk132 emptyH) = some (.val Kv132) := by kernel_rfl
theorem Kq133 : frzOf (evM (ctxOf Kit Kbt Kex) 100000 [] 200 (.fn (.func 82) [] []) Kk133 emptyH) Kv133 = true := by kernel_rfl
theorem Kq134 : frzOf (evM (ctxOf Kit Kbt Kex) 100000 [] 200 (.fn (.func 82) [] []) Kk134 emptyH) Kv134 = true := by kernel_rfl
theorem Kq135 : frzOf (evM (ctxOf Kit Kbt Kex) 100000 [] 200 (.fn (.func 82) [] []) Kk135 emptyH) Kv135 = true := by kernel_rfl
theorem Kq136 : frzOf (evM (ctxOf Kit Kbt Kex) 100000 [] 200 (.fn (.func 82) [] []) Kk136 emptyH) Kv136 = true := by kernel_rfl
theorem Kq137 : valOf (evM (ctxOf Kit Kbt Kex) 100000 [(82, [(Kk136, Kv136)])] 200 (.fn (.func 83) [] []) Kk137 emptyH) = some (.val Kv137) := by kernel_rfl
theorem Kq138 : frzOf (evM (ctxOf Kit Kbt Kex) 100000 [] 200 (.fn (.func 82) [] []) Kk138 emptyH) Kv138 = true := by kernel_rfl
theorem Kq139 : frzOf (evM (ctxOf Kit Kbt Kex) 100000 [] 200 (.fn (.func 82) [] []) Kk139 emptyH) Kv139 = true := by kernel_rfl
theorem Kq140 : frzOf (evM (ctxOf Kit Kbt Kex) 100000 [] 200 (.fn (.func 82) [] []) Kk140 emptyH) Kv140 = true := by kernel_rfl
theorem Kq141 : frzOf (evM (ctxOf Kit Kbt Kex) 100000 [] 200 (.fn (.func 82) [] []) Kk141 emptyH) Kv141 = true := by kernel_rfl
theorem Kq142 : valOf (evM (ctxOf Kit Kbt Kex) 100000 [(82, [(Kk141, Kv141)])] 200 (.fn (.func 83) [] []) Kk142 emptyH) = some (.val Kv142) := by kernel_rfl
theorem Kq143 : valOf (evM (ctxOf Kit Kbt Kex) 100000 [(81, [(Kk132, Kv132)]), (82, [(Kk133, Kv133), (Kk134, Kv134), (Kk135, Kv135), (Kk136, Kv136), (Kk138, Kv138), (Kk139, Kv139), (Kk140, Kv140), (Kk141, Kv141)]), (83, [(Kk137, Kv137), (Kk142, Kv142)])] 200 (.fn (.func 64) [] []) Kk143 emptyH) = some (.val Kv143) := by kernel_rfl
theorem Kq144 : valOf (evM (ctxOf Kit Kbt Kex) 100000 [(42, [(Kk129, Kv129)]), (43, [(Kk130, Kv130)]), (64, [(Kk143, Kv143)])] 200 (.fn (.func 44) [] []) Kk144 emptyH) = some (.val Kv144) := by kernel_rfl
theorem Kq145 : valOf (evM (ctxOf Kit Kbt Kex) 100000 [(28, [(Kk131, Kv131)]), (44, [(Kk144, Kv144)])] 200 (.fn (.func 6) [] []) Kk145 emptyH) = some (.val Kv145) := by kernel_rfl
theorem Kq146 : valOf (evM (ctxOf Kit Kbt Kex) 100000 [(42, [(Kk129, Kv129)]), (43, [(Kk130, Kv130)])] 200 (.fn (.func 28) [] []) Kk146 emptyH) = some (.val Kv146) := by kernel_rfl
theorem Kq147 : valOf (evM (ctxOf Kit Kbt Kex) 100000 [(28, [(Kk146, Kv146)])] 200 (.fn (.func 7) [] []) Kk147 emptyH) = some (.val Kv147) := by kernel_rfl
theorem Kq148 : valOf (evM (ctxOf Kit Kbt Kex) 100000 [(42, [(Kk0, Kv0)]), (43, [(Kk1, Kv1)])] 200 (.fn (.func 28) [] []) Kk148 emptyH) = some (.val Kv148) := by kernel_rfl
theorem Kq149 : valOf (evM (ctxOf Kit Kbt Kex) 100000 [(28, [(Kk148, Kv148)])] 200 (.fn (.func 8) [] []) Kk149 emptyH) = some (.val Kv149) := by kernel_rfl
theorem Kq150 : valOf (evM (ctxOf Kit Kbt Kex) 100000 [(42, [(Kk129, Kv129)]), (43, [(Kk130, Kv130)])] 200 (.fn (.func 28) [] []) Kk150 emptyH) = some (.val Kv150) := by kernel_rfl
theorem Kq151 : valOf (evM (ctxOf Kit Kbt Kex) 100000 [(44, [(Kk144, Kv144)]), (28, [(Kk150, Kv150)])] 200 (.fn (.func 9) [] []) Kk151 emptyH) = some (.val Kv151) := by kernel_rfl
theorem Kq152 : valOf (evM (ctxOf Kit Kbt Kex) 100000 [(42, [(Kk0, Kv0)]), (43, [(Kk1, Kv1)])] 200 (.fn (.func 28) [] []) Kk152 emptyH) = some (.val Kv152) := by kernel_rfl
theorem Kq153 : valOf (evM (ctxOf Kit Kbt Kex) 100000 [(28, [(Kk152, Kv152)])] 200 (.fn (.func 9) [] []) Kk153 emptyH) = some (.val Kv153) := by kernel_rfl
theorem Kq154 : valOf (evM (ctxOf Kit Kbt Kex) 100000 [(42, [(Kk0, Kv0)]), (43, [(Kk1, Kv1)])] 200 (.fn (.func 9) [] []) Kk154 emptyH) = some (.val Kv154) := by kernel_rfl
theorem Kq155 : valOf (evM (ctxOf Kit Kbt Kex) 100000 [(42, [(Kk0, Kv0)]), (43, [(Kk1, Kv1)])] 200 (.fn (.func 9) [] []) Kk155 emptyH) = some (.val Kv155) := by kernel_rfl
theorem Kq156 : valOf (evM (ctxOf Kit Kbt Kex) 100000 [] 200 (.fn (.func 43) [] []) Kk156 emptyH) = some (.val Kv156) := by kernel_rfl
theorem Kq157 : valOf (evM (ctxOf Kit Kbt Kex) 100000 [(42, [(Kk0, Kv0)]), (43, [(Kk156, Kv156)])] 200 (.fn (.func 6) [] []) Kk157 emptyH) = some (.val Kv157) := by kernel_rfl
theorem Kq158 : valOf (evM (ctxOf Kit Kbt Kex) 100000 [(42, [(Kk0, Kv0)]), (43, [(Kk1, Kv1)])] 200 (.fn (.func 7) [] []) Kk158 emptyH) = some (.val Kv158) := by kernel_rfl
theorem Kq159 : valOf (evM (ctxOf Kit Kbt Kex) 100000 [(42, [(Kk0, Kv0)]), (43, [(Kk1, Kv1)])] 200 (.fn (.func 8) [] []) Kk159 emptyH) = some (.val Kv159) := by kernel_rfl
theorem Kq160 : valOf (evM (ctxOf Kit Kbt Kex) 100000 [(42, [(Kk0, Kv0)]), (43, [(Kk1, Kv1)])] 200 (.fn (.func 28) [] []) Kk160 emptyH) = some (.val Kv160) := by kernel_rfl
theorem Kq161 : valOf (evM (ctxOf Kit Kbt Kex) 100000 [(28, [(Kk160, Kv160)])] 200 (.fn (.func 6) [] []) Kk161 emptyH) = some (.val Kv161) := by kernel_rfl
theorem Kq162 : valOf (evM (ctxOf Kit Kbt Kex) 100000 [(42, [(Kk0, Kv0)]), (43, [(Kk31, Kv31)])] 200 (.fn (.func 28) [] []) Kk162 emptyH) = some (.val Kv162) := by kernel_rfl
theorem Kq163 : valOf (evM (ctxOf Kit Kbt Kex) 100000 [(81, [(Kk3, Kv3)]), (82, [(Kk4, Kv4), (Kk5, Kv5), (Kk6, Kv6), (Kk7, Kv7), (Kk9, Kv9), (Kk10, Kv10), (Kk11, Kv11), (Kk12, Kv12)]), (83, [(Kk8, Kv8), (Kk13, Kv13), (Kk32, Kv32), (Kk33, Kv33), (Kk34, Kv34), (Kk35, Kv35), (Kk36, Kv36), (Kk37, Kv37)])] 200 (.fn (.func 64) [] []) Kk163 emptyH) = some (.val Kv163) := by kernel_rfl
theorem Kq164 : valOf (evM (ctxOf Kit Kbt Kex) 100000 [(42, [(Kk0, Kv0)]), (43, [(Kk31, Kv31)]), (64, [(Kk163, Kv163)])] 200 (.fn (.func 44) [] []) Kk164 emptyH) = some (.val Kv164) := by kernel_rfl
theorem Kq165 : valOf (evM (ctxOf Kit Kbt Kex) 100000 [(44, [(Kk164, Kv164)])] 200 (.fn (.func 30) [] []) Kk165 emptyH) = some (.val Kv165) := by kernel_rfl
theorem Kq166 : valOf (evM (ctxOf Kit Kbt Kex) 100000 [(42, [(Kk0, Kv0)]), (43, [(Kk31, Kv31)])] 200 (.fn (.func 28) [] []) Kk166 emptyH) = some (.val Kv166) := by kernel_rfl
theorem Kq167 : valOf (evM (ctxOf Kit Kbt Kex) 100000 [(44, [(Kk164, Kv164)])] 200 (.fn (.func 30) [] []) Kk167 emptyH) = some (.val Kv167) := by kernel_rfl
theorem Kq168 : valOf (evM (ctxOf Kit Kbt Kex) 100000 [(42, [(Kk0, Kv0)]), (81, [(Kk3, Kv3)]), (82, [(Kk4, Kv4), (Kk5, Kv5), (Kk6, Kv6), (Kk7, Kv7), (Kk9, Kv9), (Kk10, Kv10), (Kk11, Kv11), (Kk12, Kv12)]), (83, [(Kk8, Kv8), (Kk13, Kv13), (Kk32, Kv32), (Kk33, Kv33), (Kk34, Kv34), (Kk35, Kv35), (Kk36, Kv36), (Kk37, Kv37)]), (43, [(Kk31, Kv31)]), (38, [(Kk39, Kv39)]), (28, [(Kk166, Kv166)]), (30, [(Kk167, Kv167)])] 200 (.fn (.func 7) [] []) Kk168 emptyH) = some (.val Kv168) := by kernel_rfl
theorem Kq169 : valOf (evM (ctxOf Kit Kbt Kex) 100000 [(42, [(Kk0, Kv0)]), (43, [(Kk31, Kv31)])] 200 (.fn (.func 28) [] []) Kk169 emptyH) = some (.val Kv169) := by kernel_rfl
theorem Kq170 : valOf (evM (ctxOf Kit Kbt Kex) 100000 [(44, [(Kk164, Kv164)])] 200 (.fn (.func 30) [] []) Kk170 emptyH) = some (.val Kv170) := by kernel_rfl
theorem Kq171 : valOf (evM (ctxOf Kit Kbt Kex) 100000 [] 200 (.fn (.func 42) [] []) Kk171 emptyH) = some (.val Kv171) := by kernel_rfl
end Go.Proofs.YtpjkppnbnopmmaaGreat.reasonKnown
