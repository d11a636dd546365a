/- The machine runs these calls (part 1). -/
import Derived.Test.YtbkihikjgoedbaaGreatWorthKnownK
import Derived.KernelRfl
namespace Go.Proofs.YtbkihikjgoedbaaGreat.worthKnown
open Hx Go
set_option maxRecDepth 100000
theorem Kq57 : valOf (evM (ctxOf Kit Kbt Kex) 100000 [(57, [(Kk55, Kv55)]), (60, [(Kk56, Kv56)])] 200 (.fn (.func 24) [] []) Kk57 emptyH) = some (.val Kv57) := by kernel_rfl
theorem Kq58 : valOf (evM (ctxOf Kit Kbt Kex) 100000 [(19, [(Kk45, Kv45)]), (24, [(Kk57, Kv57)])] 200 (.fn (.func 12) [] []) Kk58 emptyH) = some (.val Kv58) := by kernel_rfl
theorem Kq59 : valOf (evM (ctxOf Kit Kbt Kex) 100000 [] 200 (.fn (.func 61) [] []) Kk59 emptyH) = some (.val Kv59) := by kernel_rfl
theorem Kq60 : valOf (evM (ctxOf Kit Kbt Kex) 100000 [(61, [(Kk59, Kv59)])] 200 (.fn (.func 25) [] []) Kk60 emptyH) = some (.val Kv60) := by kernel_rfl
theorem Kq61 : valOf (evM (ctxOf Kit Kbt Kex) 100000 [(12, [(Kk58, Kv58)]), (25, [(Kk60, Kv60)])] 200 (.fn (.func 13) [] []) Kk61 emptyH) = some (.val Kv61) := by kernel_rfl
theorem Kq62 : valOf (evM (ctxOf Kit Kbt Kex) 100000 [(19, [(Kk45, Kv45)]), (12, [(Kk58, Kv58)]), (13, [(Kk61, Kv61)])] 200 (.fn (.func 4) [] []) Kk62 emptyH) = some (.val Kv62) := by kernel_rfl
theorem Kq63 : valOf (evM (ctxOf Kit Kbt Kex) 100000 [(4, [(Kk62, Kv62)])] 200 (.fn (.func 18) [] []) Kk63 emptyH) = some (.val Kv63) := by kernel_rfl
theorem Kq64 : valOf (evM (ctxOf Kit Kbt Kex) 100000 [] 200 (.fn (.func 40) [] []) Kk64 emptyH) = some (.val Kv64) := by kernel_rfl
theorem Kq65 : valOf (evM (ctxOf Kit Kbt Kex) 100000 [(40, [(Kk64, Kv64)])] 200 (.fn (.func 19) [] []) Kk65 emptyH) = some (.val Kv65) := by kernel_rfl
theorem Kq66 : valOf (evM (ctxOf Kit Kbt Kex) 100000 [(19, [(Kk65, Kv65)])] 200 (.fn (.func 57) [] []) Kk66 emptyH) = some (.val Kv66) := by kernel_rfl
theorem Kq67 : valOf (evM (ctxOf Kit Kbt Kex) 100000 [] 200 (.fn (.func 60) [] []) Kk67 emptyH) = some (.val Kv67) := by kernel_rfl
theorem Kq68 : valOf (evM (ctxOf Kit Kbt Kex) 100000 [(57, [(Kk66, Kv66)]), (60, [(Kk67, Kv67)])] 200 (.fn (.func 24) [] []) Kk68 emptyH) = some (.val Kv68) := by kernel_rfl
theorem Kq69 : valOf (evM (ctxOf Kit Kbt Kex) 100000 [(19, [(Kk65, Kv65)]), (24, [(Kk68, Kv68)])] 200 (.fn (.func 12) [] []) Kk69 emptyH) = some (.val Kv69) := by kernel_rfl
theorem Kq70 : valOf (evM (ctxOf Kit Kbt Kex) 100000 [] 200 (.fn (.func 65) [] []) Kk70 emptyH) = some (.val Kv70) := by kernel_rfl
theorem Kq71 : valOf (evM (ctxOf Kit Kbt Kex) 100000 [(65, [(Kk70, Kv70)])] 200 (.fn (.func 62) [] []) Kk71 emptyH) = some (.val Kv71) := by kernel_rfl
theorem Kq72 : valOf (evM (ctxOf Kit Kbt Kex) 100000 [(62, [(Kk71, Kv71)])] 200 (.fn (.func 61) [] []) Kk72 emptyH) = some (.val Kv72) := by kernel_rfl
theorem Kq73 : valOf (evM (ctxOf Kit Kbt Kex) 100000 [(61, [(Kk72, Kv72)])] 200 (.fn (.func 25) [] []) Kk73 emptyH) = some (.val Kv73) := by kernel_rfl
theorem Kq74 : valOf (evM (ctxOf Kit Kbt Kex) 100000 [(12, [(Kk69, Kv69)]), (25, [(Kk73, Kv73)])] 200 (.fn (.func 13) [] []) Kk74 emptyH) = some (.val Kv74) := by kernel_rfl
theorem Kq75 : valOf (evM (ctxOf Kit Kbt Kex) 100000 [(19, [(Kk45, Kv45)]), (12, [(Kk58, Kv58)]), (13, [(Kk74, Kv74)])] 200 (.fn (.func 4) [] []) Kk75 emptyH) = some (.val Kv75) := by kernel_rfl
theorem Kq76 : valOf (evM (ctxOf Kit Kbt Kex) 100000 [(4, [(Kk75, Kv75)])] 200 (.fn (.func 18) [] []) Kk76 emptyH) = some (.val Kv76) := by kernel_rfl
theorem Kq77 : valOf (evM (ctxOf Kit Kbt Kex) 100000 [] 200 (.fn (.func 40) [] []) Kk77 emptyH) = some (.val Kv77) := by kernel_rfl
theorem Kq78 : valOf (evM (ctxOf Kit Kbt Kex) 100000 [(40, [(Kk77, Kv77)])] 200 (.fn (.func 19) [] []) Kk78 emptyH) = some (.val Kv78) := by kernel_rfl
theorem Kq79 : valOf (evM (ctxOf Kit Kbt Kex) 100000 [(19, [(Kk78, Kv78)])] 200 (.fn (.func 57) [] []) Kk79 emptyH) = some (.val Kv79) := by kernel_rfl
theorem Kq80 : valOf (evM (ctxOf Kit Kbt Kex) 100000 [] 200 (.fn (.func 60) [] []) Kk80 emptyH) = some (.val Kv80) := by kernel_rfl
theorem Kq81 : valOf (evM (ctxOf Kit Kbt Kex) 100000 [(57, [(Kk79, Kv79)]), (60, [(Kk80, Kv80)])] 200 (.fn (.func 24) [] []) Kk81 emptyH) = some (.val Kv81) := by kernel_rfl
theorem Kq82 : valOf (evM (ctxOf Kit Kbt Kex) 100000 [(19, [(Kk78, Kv78)]), (24, [(Kk81, Kv81)])] 200 (.fn (.func 12) [] []) Kk82 emptyH) = some (.val Kv82) := by kernel_rfl
theorem Kq83 : valOf (evM (ctxOf Kit Kbt Kex) 100000 [] 200 (.fn (.func 65) [] []) Kk83 emptyH) = some (.val Kv83) := by kernel_rfl
theorem Kq84 : valOf (evM (ctxOf Kit Kbt Kex) 100000 [(65, [(Kk83, Kv83)])] 200 (.fn (.func 62) [] []) Kk84 emptyH) = some (.val Kv84) := by kernel_rfl
theorem Kq85 : valOf (evM (ctxOf Kit Kbt Kex) 100000 [(62, [(Kk84, Kv84)])] 200 (.fn (.func 61) [] []) Kk85 emptyH) = some (.val Kv85) := by kernel_rfl
theorem Kq86 : valOf (evM (ctxOf Kit Kbt Kex) 100000 [(61, [(Kk85, Kv85)])] 200 (.fn (.func 25) [] []) Kk86 emptyH) = some (.val Kv86) := by kernel_rfl
theorem Kq87 : valOf (evM (ctxOf Kit Kbt Kex) 100000 [(12, [(Kk82, Kv82)]), (25, [(Kk86, Kv86)])] 200 (.fn (.func 13) [] []) Kk87 emptyH) = some (.val Kv87) := by kernel_rfl
theorem Kq88 : valOf (evM (ctxOf Kit Kbt Kex) 100000 [(19, [(Kk45, Kv45)]), (12, [(Kk58, Kv58)]), (13, [(Kk87, Kv87)])] 200 (.fn (.func 4) [] []) Kk88 emptyH) = some (.val Kv88) := by kernel_rfl
theorem Kq89 : valOf (evM (ctxOf Kit Kbt Kex) 100000 [(4, [(Kk88, Kv88)])] 200 (.fn (.func 18) [] []) Kk89 emptyH) = some (.val Kv89) := by kernel_rfl
theorem Kq90 : valOf (evM (ctxOf Kit Kbt Kex) 100000 [] 200 (.fn (.func 40) [] []) Kk90 emptyH) = some (.val Kv90) := by kernel_rfl
theorem Kq91 : valOf (evM (ctxOf Kit Kbt Kex) 100000 [(40, [(Kk90, Kv90)])] 200 (.fn (.func 19) [] []) Kk91 emptyH) = some (.val Kv91) := by kernel_rfl
theorem Kq92 : valOf (evM (ctxOf Kit Kbt Kex) 100000 [(19, [(Kk91, Kv91)])] 200 (.fn (.func 57) [] []) Kk92 emptyH) = some (.val Kv92) := by kernel_rfl
theorem Kq93 : valOf (evM (ctxOf Kit Kbt Kex) 100000 [] 200 (.fn (.func 60) [] []) Kk93 emptyH) = some (.val Kv93) := by kernel_rfl
theorem Kq94 : valOf (evM (ctxOf Kit Kbt Kex) 100000 [(57, [(Kk92, Kv92)]), (60, [(Kk93, Kv93)])] 200 (.fn (.func 24) [] []) Kk94 emptyH) = some (.val Kv94) := by kernel_rfl
theorem Kq95 : valOf (evM (ctxOf Kit Kbt Kex) 100000 [(19, [(Kk91, Kv91)]), (24, [(Kk94, Kv94)])] 200 (.fn (.func 12) [] []) Kk95 emptyH) = some (.val Kv95) := by kernel_rfl
theorem Kq96 : valOf (evM (ctxOf Kit Kbt Kex) 100000 [(25, [(Kk86, Kv86)]), (12, [(Kk95, Kv95)])] 200 (.fn (.func 13) [] []) Kk96 emptyH) = some (.val Kv96) := by kernel_rfl
theorem Kq97 : valOf (evM (ctxOf Kit Kbt Kex) 100000 [(19, [(Kk45, Kv45)]), (12, [(Kk58, Kv58)]), (13, [(Kk96, Kv96)])] 200 (.fn (.func 4) [] []) Kk97 emptyH) = some (.val Kv97) := by kernel_rfl
theorem Kq98 : valOf (evM (ctxOf Kit Kbt Kex) 100000 [(4, [(Kk97, Kv97)])] 200 (.fn (.func 18) [] []) Kk98 emptyH) = some (.val Kv98) := by kernel_rfl
theorem Kq99 : valOf (evM (ctxOf Kit Kbt Kex) 100000 [(40, [(Kk64, Kv64)])] 200 (.fn (.func 19) [] []) Kk99 emptyH) = some (.val Kv99) := by kernel_rfl
theorem Kq100 : valOf (evM (ctxOf Kit Kbt Kex) 100000 [(19, [(Kk99, Kv99)])] 200 (.fn (.func 57) [] []) Kk100 emptyH) = some (.val Kv100) := by kernel_rfl
theorem Kq101 : valOf (evM (ctxOf Kit Kbt Kex) 100000 [(60, [(Kk67, Kv67)]), (57, [(Kk100, Kv100)])] 200 (.fn (.func 24) [] []) Kk101 emptyH) = some (.val Kv101) := by kernel_rfl
theorem Kq102 : valOf (evM (ctxOf Kit Kbt Kex) 100000 [(19, [(Kk99, Kv99)]), (24, [(Kk101, Kv101)])] 200 (.fn (.func 12) [] []) Kk102 emptyH) = some (.val Kv102) := by kernel_rfl
theorem Kq103 : valOf (evM (ctxOf Kit Kbt Kex) 100000 [] 200 (.fn (.func 61) [] []) Kk103 emptyH) = some (.val Kv103) := by kernel_rfl
theorem Kq104 : valOf (evM (ctxOf Kit Kbt Kex) 100000 [(61, [(Kk103, Kv103)])] 200 (.fn (.func 25) [] []) Kk104 emptyH) = some (.val Kv104) := by kernel_rfl
theorem Kq105 : valOf (evM (ctxOf Kit Kbt Kex) 100000 [(12, [(Kk102, Kv102)]), (25, [(Kk104, Kv104)])] 200 (.fn (.func 13) [] []) Kk105 emptyH) = some (.val Kv105) := by kernel_rfl
theorem Kq106 : valOf (evM (ctxOf Kit Kbt Kex) 100000 [(19, [(Kk65, Kv65)]), (12, [(Kk69, Kv69)]), (13, [(Kk105, Kv105)])] 200 (.fn (.func 4) [] []) Kk106 emptyH) = some (.val Kv106) := by kernel_rfl
theorem Kq107 : valOf (evM (ctxOf Kit Kbt Kex) 100000 [(4, [(Kk106, Kv106)])] 200 (.fn (.func 18) [] []) Kk107 emptyH) = some (.val Kv107) := by kernel_rfl
theorem Kq108 : valOf (evM (ctxOf Kit Kbt Kex) 100000 [] 200 (.fn (.func 65) [] []) Kk108 emptyH) = some (.val Kv108) := by kernel_rfl
theorem Kq109 : valOf (evM (ctxOf Kit Kbt Kex) 100000 [(65, [(Kk108, Kv108)])] 200 (.fn (.func 62) [] []) Kk109 emptyH) = some (.val Kv109) := by kernel_rfl
theorem Kq110 : valOf (evM (ctxOf Kit Kbt Kex) 100000 [(62, [(Kk109, Kv109)])] 200 (.fn (.func 61) [] []) Kk110 emptyH) = some (.val Kv110) := by kernel_rfl
theorem Kq111 : valOf (evM (ctxOf Kit Kbt Kex) 100000 [(61, [(Kk110, Kv110)])] 200 (.fn (.func 25) [] []) Kk111 emptyH) = some (.val Kv111) := by kernel_rfl
theorem Kq112 : valOf (evM (ctxOf Kit Kbt Kex) 100000 [(12, [(Kk95, Kv95)]), (25, [(Kk111, Kv111)])] 200 (.fn (.func 13) [] []) Kk112 emptyH) = some (.val Kv112) := by kernel_rfl
theorem Kq113 : valOf (evM (ctxOf Kit Kbt Kex) 100000 [(19, [(Kk65, Kv65)]), (12, [(Kk69, Kv69)]), (13, [(Kk112, Kv112)])] 200 (.fn (.func 4) [] []) Kk113 emptyH) = some (.val Kv113) := by kernel_rfl
theorem Kq114 : valOf (evM (ctxOf Kit Kbt Kex) 100000 [(4, [(Kk113, Kv113)])] 200 (.fn (.func 18) [] []) Kk114 emptyH) = some (.val Kv114) := by kernel_rfl
theorem Kq115 : valOf (evM (ctxOf Kit Kbt Kex) 100000 [] 200 (.fn (.func 16) [] []) Kk115 emptyH) = some (.val Kv115) := by kernel_rfl
theorem Kq116 : valOf (evM (ctxOf Kit Kbt Kex) 100000 [(19, [(Kk45, Kv45)]), (12, [(Kk58, Kv58)]), (13, [(Kk61, Kv61), (Kk87, Kv87)]), (16, [(Kk115, Kv115)])] 200 (.fn (.func 5) [] []) Kk116 emptyH) = some (.val Kv116) := by kernel_rfl
theorem Kq117 : valOf (evM (ctxOf Kit Kbt Kex) 100000 [(5, [(Kk116, Kv116)])] 200 (.fn (.func 10) [] []) Kk117 emptyH) = some (.val Kv117) := by kernel_rfl
theorem Kq118 : valOf (evM (ctxOf Kit Kbt Kex) 100000 [] 200 (.fn (.func 30) [] []) Kk118 emptyH) = some (.val Kv118) := by kernel_rfl
theorem Kq119 : valOf (evM (ctxOf Kit Kbt Kex) 100000 [(30, [(Kk118, Kv118)])] 200 (.fn (.func 16) [] []) Kk119 emptyH) = some (.val Kv119) := by kernel_rfl
theorem Kq120 : valOf (evM (ctxOf Kit Kbt Kex) 100000 [(19, [(Kk45, Kv45)]), (12, [(Kk58, Kv58)]), (13, [(Kk61, Kv61), (Kk87, Kv87)]), (16, [(Kk119, Kv119)])] 200 (.fn (.func 5) [] []) Kk120 emptyH) = some (.val Kv120) := by kernel_rfl
theorem Kq121 : valOf (evM (ctxOf Kit Kbt Kex) 100000 [(5, [(Kk120, Kv120)])] 200 (.fn (.func 10) [] []) Kk121 emptyH) = some (.val Kv121) := by kernel_rfl
theorem Kq122 : valOf (evM (ctxOf Kit Kbt Kex) 100000 [] 200 (.fn (.func 30) [] []) Kk122 emptyH) = some (.val Kv122) := by kernel_rfl
theorem Kq123 : valOf (evM (ctxOf Kit Kbt Kex) 100000 [(30, [(Kk122, Kv122)])] 200 (.fn (.func 16) [] []) Kk123 emptyH) = some (.val Kv123) := by kernel_rfl
theorem Kq124 : valOf (evM (ctxOf Kit Kbt Kex) 100000 [(19, [(Kk45, Kv45)]), (12, [(Kk58, Kv58)]), (13, [(Kk61, Kv61), (Kk74, Kv74), (Kk87, Kv87), (Kk96, Kv96)]), (16, [(Kk123, Kv123)])] 200 (.fn (.func 5) [] []) Kk124 emptyH) = some (.val Kv124) := by kernel_rfl
theorem Kq125 : valOf (evM (ctxOf Kit Kbt Kex) 100000 [(5, [(Kk124, Kv124)])] 200 (.fn (.func 10) [] []) Kk125 emptyH) = some (.val Kv125) := by kernel_rfl
theorem Kq126 : valOf (evM (ctxOf Kit Kbt Kex) 100000 [(19, [(Kk45, Kv45)])] 200 (.fn (.func 5) [] []) Kk126 emptyH) = some (.val Kv126) := by kernel_rfl
theorem Kq127 : valOf (evM (ctxOf Kit Kbt Kex) 100000 [(5, [(Kk126, Kv126)])] 200 (.fn (.func 10) [] []) Kk127 emptyH) = some (.val Kv127) := by kernel_rfl
theorem Kq128 : valOf (evM (ctxOf Kit Kbt Kex) 100000 [(19, [(Kk45, Kv45)])] 200 (.fn (.func 5) [] []) Kk128 emptyH) = some (.val Kv128) := by kernel_rfl
theorem Kq129 : valOf (evM (ctxOf Kit Kbt Kex) 100000 [(5, [(Kk128, Kv128)])] 200 (.fn (.func 10) [] []) Kk129 emptyH) = some (.val Kv129) := by kernel_rfl
theorem Kq130 : valOf (evM (ctxOf Kit Kbt Kex) 100000 [(19, [(Kk45, Kv45)]), (6, [(Kk51, Kv51)]), (4, [(Kk53, Kv53), (Kk54, Kv54)]), (18, [(Kk63, Kv63), (Kk76, Kv76), (Kk89, Kv89), (Kk98, Kv98), (Kk107, Kv107), (Kk114, Kv114)]), (10, [(Kk117, Kv117), (Kk121, Kv121), (Kk125, Kv125), (Kk127, Kv127), (Kk129, Kv129)])] 200 (.fn (.func 9) [] []) Kk130 emptyH) = some (.val Kv130) := by kernel_rfl
theorem Kq131 : valOf (evM (ctxOf Kit Kbt Kex) 100000 [(19, [(Kk45, Kv45)]), (12, [(Kk58, Kv58)]), (13, [(Kk61, Kv61)])] 200 (.fn (.func 5) [] []) Kk131 emptyH) = some (.val Kv131) := by kernel_rfl
theorem Kq132 : valOf (evM (ctxOf Kit Kbt Kex) 100000 [(5, [(Kk131, Kv131)])] 200 (.fn (.func 10) [] []) Kk132 emptyH) = some (.val Kv132) := by kernel_rfl
theorem Kq133 : valOf (evM (ctxOf Kit Kbt Kex) 100000 [(19, [(Kk45, Kv45)]), (12, [(Kk58, Kv58)]), (13, [(Kk61, Kv61), (Kk87, Kv87)])] 200 (.fn (.func 5) [] []) Kk133 emptyH) = some (.val Kv133) := by kernel_rfl
theorem Kq134 : valOf (evM (ctxOf Kit Kbt Kex) 100000 [(5, [(Kk133, Kv133)])] 200 (.fn (.func 10) [] []) Kk134 emptyH) = some (.val Kv134) := by kernel_rfl
theorem Kq135 : valOf (evM (ctxOf Kit Kbt Kex) 100000 [] 200 (.fn (.func 16) [] []) Kk135 emptyH) = some (.val Kv135) := by kernel_rfl
theorem Kq136 : valOf (evM (ctxOf Kit Kbt Kex) 100000 [] 200 (.fn (.func 30) [] []) Kk136 emptyH) = some (.val Kv136) := by kernel_rfl
theorem Kq137 : valOf (evM (ctxOf Kit Kbt Kex) 100000 [(30, [(Kk136, Kv136)])] 200 (.fn (.func 16) [] []) Kk137 emptyH) = some (.val Kv137) := by kernel_rfl
theorem Kq138 : valOf (evM (ctxOf Kit Kbt Kex) 100000 [(19, [(Kk45, Kv45)]), (12, [(Kk58, Kv58)]), (13, [(Kk61, Kv61), (Kk87, Kv87)]), (16, [(Kk135, Kv135), (Kk137, Kv137)])] 200 (.fn (.func 5) [] []) Kk138 emptyH) = some (.val Kv138) := by kernel_rfl
theorem Kq139 : valOf (evM (ctxOf Kit Kbt Kex) 100000 [(5, [(Kk138, Kv138)])] 200 (.fn (.func 10) [] []) Kk139 emptyH) = some (.val Kv139) := by kernel_rfl
theorem Kq140 : valOf (evM (ctxOf Kit Kbt Kex) 100000 [] 200 (.fn (.func 30) [] []) Kk140 emptyH) = some (.val Kv140) := by kernel_rfl
theorem Kq141 : valOf (evM (ctxOf Kit Kbt Kex) 100000 [(30, [(Kk140, Kv140)])] 200 (.fn (.func 16) [] []) Kk141 emptyH) = some (.val Kv141) := by kernel_rfl
end Go.Proofs.YtbkihikjgoedbaaGreat.worthKnown
