/- The machine runs these calls (part 2). -/
import Derived.Test.YtpjkppnbnopmmaaGreatReasonKnownK
import Derived.KernelRfl
namespace Go.Proofs.YtpjkppnbnopmmaaGreat.reasonKnown
open Hx Go
set_option maxRecDepth 100000
theorem Kq67 : valOf (evM (ctxOf Kit Kbt Kex) 100000 [(42, [(Kk0, Kv0)]), (43, [(Kk1, Kv1), (Kk40, Kv40), (Kk43, Kv43)]), (28, [(Kk2, Kv2)]), (81, [(Kk3, Kv3)]), (82, [(Kk4, Kv4), (Kk5, Kv5), (Kk6, Kv6), (Kk7, Kv7), (Kk9, Kv9), (Kk10, Kv10), (Kk11, Kv11), (Kk12, Kv12)]), (83, [(Kk8, Kv8), (Kk13, Kv13), (Kk33, Kv33), (Kk34, Kv34), (Kk36, Kv36), (Kk37, Kv37)]), (30, [(Kk16, Kv16)]), (38, [(Kk18, Kv18), (Kk48, Kv48)])] 200 (.fn (.func 13) [] []) Kk67 emptyH) = some (.val Kv67) := by kernel_rfl
theorem Kq68 : valOf (evM (ctxOf Kit Kbt Kex) 100000 [] 200 (.fn (.func 52) [] []) Kk68 emptyH) = some (.val Kv68) := by kernel_rfl
theorem Kq69 : valOf (evM (ctxOf Kit Kbt Kex) 100000 [(52, [(Kk68, Kv68)])] 200 (.fn (.func 38) [] []) Kk69 emptyH) = some (.val Kv69) := by kernel_rfl
theorem Kq70 : valOf (evM (ctxOf Kit Kbt Kex) 100000 [] 200 (.fn (.func 52) [] []) Kk70 emptyH) = some (.val Kv70) := by kernel_rfl
theorem Kq71 : valOf (evM (ctxOf Kit Kbt Kex) 100000 [(52, [(Kk70, Kv70)])] 200 (.fn (.func 38) [] []) Kk71 emptyH) = some (.val Kv71) := by kernel_rfl
theorem Kq72 : valOf (evM (ctxOf Kit Kbt Kex) 100000 [(42, [(Kk0, Kv0)]), (43, [(Kk1, Kv1), (Kk31, Kv31), (Kk40, Kv40), (Kk43, Kv43)]), (81, [(Kk3, Kv3)]), (82, [(Kk4, Kv4), (Kk5, Kv5), (Kk6, Kv6), (Kk7, Kv7), (Kk9, Kv9), (Kk10, Kv10), (Kk11, Kv11), (Kk12, Kv12)]), (83, [(Kk8, Kv8), (Kk13, Kv13), (Kk32, Kv32), (Kk33, Kv33), (Kk34, Kv34), (Kk35, Kv35), (Kk36, Kv36), (Kk37, Kv37)]), (28, [(Kk50, Kv50)]), (30, [(Kk51, Kv51)]), (38, [(Kk52, Kv52), (Kk69, Kv69), (Kk71, Kv71)])] 200 (.fn (.func 8) [] []) Kk72 emptyH) = some (.val Kv72) := by kernel_rfl
theorem Kq73 : valOf (evM (ctxOf Kit Kbt Kex) 100000 [(8, [(Kk72, Kv72)])] 200 (.fn (.func 13) [] []) Kk73 emptyH) = some (.val Kv73) := by kernel_rfl
theorem Kq74 : valOf (evM (ctxOf Kit Kbt Kex) 100000 [(42, [(Kk0, Kv0)]), (43, [(Kk1, Kv1)]), (81, [(Kk3, Kv3)]), (82, [(Kk4, Kv4), (Kk5, Kv5), (Kk6, Kv6), (Kk7, Kv7), (Kk9, Kv9), (Kk10, Kv10), (Kk11, Kv11), (Kk12, Kv12)]), (83, [(Kk8, Kv8), (Kk13, Kv13)]), (28, [(Kk54, Kv54)]), (30, [(Kk55, Kv55)]), (38, [(Kk61, Kv61)])] 200 (.fn (.func 13) [] []) Kk74 emptyH) = some (.val Kv74) := by kernel_rfl
theorem Kq75 : valOf (evM (ctxOf Kit Kbt Kex) 100000 [(42, [(Kk0, Kv0)]), (43, [(Kk1, Kv1)])] 200 (.fn (.func 28) [] []) Kk75 emptyH) = some (.val Kv75) := by kernel_rfl
theorem Kq76 : valOf (evM (ctxOf Kit Kbt Kex) 100000 [(44, [(Kk15, Kv15)])] 200 (.fn (.func 30) [] []) Kk76 emptyH) = some (.val Kv76) := by kernel_rfl
theorem Kq77 : valOf (evM (ctxOf Kit Kbt Kex) 100000 [] 200 (.fn (.func 43) [] []) Kk77 emptyH) = some (.val Kv77) := by kernel_rfl
theorem Kq78 : valOf (evM (ctxOf Kit Kbt Kex) 100000 [(81, [(Kk3, Kv3)]), (82, [(Kk4, Kv4), (Kk5, Kv5), (Kk6, Kv6), (Kk7, Kv7), (Kk9, Kv9), (Kk10, Kv10), (Kk11, Kv11), (Kk12, Kv12)]), (83, [(Kk13, Kv13)])] 200 (.fn (.func 64) [] []) Kk78 emptyH) = some (.val Kv78) := by kernel_rfl
theorem Kq79 : valOf (evM (ctxOf Kit Kbt Kex) 100000 [(42, [(Kk0, Kv0)]), (43, [(Kk77, Kv77)]), (64, [(Kk78, Kv78)])] 200 (.fn (.func 44) [] []) Kk79 emptyH) = some (.val Kv79) := by kernel_rfl
theorem Kq80 : valOf (evM (ctxOf Kit Kbt Kex) 100000 [(44, [(Kk79, Kv79)])] 200 (.fn (.func 32) [] []) Kk80 emptyH) = some (.val Kv80) := by kernel_rfl
theorem Kq81 : valOf (evM (ctxOf Kit Kbt Kex) 100000 [] 200 (.fn (.func 43) [] []) Kk81 emptyH) = some (.val Kv81) := by kernel_rfl
theorem Kq82 : valOf (evM (ctxOf Kit Kbt Kex) 100000 [(81, [(Kk3, Kv3)]), (82, [(Kk4, Kv4), (Kk5, Kv5), (Kk6, Kv6), (Kk7, Kv7), (Kk9, Kv9), (Kk10, Kv10), (Kk11, Kv11), (Kk12, Kv12)]), (83, [(Kk8, Kv8), (Kk33, Kv33)])] 200 (.fn (.func 64) [] []) Kk82 emptyH) = some (.val Kv82) := by kernel_rfl
theorem Kq83 : valOf (evM (ctxOf Kit Kbt Kex) 100000 [(42, [(Kk0, Kv0)]), (43, [(Kk81, Kv81)]), (64, [(Kk82, Kv82)])] 200 (.fn (.func 44) [] []) Kk83 emptyH) = some (.val Kv83) := by kernel_rfl
theorem Kq84 : valOf (evM (ctxOf Kit Kbt Kex) 100000 [(44, [(Kk83, Kv83)])] 200 (.fn (.func 32) [] []) Kk84 emptyH) = some (.val Kv84) := by kernel_rfl
theorem Kq85 : valOf (evM (ctxOf Kit Kbt Kex) 100000 [] 200 (.fn (.func 43) [] []) Kk85 emptyH) = some (.val Kv85) := by kernel_rfl
theorem Kq86 : valOf (evM (ctxOf Kit Kbt Kex) 100000 [(81, [(Kk3, Kv3)]), (82, [(Kk4, Kv4), (Kk5, Kv5), (Kk6, Kv6), (Kk7, Kv7), (Kk9, Kv9), (Kk10, Kv10), (Kk11, Kv11), (Kk12, Kv12)]), (83, [(Kk8, Kv8)])] 200 (.fn (.func 64) [] []) Kk86 emptyH) = some (.val Kv86) := by kernel_rfl
theorem Kq87 : valOf (evM (ctxOf Kit Kbt Kex) 100000 [(42, [(Kk0, Kv0)]), (43, [(Kk85, Kv85)]), (64, [(Kk86, Kv86)])] 200 (.fn (.func 44) [] []) Kk87 emptyH) = some (.val Kv87) := by kernel_rfl
theorem Kq88 : valOf (evM (ctxOf Kit Kbt Kex) 100000 [(44, [(Kk87, Kv87)])] 200 (.fn (.func 32) [] []) Kk88 emptyH) = some (.val Kv88) := by kernel_rfl
theorem Kq89 : valOf (evM (ctxOf Kit Kbt Kex) 100000 [] 200 (.fn (.func 43) [] []) Kk89 emptyH) = some (.val Kv89) := by kernel_rfl
theorem Kq90 : valOf (evM (ctxOf Kit Kbt Kex) 100000 [(81, [(Kk3, Kv3)]), (82, [(Kk4, Kv4), (Kk5, Kv5), (Kk6, Kv6), (Kk7, Kv7), (Kk9, Kv9), (Kk10, Kv10), (Kk11, Kv11), (Kk12, Kv12)]), (83, [(Kk13, Kv13), (Kk36, Kv36)])] 200 (.fn (.func 64) [] []) Kk90 emptyH) = some (.val Kv90) := by kernel_rfl
theorem Kq91 : valOf (evM (ctxOf Kit Kbt Kex) 100000 [(42, [(Kk0, Kv0)]), (43, [(Kk89, Kv89)]), (64, [(Kk90, Kv90)])] 200 (.fn (.func 44) [] []) Kk91 emptyH) = some (.val Kv91) := by kernel_rfl
theorem Kq92 : valOf (evM (ctxOf Kit Kbt Kex) 100000 [(44, [(Kk91, Kv91)])] 200 (.fn (.func 32) [] []) Kk92 emptyH) = some (.val Kv92) := by kernel_rfl
theorem Kq93 : valOf (evM (ctxOf Kit Kbt Kex) 100000 [] 200 (.fn (.func 43) [] []) Kk93 emptyH) = some (.val Kv93) := by kernel_rfl
theorem Kq94 : valOf (evM (ctxOf Kit Kbt Kex) 100000 [(81, [(Kk3, Kv3)]), (82, [(Kk4, Kv4), (Kk5, Kv5), (Kk6, Kv6), (Kk7, Kv7), (Kk9, Kv9), (Kk10, Kv10), (Kk11, Kv11), (Kk12, Kv12)]), (83, [(Kk8, Kv8), (Kk34, Kv34)])] 200 (.fn (.func 64) [] []) Kk94 emptyH) = some (.val Kv94) := by kernel_rfl
theorem Kq95 : valOf (evM (ctxOf Kit Kbt Kex) 100000 [(42, [(Kk0, Kv0)]), (43, [(Kk93, Kv93)]), (64, [(Kk94, Kv94)])] 200 (.fn (.func 44) [] []) Kk95 emptyH) = some (.val Kv95) := by kernel_rfl
theorem Kq96 : valOf (evM (ctxOf Kit Kbt Kex) 100000 [(44, [(Kk95, Kv95)])] 200 (.fn (.func 32) [] []) Kk96 emptyH) = some (.val Kv96) := by kernel_rfl
theorem Kq97 : valOf (evM (ctxOf Kit Kbt Kex) 100000 [] 200 (.fn (.func 43) [] []) Kk97 emptyH) = some (.val Kv97) := by kernel_rfl
theorem Kq98 : valOf (evM (ctxOf Kit Kbt Kex) 100000 [(81, [(Kk3, Kv3)]), (82, [(Kk4, Kv4), (Kk5, Kv5), (Kk6, Kv6), (Kk7, Kv7), (Kk9, Kv9), (Kk10, Kv10), (Kk11, Kv11), (Kk12, Kv12)]), (83, [(Kk13, Kv13), (Kk37, Kv37)])] 200 (.fn (.func 64) [] []) Kk98 emptyH) = some (.val Kv98) := by kernel_rfl
theorem Kq99 : valOf (evM (ctxOf Kit Kbt Kex) 100000 [(42, [(Kk0, Kv0)]), (43, [(Kk97, Kv97)]), (64, [(Kk98, Kv98)])] 200 (.fn (.func 44) [] []) Kk99 emptyH) = some (.val Kv99) := by kernel_rfl
theorem Kq100 : valOf (evM (ctxOf Kit Kbt Kex) 100000 [(44, [(Kk99, Kv99)])] 200 (.fn (.func 32) [] []) Kk100 emptyH) = some (.val Kv100) := by kernel_rfl
theorem Kq101 : valOf (evM (ctxOf Kit Kbt Kex) 100000 [(28, [(Kk75, Kv75)]), (30, [(Kk76, Kv76)]), (32, [(Kk80, Kv80), (Kk84, Kv84), (Kk88, Kv88), (Kk92, Kv92), (Kk96, Kv96), (Kk100, Kv100)])] 200 (.fn (.func 14) [] []) Kk101 emptyH) = some (.val Kv101) := by kernel_rfl
theorem Kq102 : valOf (evM (ctxOf Kit Kbt Kex) 100000 [(42, [(Kk0, Kv0)]), (43, [(Kk1, Kv1)])] 200 (.fn (.func 28) [] []) Kk102 emptyH) = some (.val Kv102) := by kernel_rfl
theorem Kq103 : valOf (evM (ctxOf Kit Kbt Kex) 100000 [(30, [(Kk76, Kv76)]), (32, [(Kk80, Kv80), (Kk84, Kv84), (Kk88, Kv88), (Kk92, Kv92), (Kk96, Kv96), (Kk100, Kv100)]), (28, [(Kk102, Kv102)])] 200 (.fn (.func 14) [] []) Kk103 emptyH) = some (.val Kv103) := by kernel_rfl
theorem Kq104 : valOf (evM (ctxOf Kit Kbt Kex) 100000 [] 200 (.fn (.func 43) [] []) Kk104 emptyH) = some (.val Kv104) := by kernel_rfl
theorem Kq105 : valOf (evM (ctxOf Kit Kbt Kex) 100000 [(42, [(Kk0, Kv0)]), (43, [(Kk104, Kv104)])] 200 (.fn (.func 28) [] []) Kk105 emptyH) = some (.val Kv105) := by kernel_rfl
theorem Kq106 : valOf (evM (ctxOf Kit Kbt Kex) 100000 [(81, [(Kk3, Kv3)]), (82, [(Kk4, Kv4), (Kk5, Kv5), (Kk6, Kv6), (Kk7, Kv7), (Kk9, Kv9), (Kk10, Kv10), (Kk11, Kv11), (Kk12, Kv12)]), (83, [(Kk34, Kv34), (Kk37, Kv37)])] 200 (.fn (.func 64) [] []) Kk106 emptyH) = some (.val Kv106) := by kernel_rfl
theorem Kq107 : valOf (evM (ctxOf Kit Kbt Kex) 100000 [(42, [(Kk0, Kv0)]), (43, [(Kk104, Kv104)]), (64, [(Kk106, Kv106)])] 200 (.fn (.func 44) [] []) Kk107 emptyH) = some (.val Kv107) := by kernel_rfl
theorem Kq108 : valOf (evM (ctxOf Kit Kbt Kex) 100000 [(44, [(Kk107, Kv107)])] 200 (.fn (.func 30) [] []) Kk108 emptyH) = some (.val Kv108) := by kernel_rfl
end Go.Proofs.YtpjkppnbnopmmaaGreat.reasonKnown
