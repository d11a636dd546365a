/- The machine runs these calls (part 6). -/
import Derived.Test.YtpkngodkcopjbaaPolicyKnownK
import Derived.KernelRfl
namespace Go.Proofs.Ytpkngodkcopjbaa.policyKnown
open Hx Go
set_option maxRecDepth 100000
theorem Kq79 : valOf (evM (ctxOf Kit Kbt) 100000 [(11, [(Kk67, Kv67)])] 200 (.fn (.func 26) [] []) Kk79 emptyH) = some (.val Kv79) := by kernel_rfl
theorem Kq80 : valOf (evM (ctxOf Kit Kbt) 100000 [(11, [(Kk67, Kv67)])] 200 (.fn (.func 26) [] []) Kk80 emptyH) = some (.val Kv80) := by kernel_rfl
theorem Kq81 : valOf (evM (ctxOf Kit Kbt) 100000 [(12, [(Kk52, Kv52)]), (11, [(Kk55, Kv55)])] 200 (.fn (.func 13) [] []) Kk81 emptyH) = some (.val Kv81) := by kernel_rfl
theorem Kq82 : valOf (evM (ctxOf Kit Kbt) 100000 [] 200 (.fn (.func 36) [] []) Kk82 emptyH) = some (.val Kv82) := by kernel_rfl
theorem Kq83 : valOf (evM (ctxOf Kit Kbt) 100000 [(36, [(Kk82, Kv82)])] 200 (.fn (.func 14) [] []) Kk83 emptyH) = some (.val Kv83) := by kernel_rfl
theorem Kq84 : valOf (evM (ctxOf Kit Kbt) 100000 [(12, [(Kk52, Kv52)]), (11, [(Kk55, Kv55)]), (13, [(Kk81, Kv81)]), (14, [(Kk83, Kv83)])] 200 (.fn (.func 5) [] []) Kk84 emptyH) = some (.val Kv84) := by kernel_rfl
theorem Kq85 : valOf (evM (ctxOf Kit Kbt) 100000 [(12, [(Kk52, Kv52)])] 200 (.fn (.func 15) [] []) Kk85 emptyH) = some (.val Kv85) := by kernel_rfl
theorem Kq86 : valOf (evM (ctxOf Kit Kbt) 100000 [] 200 (.fn (.func 30) [] []) Kk86 emptyH) = some (.val Kv86) := by kernel_rfl
theorem Kq87 : valOf (evM (ctxOf Kit Kbt) 100000 [(15, [(Kk85, Kv85)]), (30, [(Kk86, Kv86)])] 200 (.fn (.func 11) [] []) Kk87 emptyH) = some (.val Kv87) := by kernel_rfl
theorem Kq88 : valOf (evM (ctxOf Kit Kbt) 100000 [] 200 (.fn (.func 36) [] []) Kk88 emptyH) = some (.val Kv88) := by kernel_rfl
theorem Kq89 : valOf (evM (ctxOf Kit Kbt) 100000 [(36, [(Kk88, Kv88)])] 200 (.fn (.func 14) [] []) Kk89 emptyH) = some (.val Kv89) := by kernel_rfl
theorem Kq90 : valOf (evM (ctxOf Kit Kbt) 100000 [(12, [(Kk52, Kv52)]), (13, [(Kk81, Kv81)]), (11, [(Kk87, Kv87)]), (14, [(Kk89, Kv89)])] 200 (.fn (.func 5) [] []) Kk90 emptyH) = some (.val Kv90) := by kernel_rfl
theorem Kq91 : valOf (evM (ctxOf Kit Kbt) 100000 [(12, [(Kk64, Kv64)]), (11, [(Kk67, Kv67)])] 200 (.fn (.func 13) [] []) Kk91 emptyH) = some (.val Kv91) := by kernel_rfl
theorem Kq92 : valOf (evM (ctxOf Kit Kbt) 100000 [(12, [(Kk64, Kv64)])] 200 (.fn (.func 15) [] []) Kk92 emptyH) = some (.val Kv92) := by kernel_rfl
theorem Kq93 : valOf (evM (ctxOf Kit Kbt) 100000 [] 200 (.fn (.func 30) [] []) Kk93 emptyH) = some (.val Kv93) := by kernel_rfl
theorem Kq94 : valOf (evM (ctxOf Kit Kbt) 100000 [(15, [(Kk92, Kv92)]), (30, [(Kk93, Kv93)])] 200 (.fn (.func 11) [] []) Kk94 emptyH) = some (.val Kv94) := by kernel_rfl
theorem Kq95 : valOf (evM (ctxOf Kit Kbt) 100000 [] 200 (.fn (.func 36) [] []) Kk95 emptyH) = some (.val Kv95) := by kernel_rfl
theorem Kq96 : valOf (evM (ctxOf Kit Kbt) 100000 [(36, [(Kk95, Kv95)])] 200 (.fn (.func 14) [] []) Kk96 emptyH) = some (.val Kv96) := by kernel_rfl
theorem Kq97 : valOf (evM (ctxOf Kit Kbt) 100000 [(12, [(Kk64, Kv64)]), (13, [(Kk91, Kv91)]), (11, [(Kk94, Kv94)]), (14, [(Kk96, Kv96)])] 200 (.fn (.func 5) [] []) Kk97 emptyH) = some (.val Kv97) := by kernel_rfl
theorem Kq98 : valOf (evM (ctxOf Kit Kbt) 100000 [(15, [(Kk56, Kv56)])] 200 (.fn (.func 6) [] []) Kk98 emptyH) = some (.val Kv98) := by kernel_rfl
theorem Kq99 : valOf (evM (ctxOf Kit Kbt) 100000 [(9, [(Kk44, Kv44)])] 200 (.fn (.func 4) [] []) Kk99 emptyH) = some (.val Kv99) := by kernel_rfl
end Go.Proofs.Ytpkngodkcopjbaa.policyKnown
