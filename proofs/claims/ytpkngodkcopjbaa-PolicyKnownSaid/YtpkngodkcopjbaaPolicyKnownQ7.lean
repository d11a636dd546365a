/- The machine runs these calls (part 7). -/
import Derived.Test.YtpkngodkcopjbaaPolicyKnownK
import Derived.KernelRfl
namespace Go.Proofs.Ytpkngodkcopjbaa.policyKnown
open Hx Go
set_option maxRecDepth 100000
theorem Kq100 : valOf (evM (ctxOf Kit Kbt) 100000 [(12, [(Kk52, Kv52), (Kk64, Kv64)]), (11, [(Kk55, Kv55), (Kk67, Kv67)]), (15, [(Kk56, Kv56), (Kk65, Kv65)]), (26, [(Kk59, Kv59), (Kk60, Kv60), (Kk61, Kv61), (Kk71, Kv71), (Kk72, Kv72), (Kk73, Kv73), (Kk74, Kv74), (Kk78, Kv78), (Kk79, Kv79), (Kk80, Kv80)]), (5, [(Kk84, Kv84), (Kk90, Kv90), (Kk97, Kv97)]), (6, [(Kk98, Kv98)]), (4, [(Kk99, Kv99)])] 200 (.fn (.func 7) [] []) Kk100 emptyH) = some (.val Kv100) := by kernel_rfl
theorem Kq101 : valOf (evM (ctxOf Kit Kbt) 100000 [(4, [(Kk6, Kv6)]), (12, [(Kk9, Kv9)]), (11, [(Kk12, Kv12)]), (26, [(Kk16, Kv16), (Kk17, Kv17), (Kk18, Kv18), (Kk19, Kv19), (Kk20, Kv20), (Kk21, Kv21), (Kk22, Kv22), (Kk23, Kv23), (Kk24, Kv24)]), (5, [(Kk31, Kv31), (Kk37, Kv37), (Kk40, Kv40), (Kk46, Kv46)]), (15, [(Kk47, Kv47)]), (6, [(Kk49, Kv49), (Kk50, Kv50)]), (7, [(Kk100, Kv100)])] 200 (.fn (.func 3) [] []) Kk101 emptyH) = some (.val Kv101) := by kernel_rfl
end Go.Proofs.Ytpkngodkcopjbaa.policyKnown
