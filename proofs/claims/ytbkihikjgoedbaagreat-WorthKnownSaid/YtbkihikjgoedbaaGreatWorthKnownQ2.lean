/- The machine runs these calls (part 2). -/
import Derived.Test.YtbkihikjgoedbaaGreatWorthKnownK
import Derived.KernelRfl
namespace Go.Proofs.YtbkihikjgoedbaaGreat.worthKnown
open Hx Go
set_option maxRecDepth 100000
theorem Kq142 : valOf (evM (ctxOf Kit Kbt Kex) 100000 [(19, [(Kk45, Kv45)]), (12, [(Kk58, Kv58)]), (13, [(Kk61, Kv61), (Kk74, Kv74), (Kk87, Kv87), (Kk96, Kv96)]), (16, [(Kk141, Kv141)])] 200 (.fn (.func 5) [] []) Kk142 emptyH) = some (.val Kv142) := by kernel_rfl
theorem Kq143 : valOf (evM (ctxOf Kit Kbt Kex) 100000 [(5, [(Kk142, Kv142)])] 200 (.fn (.func 10) [] []) Kk143 emptyH) = some (.val Kv143) := by kernel_rfl
theorem Kq144 : valOf (evM (ctxOf Kit Kbt Kex) 100000 [(19, [(Kk1, Kv1)]), (4, [(Kk17, Kv17), (Kk29, Kv29), (Kk43, Kv43)]), (5, [(Kk33, Kv33), (Kk47, Kv47)]), (6, [(Kk34, Kv34), (Kk37, Kv37)]), (7, [(Kk38, Kv38), (Kk49, Kv49), (Kk50, Kv50)]), (9, [(Kk130, Kv130)]), (10, [(Kk132, Kv132), (Kk134, Kv134), (Kk139, Kv139), (Kk143, Kv143)])] 200 (.fn (.func 3) [] []) Kk144 emptyH) = some (.val Kv144) := by kernel_rfl
end Go.Proofs.YtbkihikjgoedbaaGreat.worthKnown
