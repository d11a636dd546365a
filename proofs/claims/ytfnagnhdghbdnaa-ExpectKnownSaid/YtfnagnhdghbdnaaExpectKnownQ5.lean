/- The machine runs these calls (part 5). -/
import Derived.Test.YtfnagnhdghbdnaaExpectKnownK
import Derived.KernelRfl
namespace Go.Proofs.Ytfnagnhdghbdnaa.expectKnown
open Hx Go
set_option maxRecDepth 100000
theorem Kq38 : valOf (evM (ctxOf Kit Kbt) 100000 [] 200 (.fn (.func 24) [] []) Kk38 emptyH) = some (.val Kv38) := by kernel_rfl
theorem Kq39 : valOf (evM (ctxOf Kit Kbt) 100000 [(24, [(Kk0, Kv0), (Kk38, Kv38)])] 200 (.fn (.func 12) [] []) Kk39 emptyH) = some (.val Kv39) := by kernel_rfl
theorem Kq40 : valOf (evM (ctxOf Kit Kbt) 100000 [(12, [(Kk39, Kv39)])] 200 (.fn (.func 7) [] []) Kk40 emptyH) = some (.val Kv40) := by kernel_rfl
theorem Kq41 : valOf (evM (ctxOf Kit Kbt) 100000 [(13, [(Kk37, Kv37)]), (12, [(Kk39, Kv39)])] 200 (.fn (.func 8) [] []) Kk41 emptyH) = some (.val Kv41) := by kernel_rfl
theorem Kq42 : valOf (evM (ctxOf Kit Kbt) 100000 [(24, [(Kk0, Kv0)])] 200 (.fn (.func 12) [] []) Kk42 emptyH) = some (.val Kv42) := by kernel_rfl
theorem Kq43 : valOf (evM (ctxOf Kit Kbt) 100000 [(12, [(Kk42, Kv42)])] 200 (.fn (.func 5) [] []) Kk43 emptyH) = some (.val Kv43) := by kernel_rfl
theorem Kq44 : valOf (evM (ctxOf Kit Kbt) 100000 [(12, [(Kk36, Kv36)])] 200 (.fn (.func 6) [] []) Kk44 emptyH) = some (.val Kv44) := by kernel_rfl
theorem Kq45 : valOf (evM (ctxOf Kit Kbt) 100000 [(12, [(Kk36, Kv36)])] 200 (.fn (.func 5) [] []) Kk45 emptyH) = some (.val Kv45) := by kernel_rfl
theorem Kq46 : valOf (evM (ctxOf Kit Kbt) 100000 [(12, [(Kk36, Kv36)]), (13, [(Kk37, Kv37)]), (7, [(Kk40, Kv40)]), (8, [(Kk41, Kv41)]), (5, [(Kk43, Kv43), (Kk45, Kv45)]), (6, [(Kk44, Kv44)])] 200 (.fn (.func 11) [] []) Kk46 emptyH) = some (.val Kv46) := by kernel_rfl
theorem Kq47 : valOf (evM (ctxOf Kit Kbt) 100000 [(12, [(Kk1, Kv1), (Kk24, Kv24)]), (13, [(Kk3, Kv3)]), (7, [(Kk7, Kv7), (Kk23, Kv23), (Kk30, Kv30), (Kk32, Kv32)]), (8, [(Kk13, Kv13), (Kk16, Kv16), (Kk19, Kv19), (Kk21, Kv21)]), (5, [(Kk26, Kv26), (Kk28, Kv28), (Kk34, Kv34)]), (6, [(Kk35, Kv35)]), (11, [(Kk46, Kv46)])] 200 (.fn (.func 3) [] []) Kk47 emptyH) = some (.val Kv47) := by kernel_rfl
end Go.Proofs.Ytfnagnhdghbdnaa.expectKnown
