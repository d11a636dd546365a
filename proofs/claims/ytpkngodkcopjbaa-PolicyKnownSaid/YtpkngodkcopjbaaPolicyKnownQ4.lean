/- The machine runs these calls (part 4). -/
import Derived.Test.YtpkngodkcopjbaaPolicyKnownK
import Derived.KernelRfl
namespace Go.Proofs.Ytpkngodkcopjbaa.policyKnown
open Hx Go
set_option maxRecDepth 100000
theorem Kq27 : valOf (evM (ctxOf Kit Kbt) 100000 [] 200 (.fn (.func 30) [] []) Kk27 emptyH) = some (.val Kv27) := by kernel_rfl
theorem Kq28 : valOf (evM (ctxOf Kit Kbt) 100000 [(15, [(Kk26, Kv26)]), (30, [(Kk27, Kv27)])] 200 (.fn (.func 11) [] []) Kk28 emptyH) = some (.val Kv28) := by kernel_rfl
theorem Kq29 : valOf (evM (ctxOf Kit Kbt) 100000 [] 200 (.fn (.func 36) [] []) Kk29 emptyH) = some (.val Kv29) := by kernel_rfl
theorem Kq30 : valOf (evM (ctxOf Kit Kbt) 100000 [(36, [(Kk29, Kv29)])] 200 (.fn (.func 14) [] []) Kk30 emptyH) = some (.val Kv30) := by kernel_rfl
theorem Kq31 : valOf (evM (ctxOf Kit Kbt) 100000 [(12, [(Kk9, Kv9)]), (13, [(Kk25, Kv25)]), (11, [(Kk28, Kv28)]), (14, [(Kk30, Kv30)])] 200 (.fn (.func 5) [] []) Kk31 emptyH) = some (.val Kv31) := by kernel_rfl
theorem Kq32 : valOf (evM (ctxOf Kit Kbt) 100000 [(12, [(Kk9, Kv9)])] 200 (.fn (.func 15) [] []) Kk32 emptyH) = some (.val Kv32) := by kernel_rfl
theorem Kq33 : valOf (evM (ctxOf Kit Kbt) 100000 [] 200 (.fn (.func 30) [] []) Kk33 emptyH) = some (.val Kv33) := by kernel_rfl
theorem Kq34 : valOf (evM (ctxOf Kit Kbt) 100000 [(15, [(Kk32, Kv32)]), (30, [(Kk33, Kv33)])] 200 (.fn (.func 11) [] []) Kk34 emptyH) = some (.val Kv34) := by kernel_rfl
theorem Kq35 : valOf (evM (ctxOf Kit Kbt) 100000 [] 200 (.fn (.func 36) [] []) Kk35 emptyH) = some (.val Kv35) := by kernel_rfl
theorem Kq36 : valOf (evM (ctxOf Kit Kbt) 100000 [(36, [(Kk35, Kv35)])] 200 (.fn (.func 14) [] []) Kk36 emptyH) = some (.val Kv36) := by kernel_rfl
theorem Kq37 : valOf (evM (ctxOf Kit Kbt) 100000 [(12, [(Kk9, Kv9)]), (13, [(Kk25, Kv25)]), (11, [(Kk34, Kv34)]), (14, [(Kk36, Kv36)])] 200 (.fn (.func 5) [] []) Kk37 emptyH) = some (.val Kv37) := by kernel_rfl
theorem Kq38 : valOf (evM (ctxOf Kit Kbt) 100000 [(12, [(Kk9, Kv9)])] 200 (.fn (.func 15) [] []) Kk38 emptyH) = some (.val Kv38) := by kernel_rfl
theorem Kq39 : valOf (evM (ctxOf Kit Kbt) 100000 [(15, [(Kk38, Kv38)])] 200 (.fn (.func 11) [] []) Kk39 emptyH) = some (.val Kv39) := by kernel_rfl
theorem Kq40 : valOf (evM (ctxOf Kit Kbt) 100000 [(12, [(Kk9, Kv9)]), (13, [(Kk25, Kv25)]), (11, [(Kk39, Kv39)])] 200 (.fn (.func 5) [] []) Kk40 emptyH) = some (.val Kv40) := by kernel_rfl
theorem Kq41 : valOf (evM (ctxOf Kit Kbt) 100000 [] 200 (.fn (.func 31) [] []) Kk41 emptyH) = some (.val Kv41) := by kernel_rfl
theorem Kq42 : valOf (evM (ctxOf Kit Kbt) 100000 [(31, [(Kk41, Kv41)])] 200 (.fn (.func 12) [] []) Kk42 emptyH) = some (.val Kv42) := by kernel_rfl
theorem Kq43 : valOf (evM (ctxOf Kit Kbt) 100000 [(12, [(Kk42, Kv42)])] 200 (.fn (.func 20) [] []) Kk43 emptyH) = some (.val Kv43) := by kernel_rfl
theorem Kq44 : valOf (evM (ctxOf Kit Kbt) 100000 [(12, [(Kk42, Kv42)]), (20, [(Kk43, Kv43)])] 200 (.fn (.func 9) [] []) Kk44 emptyH) = some (.val Kv44) := by kernel_rfl
theorem Kq45 : valOf (evM (ctxOf Kit Kbt) 100000 [(9, [(Kk44, Kv44)])] 200 (.fn (.func 13) [] []) Kk45 emptyH) = some (.val Kv45) := by kernel_rfl
theorem Kq46 : valOf (evM (ctxOf Kit Kbt) 100000 [(12, [(Kk42, Kv42)]), (13, [(Kk45, Kv45)])] 200 (.fn (.func 5) [] []) Kk46 emptyH) = some (.val Kv46) := by kernel_rfl
theorem Kq47 : valOf (evM (ctxOf Kit Kbt) 100000 [(12, [(Kk42, Kv42)])] 200 (.fn (.func 15) [] []) Kk47 emptyH) = some (.val Kv47) := by kernel_rfl
theorem Kq48 : valOf (evM (ctxOf Kit Kbt) 100000 [(12, [(Kk42, Kv42)])] 200 (.fn (.func 15) [] []) Kk48 emptyH) = some (.val Kv48) := by kernel_rfl
theorem Kq49 : valOf (evM (ctxOf Kit Kbt) 100000 [(15, [(Kk48, Kv48)])] 200 (.fn (.func 6) [] []) Kk49 emptyH) = some (.val Kv49) := by kernel_rfl
theorem Kq50 : valOf (evM (ctxOf Kit Kbt) 100000 [(15, [(Kk47, Kv47)])] 200 (.fn (.func 6) [] []) Kk50 emptyH) = some (.val Kv50) := by kernel_rfl
theorem Kq51 : valOf (evM (ctxOf Kit Kbt) 100000 [] 200 (.fn (.func 31) [] []) Kk51 emptyH) = some (.val Kv51) := by kernel_rfl
theorem Kq52 : valOf (evM (ctxOf Kit Kbt) 100000 [(31, [(Kk51, Kv51)])] 200 (.fn (.func 12) [] []) Kk52 emptyH) = some (.val Kv52) := by kernel_rfl
theorem Kq53 : valOf (evM (ctxOf Kit Kbt) 100000 [(12, [(Kk52, Kv52)])] 200 (.fn (.func 15) [] []) Kk53 emptyH) = some (.val Kv53) := by kernel_rfl
theorem Kq54 : valOf (evM (ctxOf Kit Kbt) 100000 [] 200 (.fn (.func 30) [] []) Kk54 emptyH) = some (.val Kv54) := by kernel_rfl
theorem Kq55 : valOf (evM (ctxOf Kit Kbt) 100000 [(15, [(Kk53, Kv53)]), (30, [(Kk54, Kv54)])] 200 (.fn (.func 11) [] []) Kk55 emptyH) = some (.val Kv55) := by kernel_rfl
theorem Kq56 : valOf (evM (ctxOf Kit Kbt) 100000 [(12, [(Kk52, Kv52)])] 200 (.fn (.func 15) [] []) Kk56 emptyH) = some (.val Kv56) := by kernel_rfl
theorem Kq57 : valOf (evM (ctxOf Kit Kbt) 100000 [] 200 (.fn (.func 30) [] []) Kk57 emptyH) = some (.val Kv57) := by kernel_rfl
theorem Kq58 : valOf (evM (ctxOf Kit Kbt) 100000 [(15, [(Kk56, Kv56)]), (30, [(Kk57, Kv57)])] 200 (.fn (.func 11) [] []) Kk58 emptyH) = some (.val Kv58) := by kernel_rfl
theorem Kq59 : valOf (evM (ctxOf Kit Kbt) 100000 [(11, [(Kk58, Kv58)])] 200 (.fn (.func 26) [] []) Kk59 emptyH) = some (.val Kv59) := by kernel_rfl
theorem Kq60 : valOf (evM (ctxOf Kit Kbt) 100000 [(11, [(Kk55, Kv55)])] 200 (.fn (.func 26) [] []) Kk60 emptyH) = some (.val Kv60) := by kernel_rfl
theorem Kq61 : valOf (evM (ctxOf Kit Kbt) 100000 [(11, [(Kk55, Kv55)])] 200 (.fn (.func 26) [] []) Kk61 emptyH) = some (.val Kv61) := by kernel_rfl
theorem Kq62 : valOf (evM (ctxOf Kit Kbt) 100000 [] 200 (.fn (.func 31) [] []) Kk62 emptyH) = some (.val Kv62) := by kernel_rfl
theorem Kq63 : valOf (evM (ctxOf Kit Kbt) 100000 [] 200 (.fn (.func 35) [] []) Kk63 emptyH) = some (.val Kv63) := by kernel_rfl
theorem Kq64 : valOf (evM (ctxOf Kit Kbt) 100000 [(31, [(Kk62, Kv62)]), (35, [(Kk63, Kv63)])] 200 (.fn (.func 12) [] []) Kk64 emptyH) = some (.val Kv64) := by kernel_rfl
theorem Kq65 : valOf (evM (ctxOf Kit Kbt) 100000 [(12, [(Kk64, Kv64)])] 200 (.fn (.func 15) [] []) Kk65 emptyH) = some (.val Kv65) := by kernel_rfl
end Go.Proofs.Ytpkngodkcopjbaa.policyKnown
