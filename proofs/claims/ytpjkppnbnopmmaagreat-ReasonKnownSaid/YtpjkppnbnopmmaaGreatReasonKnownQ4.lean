/- The machine runs these calls (part 4). -/
import Derived.Test.YtpjkppnbnopmmaaGreatReasonKnownK
import Derived.KernelRfl
namespace Go.Proofs.YtpjkppnbnopmmaaGreat.reasonKnown
open Hx Go
set_option maxRecDepth 100000
theorem Kq172 : valOf (evM (ctxOf Kit Kbt Kex) 100000 [] 200 (.fn (.func 43) [] []) Kk172 emptyH) = some (.val Kv172) := by kernel_rfl
theorem Kq173 : valOf (evM (ctxOf Kit Kbt Kex) 100000 [(42, [(Kk171, Kv171)]), (43, [(Kk172, Kv172)])] 200 (.fn (.func 28) [] []) Kk173 emptyH) = some (.val Kv173) := by kernel_rfl
theorem Kq174 : valOf (evM (ctxOf Kit Kbt Kex) 100000 [] 200 (.fn (.func 81) [] []) Kk174 emptyH) = some (.val Kv174) := by kernel_rfl
theorem Kq175 : frzOf (evM (ctxOf Kit Kbt Kex) 100000 [] 200 (.fn (.func 82) [] []) Kk175 emptyH) Kv175 = true := by kernel_rfl
theorem Kq176 : frzOf (evM (ctxOf Kit Kbt Kex) 100000 [] 200 (.fn (.func 82) [] []) Kk176 emptyH) Kv176 = true := by kernel_rfl
theorem Kq177 : frzOf (evM (ctxOf Kit Kbt Kex) 100000 [] 200 (.fn (.func 82) [] []) Kk177 emptyH) Kv177 = true := by kernel_rfl
theorem Kq178 : valOf (evM (ctxOf Kit Kbt Kex) 100000 [(82, [(Kk177, Kv177)])] 200 (.fn (.func 83) [] []) Kk178 emptyH) = some (.val Kv178) := by kernel_rfl
theorem Kq179 : frzOf (evM (ctxOf Kit Kbt Kex) 100000 [] 200 (.fn (.func 82) [] []) Kk179 emptyH) Kv179 = true := by kernel_rfl
theorem Kq180 : frzOf (evM (ctxOf Kit Kbt Kex) 100000 [] 200 (.fn (.func 82) [] []) Kk180 emptyH) Kv180 = true := by kernel_rfl
theorem Kq181 : frzOf (evM (ctxOf Kit Kbt Kex) 100000 [] 200 (.fn (.func 82) [] []) Kk181 emptyH) Kv181 = true := by kernel_rfl
theorem Kq182 : frzOf (evM (ctxOf Kit Kbt Kex) 100000 [] 200 (.fn (.func 82) [] []) Kk182 emptyH) Kv182 = true := by kernel_rfl
theorem Kq183 : valOf (evM (ctxOf Kit Kbt Kex) 100000 [(82, [(Kk182, Kv182)])] 200 (.fn (.func 83) [] []) Kk183 emptyH) = some (.val Kv183) := by kernel_rfl
theorem Kq184 : frzOf (evM (ctxOf Kit Kbt Kex) 100000 [] 200 (.fn (.func 82) [] []) Kk184 emptyH) Kv184 = true := by kernel_rfl
theorem Kq185 : valOf (evM (ctxOf Kit Kbt Kex) 100000 [(81, [(Kk174, Kv174)]), (82, [(Kk175, Kv175), (Kk176, Kv176), (Kk177, Kv177), (Kk179, Kv179), (Kk180, Kv180), (Kk181, Kv181), (Kk182, Kv182), (Kk184, Kv184)]), (83, [(Kk178, Kv178), (Kk183, Kv183)])] 200 (.fn (.func 64) [] []) Kk185 emptyH) = some (.val Kv185) := by kernel_rfl
theorem Kq186 : valOf (evM (ctxOf Kit Kbt Kex) 100000 [(42, [(Kk171, Kv171)]), (43, [(Kk172, Kv172)]), (64, [(Kk185, Kv185)])] 200 (.fn (.func 44) [] []) Kk186 emptyH) = some (.val Kv186) := by kernel_rfl
theorem Kq187 : valOf (evM (ctxOf Kit Kbt Kex) 100000 [(44, [(Kk186, Kv186)])] 200 (.fn (.func 30) [] []) Kk187 emptyH) = some (.val Kv187) := by kernel_rfl
theorem Kq188 : valOf (evM (ctxOf Kit Kbt Kex) 100000 [] 200 (.fn (.func 43) [] []) Kk188 emptyH) = some (.val Kv188) := by kernel_rfl
theorem Kq189 : valOf (evM (ctxOf Kit Kbt Kex) 100000 [(82, [(Kk175, Kv175)])] 200 (.fn (.func 83) [] []) Kk189 emptyH) = some (.val Kv189) := by kernel_rfl
theorem Kq190 : valOf (evM (ctxOf Kit Kbt Kex) 100000 [(82, [(Kk176, Kv176)])] 200 (.fn (.func 83) [] []) Kk190 emptyH) = some (.val Kv190) := by kernel_rfl
theorem Kq191 : valOf (evM (ctxOf Kit Kbt Kex) 100000 [(82, [(Kk179, Kv179)])] 200 (.fn (.func 83) [] []) Kk191 emptyH) = some (.val Kv191) := by kernel_rfl
theorem Kq192 : valOf (evM (ctxOf Kit Kbt Kex) 100000 [(82, [(Kk180, Kv180)])] 200 (.fn (.func 83) [] []) Kk192 emptyH) = some (.val Kv192) := by kernel_rfl
theorem Kq193 : valOf (evM (ctxOf Kit Kbt Kex) 100000 [(82, [(Kk181, Kv181)])] 200 (.fn (.func 83) [] []) Kk193 emptyH) = some (.val Kv193) := by kernel_rfl
theorem Kq194 : valOf (evM (ctxOf Kit Kbt Kex) 100000 [(82, [(Kk184, Kv184)])] 200 (.fn (.func 83) [] []) Kk194 emptyH) = some (.val Kv194) := by kernel_rfl
theorem Kq195 : valOf (evM (ctxOf Kit Kbt Kex) 100000 [] 200 (.fn (.func 43) [] []) Kk195 emptyH) = some (.val Kv195) := by kernel_rfl
theorem Kq196 : valOf (evM (ctxOf Kit Kbt Kex) 100000 [] 200 (.fn (.func 43) [] []) Kk196 emptyH) = some (.val Kv196) := by kernel_rfl
theorem Kq197 : valOf (evM (ctxOf Kit Kbt Kex) 100000 [] 200 (.fn (.func 38) [] []) Kk197 emptyH) = some (.val Kv197) := by kernel_rfl
theorem Kq198 : valOf (evM (ctxOf Kit Kbt Kex) 100000 [(42, [(Kk171, Kv171)]), (43, [(Kk172, Kv172)])] 200 (.fn (.func 28) [] []) Kk198 emptyH) = some (.val Kv198) := by kernel_rfl
theorem Kq199 : valOf (evM (ctxOf Kit Kbt Kex) 100000 [(44, [(Kk186, Kv186)])] 200 (.fn (.func 30) [] []) Kk199 emptyH) = some (.val Kv199) := by kernel_rfl
theorem Kq200 : valOf (evM (ctxOf Kit Kbt Kex) 100000 [] 200 (.fn (.func 43) [] []) Kk200 emptyH) = some (.val Kv200) := by kernel_rfl
theorem Kq201 : valOf (evM (ctxOf Kit Kbt Kex) 100000 [(81, [(Kk174, Kv174)]), (82, [(Kk175, Kv175), (Kk176, Kv176), (Kk177, Kv177), (Kk179, Kv179), (Kk180, Kv180), (Kk181, Kv181), (Kk182, Kv182), (Kk184, Kv184)]), (83, [(Kk183, Kv183)])] 200 (.fn (.func 64) [] []) Kk201 emptyH) = some (.val Kv201) := by kernel_rfl
theorem Kq202 : valOf (evM (ctxOf Kit Kbt Kex) 100000 [(42, [(Kk171, Kv171)]), (43, [(Kk200, Kv200)]), (64, [(Kk201, Kv201)])] 200 (.fn (.func 44) [] []) Kk202 emptyH) = some (.val Kv202) := by kernel_rfl
theorem Kq203 : valOf (evM (ctxOf Kit Kbt Kex) 100000 [(44, [(Kk202, Kv202)])] 200 (.fn (.func 32) [] []) Kk203 emptyH) = some (.val Kv203) := by kernel_rfl
theorem Kq204 : valOf (evM (ctxOf Kit Kbt Kex) 100000 [] 200 (.fn (.func 43) [] []) Kk204 emptyH) = some (.val Kv204) := by kernel_rfl
theorem Kq205 : valOf (evM (ctxOf Kit Kbt Kex) 100000 [(81, [(Kk174, Kv174)]), (82, [(Kk175, Kv175), (Kk176, Kv176), (Kk177, Kv177), (Kk179, Kv179), (Kk180, Kv180), (Kk181, Kv181), (Kk182, Kv182), (Kk184, Kv184)]), (83, [(Kk178, Kv178), (Kk189, Kv189)])] 200 (.fn (.func 64) [] []) Kk205 emptyH) = some (.val Kv205) := by kernel_rfl
theorem Kq206 : valOf (evM (ctxOf Kit Kbt Kex) 100000 [(42, [(Kk171, Kv171)]), (43, [(Kk204, Kv204)]), (64, [(Kk205, Kv205)])] 200 (.fn (.func 44) [] []) Kk206 emptyH) = some (.val Kv206) := by kernel_rfl
theorem Kq207 : valOf (evM (ctxOf Kit Kbt Kex) 100000 [(44, [(Kk206, Kv206)])] 200 (.fn (.func 32) [] []) Kk207 emptyH) = some (.val Kv207) := by kernel_rfl
theorem Kq208 : valOf (evM (ctxOf Kit Kbt Kex) 100000 [] 200 (.fn (.func 43) [] []) Kk208 emptyH) = some (.val Kv208) := by kernel_rfl
theorem Kq209 : valOf (evM (ctxOf Kit Kbt Kex) 100000 [(81, [(Kk174, Kv174)]), (82, [(Kk175, Kv175), (Kk176, Kv176), (Kk177, Kv177), (Kk179, Kv179), (Kk180, Kv180), (Kk181, Kv181), (Kk182, Kv182), (Kk184, Kv184)]), (83, [(Kk178, Kv178)])] 200 (.fn (.func 64) [] []) Kk209 emptyH) = some (.val Kv209) := by kernel_rfl
theorem Kq210 : valOf (evM (ctxOf Kit Kbt Kex) 100000 [(42, [(Kk171, Kv171)]), (43, [(Kk208, Kv208)]), (64, [(Kk209, Kv209)])] 200 (.fn (.func 44) [] []) Kk210 emptyH) = some (.val Kv210) := by kernel_rfl
theorem Kq211 : valOf (evM (ctxOf Kit Kbt Kex) 100000 [(44, [(Kk210, Kv210)])] 200 (.fn (.func 32) [] []) Kk211 emptyH) = some (.val Kv211) := by kernel_rfl
theorem Kq212 : valOf (evM (ctxOf Kit Kbt Kex) 100000 [] 200 (.fn (.func 43) [] []) Kk212 emptyH) = some (.val Kv212) := by kernel_rfl
theorem Kq213 : valOf (evM (ctxOf Kit Kbt Kex) 100000 [(81, [(Kk174, Kv174)]), (82, [(Kk175, Kv175), (Kk176, Kv176), (Kk177, Kv177), (Kk179, Kv179), (Kk180, Kv180), (Kk181, Kv181), (Kk182, Kv182), (Kk184, Kv184)]), (83, [(Kk183, Kv183), (Kk192, Kv192)])] 200 (.fn (.func 64) [] []) Kk213 emptyH) = some (.val Kv213) := by kernel_rfl
theorem Kq214 : valOf (evM (ctxOf Kit Kbt Kex) 100000 [(42, [(Kk171, Kv171)]), (43, [(Kk212, Kv212)]), (64, [(Kk213, Kv213)])] 200 (.fn (.func 44) [] []) Kk214 emptyH) = some (.val Kv214) := by kernel_rfl
theorem Kq215 : valOf (evM (ctxOf Kit Kbt Kex) 100000 [(44, [(Kk214, Kv214)])] 200 (.fn (.func 32) [] []) Kk215 emptyH) = some (.val Kv215) := by kernel_rfl
end Go.Proofs.YtpjkppnbnopmmaaGreat.reasonKnown
