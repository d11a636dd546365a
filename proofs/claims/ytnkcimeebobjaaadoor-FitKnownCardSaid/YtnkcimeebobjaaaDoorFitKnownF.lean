/- The commands are what the machine's compiler makes of the program's functions. -/
import Derived.Test.YtnkcimeebobjaaaDoorFitKnownD1
import Derived.Test.YtnkcimeebobjaaaDoorRows
namespace Go.Proofs.YtnkcimeebobjaaaDoor.fitKnown
open Hx Go
set_option maxRecDepth 100000
noncomputable def Kgl : Nat → Option (List AV) := glT [(0, (.i64, [2, 3, 5, 7, 11, 13, 17, 19, 23, 29, 31, 37, 41, 43, 47, 53, 59, 61]))]
noncomputable def Kbdt : Tr BInfo := (.n (.n .e (some (bI [0, 1, 37, 2, 3, 44, 43, 45, 42, 6, 56, 4, 80, 79, 81, 78, 10, 7, 5, 98, 8, 128, 132, 131, 133, 130, 12, 140, 139, 141, 138, 13, 15, 157, 11, 160, 161, 162, 17, 167] Tryd.f99 0)) .e) (some (bI [0, 1, 2, 3, 4, 5, 12, 19, 10, 7, 8, 9, 61, 66, 67, 68, 13, 14, 15, 11] Tryd.f19 0)) (.n .e (some (bI [0, 1, 13, 14, 15, 5, 6, 7, 4] Tryd.f126 0)) .e))
noncomputable def Kbd : Nat → Option BInfo := Kbdt.get
theorem Kf7 : FnFact Tryd.prog Kgl Kbd 7 Ki7 Tryd.f7 [1, 3, 2, 5, 7, 9, 11, 13, 15, 17, 19, 143, 21, 20, 32, 23, 22, 25, 27, 29, 31, 34, 36, 38, 40, 42, 44, 43, 0] false 0 0 := ⟨Tryd.func7, by kernel_rfl, by kernel_rfl, by kernel_rfl, lt0⟩
theorem Kf10 : FnFact Tryd.prog Kgl Kbd 10 Ki10 Tryd.f10 [0, 1, 2, 25, 43, 6, 7] false 0 0 := ⟨Tryd.func10, by kernel_rfl, by kernel_rfl, by kernel_rfl, lt0⟩
theorem Kf13 : FnFact Tryd.prog Kgl Kbd 13 Ki13 Tryd.f13 [0, 1, 10, 13, 12, 14, 5, 24, 4] false 0 0 := ⟨Tryd.func13, by kernel_rfl, by kernel_rfl, by kernel_rfl, lt0⟩
theorem Kf14 : FnFact Tryd.prog Kgl Kbd 14 Ki14 Tryd.f14 [1, 4, 3, 16, 5, 7, 6, 9, 8, 11, 13, 15, 0] false 0 0 := ⟨Tryd.func14, by kernel_rfl, by kernel_rfl, by kernel_rfl, lt0⟩
theorem Kf19 : FnFact Tryd.prog Kgl Kbd 19 Ki19 Tryd.f19 [0, 1, 2, 3, 4, 5, 12, 19, 10, 7, 8, 9, 61, 66, 67, 68, 13, 14, 15, 11] false 0 1 := ⟨Tryd.func19, by kernel_rfl, by kernel_rfl, by kernel_rfl, (ltS lt0 (by kernel_rfl))⟩
theorem Kf24 : FnFact Tryd.prog Kgl Kbd 24 Ki24 Tryd.f24 [0, 1, 2, 3, 22, 5, 27, 6, 7, 61, 8, 66, 80, 4] false 1 0 := ⟨Tryd.func24, by kernel_rfl, by kernel_rfl, by kernel_rfl, lt0⟩
theorem Kf30 : FnFact Tryd.prog Kgl Kbd 30 Ki30 Tryd.f30 [0, 1, 2, 3, 6, 20, 4, 7, 37, 36, 38, 35, 44, 43, 45, 42, 11, 52, 51, 53, 50, 12, 14, 9, 10, 15, 82, 5] false 1 0 := ⟨Tryd.func30, by kernel_rfl, by kernel_rfl, by kernel_rfl, lt0⟩
theorem Kf32 : FnFact Tryd.prog Kgl Kbd 32 Ki32 Tryd.f32 [0, 7, 4, 15, 3, 2] false 1 0 := ⟨Tryd.func32, by kernel_rfl, by kernel_rfl, by kernel_rfl, lt0⟩
theorem Kf34 : FnFact Tryd.prog Kgl Kbd 34 Ki34 Tryd.f34 [0, 1, 10, 5, 6, 26, 7, 8, 37, 4] false 1 0 := ⟨Tryd.func34, by kernel_rfl, by kernel_rfl, by kernel_rfl, lt0⟩
theorem Kf35 : FnFact Tryd.prog Kgl Kbd 35 Ki35 Tryd.f35 [0] false 1 0 := ⟨Tryd.func35, by kernel_rfl, by kernel_rfl, by kernel_rfl, lt0⟩
theorem Kf36 : FnFact Tryd.prog Kgl Kbd 36 Ki36 Tryd.f36 [0, 1, 2, 3, 8] false 1 0 := ⟨Tryd.func36, by kernel_rfl, by kernel_rfl, by kernel_rfl, lt0⟩
theorem Kf37 : FnFact Tryd.prog Kgl Kbd 37 Ki37 Tryd.f37 [0, 1, 2, 3, 10, 9, 8] false 1 0 := ⟨Tryd.func37, by kernel_rfl, by kernel_rfl, by kernel_rfl, lt0⟩
theorem Kf46 : FnFact Tryd.prog Kgl Kbd 46 Ki46 Tryd.f46 [0, 7, 4, 15, 3, 2] false 1 0 := ⟨Tryd.func46, by kernel_rfl, by kernel_rfl, by kernel_rfl, lt0⟩
theorem Kf47 : FnFact Tryd.prog Kgl Kbd 47 Ki47 Tryd.f47 [0, 1, 2, 22, 21, 23, 20, 7, 9, 31, 10, 56, 55, 57, 54, 16, 11, 15, 12, 13, 17, 14, 98, 97, 99, 96, 19, 6] false 1 0 := ⟨Tryd.func47, by kernel_rfl, by kernel_rfl, by kernel_rfl, lt0⟩
theorem Kf51 : FnFact Tryd.prog Kgl Kbd 51 Ki51 Tryd.f51 [0, 1, 25, 29, 28, 30, 27, 5, 38, 3, 44, 48, 47, 49, 46, 7, 57, 60, 59, 61, 58, 8, 9, 70, 2] false 1 0 := ⟨Tryd.func51, by kernel_rfl, by kernel_rfl, by kernel_rfl, lt0⟩
theorem Kf52 : FnFact Tryd.prog Kgl Kbd 52 Ki52 Tryd.f52 [0, 15, 14, 16, 13, 5, 3, 22, 25, 28, 27, 29, 26, 8, 36, 6, 7, 45, 2] false 1 0 := ⟨Tryd.func52, by kernel_rfl, by kernel_rfl, by kernel_rfl, lt0⟩
theorem Kf53 : FnFact Tryd.prog Kgl Kbd 53 Ki53 Tryd.f53 [0, 1, 2] false 1 0 := ⟨Tryd.func53, by kernel_rfl, by kernel_rfl, by kernel_rfl, lt0⟩
theorem Kf54 : FnFact Tryd.prog Kgl Kbd 54 Ki54 Tryd.f54 [0, 1, 2, 3, 4, 5, 8, 26, 25, 27, 24, 13, 6, 15, 7, 43, 42, 44, 41, 16, 17, 19, 20, 58, 57, 59, 22, 69, 68, 70, 23, 21, 12] false 1 0 := ⟨Tryd.func54, by kernel_rfl, by kernel_rfl, by kernel_rfl, lt0⟩
theorem Kf59 : FnFact Tryd.prog Kgl Kbd 59 Ki59 Tryd.f59 [0, 1, 10, 5, 14, 25, 4] false 1 0 := ⟨Tryd.func59, by kernel_rfl, by kernel_rfl, by kernel_rfl, lt0⟩
theorem Kf65 : FnFact Tryd.prog Kgl Kbd 65 Ki65 Tryd.f65 [0, 1, 2, 5, 10, 3, 6, 15, 22, 25, 4] false 1 0 := ⟨Tryd.func65, by kernel_rfl, by kernel_rfl, by kernel_rfl, lt0⟩
theorem Kf66 : FnFact Tryd.prog Kgl Kbd 66 Ki66 Tryd.f66 [0, 1, 2, 9, 10, 8, 7, 16, 6] false 1 0 := ⟨Tryd.func66, by kernel_rfl, by kernel_rfl, by kernel_rfl, lt0⟩
theorem Kf71 : FnFact Tryd.prog Kgl Kbd 71 Ki71 Tryd.f71 [0, 1, 6, 7, 8, 9, 4, 5] false 1 0 := ⟨Tryd.func71, by kernel_rfl, by kernel_rfl, by kernel_rfl, lt0⟩
theorem Kf76 : FnFact Tryd.prog Kgl Kbd 76 Ki76 Tryd.f76 [0, 1, 4] false 1 0 := ⟨Tryd.func76, by kernel_rfl, by kernel_rfl, by kernel_rfl, lt0⟩
theorem Kf77 : FnFact Tryd.prog Kgl Kbd 77 Ki77 Tryd.f77 [0, 1, 2, 15, 6] false 1 0 := ⟨Tryd.func77, by kernel_rfl, by kernel_rfl, by kernel_rfl, lt0⟩
theorem Kf78 : FnFact Tryd.prog Kgl Kbd 78 Ki78 Tryd.f78 [0, 1, 2, 6] false 1 0 := ⟨Tryd.func78, by kernel_rfl, by kernel_rfl, by kernel_rfl, lt0⟩
theorem Kf79 : FnFact Tryd.prog Kgl Kbd 79 Ki79 Tryd.f79 [0, 1, 9, 8, 10, 7, 16, 15, 17, 4, 6, 23, 5, 3, 33] false 1 0 := ⟨Tryd.func79, by kernel_rfl, by kernel_rfl, by kernel_rfl, lt0⟩
theorem Kf80 : FnFact Tryd.prog Kgl Kbd 80 Ki80 Tryd.f80 [0, 1, 2, 3, 11, 10, 12, 9, 8, 19, 6, 37, 5] false 1 0 := ⟨Tryd.func80, by kernel_rfl, by kernel_rfl, by kernel_rfl, lt0⟩
theorem Kf84 : FnFact Tryd.prog Kgl Kbd 84 Ki84 Tryd.f84 [0, 1, 4, 2] false 1 0 := ⟨Tryd.func84, by kernel_rfl, by kernel_rfl, by kernel_rfl, lt0⟩
theorem Kf85 : FnFact Tryd.prog Kgl Kbd 85 Ki85 Tryd.f85 [0, 1, 2, 14, 17, 16, 18, 15, 7, 8, 9, 30, 6] false 1 0 := ⟨Tryd.func85, by kernel_rfl, by kernel_rfl, by kernel_rfl, lt0⟩
theorem Kf86 : FnFact Tryd.prog Kgl Kbd 86 Ki86 Tryd.f86 [0, 1, 2, 4] false 1 0 := ⟨Tryd.func86, by kernel_rfl, by kernel_rfl, by kernel_rfl, lt0⟩
theorem Kf87 : FnFact Tryd.prog Kgl Kbd 87 Ki87 Tryd.f87 [0, 1, 4] false 1 0 := ⟨Tryd.func87, by kernel_rfl, by kernel_rfl, by kernel_rfl, lt0⟩
theorem Kf88 : FnFact Tryd.prog Kgl Kbd 88 Ki88 Tryd.f88 [0, 2] false 1 0 := ⟨Tryd.func88, by kernel_rfl, by kernel_rfl, by kernel_rfl, lt0⟩
theorem Kf89 : FnFact Tryd.prog Kgl Kbd 89 Ki89 Tryd.f89 [0, 1, 4] false 1 0 := ⟨Tryd.func89, by kernel_rfl, by kernel_rfl, by kernel_rfl, lt0⟩
theorem Kf93 : FnFact Tryd.prog Kgl Kbd 93 Ki93 Tryd.f93 [0, 1, 6, 4, 5] false 1 0 := ⟨Tryd.func93, by kernel_rfl, by kernel_rfl, by kernel_rfl, lt0⟩
theorem Kf94 : FnFact Tryd.prog Kgl Kbd 94 Ki94 Tryd.f94 [0, 1, 6, 8, 7, 10, 11, 12, 9, 13, 4, 5] false 1 0 := ⟨Tryd.func94, by kernel_rfl, by kernel_rfl, by kernel_rfl, lt0⟩
theorem Kf97 : FnFact Tryd.prog Kgl Kbd 97 Ki97 Tryd.f97 [0, 1, 2, 3, 4, 12, 25, 32, 10, 39, 14, 56, 13, 11, 75, 80, 97, 15, 17, 16, 18, 19, 125, 20] false 1 0 := ⟨Tryd.func97, by kernel_rfl, by kernel_rfl, by kernel_rfl, lt0⟩
theorem Kf98 : FnFact Tryd.prog Kgl Kbd 98 Ki98 Tryd.f98 [0, 2] false 1 0 := ⟨Tryd.func98, by kernel_rfl, by kernel_rfl, by kernel_rfl, lt0⟩
theorem Kf99 : FnFact Tryd.prog Kgl Kbd 99 Ki99 Tryd.f99 [0, 1, 37, 2, 3, 44, 43, 45, 42, 6, 56, 4, 80, 79, 81, 78, 10, 7, 5, 98, 8, 128, 132, 131, 133, 130, 12, 140, 139, 141, 138, 13, 15, 157, 11, 160, 161, 162, 17, 167] false 1 1 := ⟨Tryd.func99, by kernel_rfl, by kernel_rfl, by kernel_rfl, (ltS lt0 (by kernel_rfl))⟩
theorem Kf100 : FnFact Tryd.prog Kgl Kbd 100 Ki100 Tryd.f100 [0, 1, 8, 7, 9, 5, 16, 4] false 2 0 := ⟨Tryd.func100, by kernel_rfl, by kernel_rfl, by kernel_rfl, lt0⟩
theorem Kf101 : FnFact Tryd.prog Kgl Kbd 101 Ki101 Tryd.f101 [0, 1, 8, 7, 9, 5, 16, 4] false 2 0 := ⟨Tryd.func101, by kernel_rfl, by kernel_rfl, by kernel_rfl, lt0⟩
theorem Kf103 : FnFact Tryd.prog Kgl Kbd 103 Ki103 Tryd.f103 [0, 1, 2, 3, 8, 14, 9, 34] false 2 0 := ⟨Tryd.func103, by kernel_rfl, by kernel_rfl, by kernel_rfl, lt0⟩
theorem Kf104 : FnFact Tryd.prog Kgl Kbd 104 Ki104 Tryd.f104 [0, 1, 2, 3, 10, 11, 21, 8, 12, 33, 9] false 2 0 := ⟨Tryd.func104, by kernel_rfl, by kernel_rfl, by kernel_rfl, lt0⟩
theorem Kf105 : FnFact Tryd.prog Kgl Kbd 105 Ki105 Tryd.f105 [0, 1, 2, 3, 8, 17, 11, 35, 9, 10, 12, 45] false 2 0 := ⟨Tryd.func105, by kernel_rfl, by kernel_rfl, by kernel_rfl, lt0⟩
theorem Kf106 : FnFact Tryd.prog Kgl Kbd 106 Ki106 Tryd.f106 [0, 1, 2, 3, 10, 34, 36, 12, 11, 13, 14, 55, 57, 60, 8, 9] false 2 0 := ⟨Tryd.func106, by kernel_rfl, by kernel_rfl, by kernel_rfl, lt0⟩
theorem Kf107 : FnFact Tryd.prog Kgl Kbd 107 Ki107 Tryd.f107 [0, 1, 2, 3, 8, 9, 15] false 2 0 := ⟨Tryd.func107, by kernel_rfl, by kernel_rfl, by kernel_rfl, lt0⟩
theorem Kf108 : FnFact Tryd.prog Kgl Kbd 108 Ki108 Tryd.f108 [0, 1, 2, 3, 10, 16, 9, 36, 41, 45, 65, 11, 69, 84, 104, 12, 109, 124, 8] false 2 0 := ⟨Tryd.func108, by kernel_rfl, by kernel_rfl, by kernel_rfl, lt0⟩
theorem Kf109 : FnFact Tryd.prog Kgl Kbd 109 Ki109 Tryd.f109 [0, 1, 2, 3, 4, 11, 12, 47, 65, 70, 10] false 2 0 := ⟨Tryd.func109, by kernel_rfl, by kernel_rfl, by kernel_rfl, lt0⟩
theorem Kf110 : FnFact Tryd.prog Kgl Kbd 110 Ki110 Tryd.f110 [0, 1, 2, 3, 4, 12, 13, 47, 66, 71, 120, 139, 144, 10, 11] false 2 0 := ⟨Tryd.func110, by kernel_rfl, by kernel_rfl, by kernel_rfl, lt0⟩
theorem Kf111 : FnFact Tryd.prog Kgl Kbd 111 Ki111 Tryd.f111 [0, 4, 8, 2] false 2 0 := ⟨Tryd.func111, by kernel_rfl, by kernel_rfl, by kernel_rfl, lt0⟩
theorem Kf112 : FnFact Tryd.prog Kgl Kbd 112 Ki112 Tryd.f112 [0, 4, 8, 2, 14] false 2 0 := ⟨Tryd.func112, by kernel_rfl, by kernel_rfl, by kernel_rfl, lt0⟩
theorem Kf113 : FnFact Tryd.prog Kgl Kbd 113 Ki113 Tryd.f113 [0, 3, 11, 14, 13, 15, 12, 4, 5, 29, 2] false 2 0 := ⟨Tryd.func113, by kernel_rfl, by kernel_rfl, by kernel_rfl, lt0⟩
theorem Kf114 : FnFact Tryd.prog Kgl Kbd 114 Ki114 Tryd.f114 [0, 1, 2, 3, 4] false 2 0 := ⟨Tryd.func114, by kernel_rfl, by kernel_rfl, by kernel_rfl, lt0⟩
theorem Kf115 : FnFact Tryd.prog Kgl Kbd 115 Ki115 Tryd.f115 [0, 1, 2, 12, 11, 13, 10, 9, 3, 23, 7, 6] false 2 0 := ⟨Tryd.func115, by kernel_rfl, by kernel_rfl, by kernel_rfl, lt0⟩
theorem Kf116 : FnFact Tryd.prog Kgl Kbd 116 Ki116 Tryd.f116 [0, 1, 2, 3, 4, 10, 11, 18, 40, 58] false 2 0 := ⟨Tryd.func116, by kernel_rfl, by kernel_rfl, by kernel_rfl, lt0⟩
theorem Kf117 : FnFact Tryd.prog Kgl Kbd 117 Ki117 Tryd.f117 [0, 2] false 2 0 := ⟨Tryd.func117, by kernel_rfl, by kernel_rfl, by kernel_rfl, lt0⟩
theorem Kf118 : FnFact Tryd.prog Kgl Kbd 118 Ki118 Tryd.f118 [0, 2] false 2 0 := ⟨Tryd.func118, by kernel_rfl, by kernel_rfl, by kernel_rfl, lt0⟩
theorem Kf119 : FnFact Tryd.prog Kgl Kbd 119 Ki119 Tryd.f119 [0, 1, 2, 3, 8] false 2 0 := ⟨Tryd.func119, by kernel_rfl, by kernel_rfl, by kernel_rfl, lt0⟩
theorem Kf120 : FnFact Tryd.prog Kgl Kbd 120 Ki120 Tryd.f120 [0, 1, 2, 3, 4, 5, 12] false 2 0 := ⟨Tryd.func120, by kernel_rfl, by kernel_rfl, by kernel_rfl, lt0⟩
theorem Kf121 : FnFact Tryd.prog Kgl Kbd 121 Ki121 Tryd.f121 [0, 1, 2, 18, 17, 19, 16, 4, 6, 39, 38, 40, 37, 7, 10, 9, 8, 58] false 2 0 := ⟨Tryd.func121, by kernel_rfl, by kernel_rfl, by kernel_rfl, lt0⟩
theorem Kf122 : FnFact Tryd.prog Kgl Kbd 122 Ki122 Tryd.f122 [0, 1, 7, 14, 6, 21, 4, 5] false 2 0 := ⟨Tryd.func122, by kernel_rfl, by kernel_rfl, by kernel_rfl, lt0⟩
theorem Kf123 : FnFact Tryd.prog Kgl Kbd 123 Ki123 Tryd.f123 [0, 1, 2, 3, 4, 22, 10, 11] false 2 0 := ⟨Tryd.func123, by kernel_rfl, by kernel_rfl, by kernel_rfl, lt0⟩
theorem Kf124 : FnFact Tryd.prog Kgl Kbd 124 Ki124 Tryd.f124 [0, 9, 12, 11, 13, 10, 6, 21, 4, 26, 2, 3] false 2 0 := ⟨Tryd.func124, by kernel_rfl, by kernel_rfl, by kernel_rfl, lt0⟩
theorem Kf125 : FnFact Tryd.prog Kgl Kbd 125 Ki125 Tryd.f125 [0, 1, 15, 14, 16, 13, 5, 7, 6, 33, 4] false 2 0 := ⟨Tryd.func125, by kernel_rfl, by kernel_rfl, by kernel_rfl, lt0⟩
theorem Kf126 : FnFact Tryd.prog Kgl Kbd 126 Ki126 Tryd.f126 [0, 1, 13, 14, 15, 5, 6, 7, 4] false 2 1 := ⟨Tryd.func126, by kernel_rfl, by kernel_rfl, by kernel_rfl, (ltS lt0 (by kernel_rfl))⟩
theorem Kf127 : FnFact Tryd.prog Kgl Kbd 127 Ki127 Tryd.f127 [0, 1, 2, 3, 4] false 3 0 := ⟨Tryd.func127, by kernel_rfl, by kernel_rfl, by kernel_rfl, lt0⟩
theorem Kf128 : FnFact Tryd.prog Kgl Kbd 128 Ki128 Tryd.f128 [0, 1, 2, 4, 9, 21] false 3 0 := ⟨Tryd.func128, by kernel_rfl, by kernel_rfl, by kernel_rfl, lt0⟩
theorem Kg0 : BdFact Tryd.prog Kgl Kbd 0 Kb0 := ⟨19, Ki19, Tryd.f19, [0, 1, 2, 3, 4, 5, 12, 19, 10, 7, 8, 9, 61, 66, 67, 68, 13, 14, 15, 11], false, 0, 1, 0, Kf19, by decide, rfl, by kernel_rfl, by kernel_rfl⟩
theorem Kg1 : BdFact Tryd.prog Kgl Kbd 1 Kb1 := ⟨99, Ki99, Tryd.f99, [0, 1, 37, 2, 3, 44, 43, 45, 42, 6, 56, 4, 80, 79, 81, 78, 10, 7, 5, 98, 8, 128, 132, 131, 133, 130, 12, 140, 139, 141, 138, 13, 15, 157, 11, 160, 161, 162, 17, 167], false, 1, 1, 0, Kf99, by decide, rfl, by kernel_rfl, by kernel_rfl⟩
theorem Kg2 : BdFact Tryd.prog Kgl Kbd 2 Kb2 := ⟨126, Ki126, Tryd.f126, [0, 1, 13, 14, 15, 5, 6, 7, 4], false, 2, 1, 0, Kf126, by decide, rfl, by kernel_rfl, by kernel_rfl⟩
theorem Kctx : CtxOk (gxOf Tryd.prog Kbd) Kgl (ctxOf Kit Kbt Kex) := ctx_ok (li := [(7, Ki7), (127, Ki127), (47, Ki47), (79, Ki79), (111, Ki111), (71, Ki71), (103, Ki103), (87, Ki87), (119, Ki119), (19, Ki19), (35, Ki35), (99, Ki99), (51, Ki51), (115, Ki115), (107, Ki107), (59, Ki59), (123, Ki123), (65, Ki65), (97, Ki97), (113, Ki113), (105, Ki105), (89, Ki89), (121, Ki121), (13, Ki13), (37, Ki37), (101, Ki101), (53, Ki53), (85, Ki85), (117, Ki117), (77, Ki77), (109, Ki109), (93, Ki93), (125, Ki125), (32, Ki32), (128, Ki128), (80, Ki80), (112, Ki112), (24, Ki24), (104, Ki104), (88, Ki88), (120, Ki120), (36, Ki36), (100, Ki100), (52, Ki52), (84, Ki84), (116, Ki116), (76, Ki76), (108, Ki108), (124, Ki124), (10, Ki10), (34, Ki34), (66, Ki66), (98, Ki98), (114, Ki114), (106, Ki106), (122, Ki122), (14, Ki14), (54, Ki54), (86, Ki86), (118, Ki118), (30, Ki30), (46, Ki46), (78, Ki78), (110, Ki110), (94, Ki94), (126, Ki126)]) (lb := [(0, Kb0), (1, Kb1), (2, Kb2)]) (by kernel_rfl) (by kernel_rfl) (fa1 ⟨_, _, _, _, _, Kf7⟩ (fa1 ⟨_, _, _, _, _, Kf127⟩ (fa1 ⟨_, _, _, _, _, Kf47⟩ (fa1 ⟨_, _, _, _, _, Kf79⟩ (fa1 ⟨_, _, _, _, _, Kf111⟩ (fa1 ⟨_, _, _, _, _, Kf71⟩ (fa1 ⟨_, _, _, _, _, Kf103⟩ (fa1 ⟨_, _, _, _, _, Kf87⟩ (fa1 ⟨_, _, _, _, _, Kf119⟩ (fa1 ⟨_, _, _, _, _, Kf19⟩ (fa1 ⟨_, _, _, _, _, Kf35⟩ (fa1 ⟨_, _, _, _, _, Kf99⟩ (fa1 ⟨_, _, _, _, _, Kf51⟩ (fa1 ⟨_, _, _, _, _, Kf115⟩ (fa1 ⟨_, _, _, _, _, Kf107⟩ (fa1 ⟨_, _, _, _, _, Kf59⟩ (fa1 ⟨_, _, _, _, _, Kf123⟩ (fa1 ⟨_, _, _, _, _, Kf65⟩ (fa1 ⟨_, _, _, _, _, Kf97⟩ (fa1 ⟨_, _, _, _, _, Kf113⟩ (fa1 ⟨_, _, _, _, _, Kf105⟩ (fa1 ⟨_, _, _, _, _, Kf89⟩ (fa1 ⟨_, _, _, _, _, Kf121⟩ (fa1 ⟨_, _, _, _, _, Kf13⟩ (fa1 ⟨_, _, _, _, _, Kf37⟩ (fa1 ⟨_, _, _, _, _, Kf101⟩ (fa1 ⟨_, _, _, _, _, Kf53⟩ (fa1 ⟨_, _, _, _, _, Kf85⟩ (fa1 ⟨_, _, _, _, _, Kf117⟩ (fa1 ⟨_, _, _, _, _, Kf77⟩ (fa1 ⟨_, _, _, _, _, Kf109⟩ (fa1 ⟨_, _, _, _, _, Kf93⟩ (fa1 ⟨_, _, _, _, _, Kf125⟩ (fa1 ⟨_, _, _, _, _, Kf32⟩ (fa1 ⟨_, _, _, _, _, Kf128⟩ (fa1 ⟨_, _, _, _, _, Kf80⟩ (fa1 ⟨_, _, _, _, _, Kf112⟩ (fa1 ⟨_, _, _, _, _, Kf24⟩ (fa1 ⟨_, _, _, _, _, Kf104⟩ (fa1 ⟨_, _, _, _, _, Kf88⟩ (fa1 ⟨_, _, _, _, _, Kf120⟩ (fa1 ⟨_, _, _, _, _, Kf36⟩ (fa1 ⟨_, _, _, _, _, Kf100⟩ (fa1 ⟨_, _, _, _, _, Kf52⟩ (fa1 ⟨_, _, _, _, _, Kf84⟩ (fa1 ⟨_, _, _, _, _, Kf116⟩ (fa1 ⟨_, _, _, _, _, Kf76⟩ (fa1 ⟨_, _, _, _, _, Kf108⟩ (fa1 ⟨_, _, _, _, _, Kf124⟩ (fa1 ⟨_, _, _, _, _, Kf10⟩ (fa1 ⟨_, _, _, _, _, Kf34⟩ (fa1 ⟨_, _, _, _, _, Kf66⟩ (fa1 ⟨_, _, _, _, _, Kf98⟩ (fa1 ⟨_, _, _, _, _, Kf114⟩ (fa1 ⟨_, _, _, _, _, Kf106⟩ (fa1 ⟨_, _, _, _, _, Kf122⟩ (fa1 ⟨_, _, _, _, _, Kf14⟩ (fa1 ⟨_, _, _, _, _, Kf54⟩ (fa1 ⟨_, _, _, _, _, Kf86⟩ (fa1 ⟨_, _, _, _, _, Kf118⟩ (fa1 ⟨_, _, _, _, _, Kf30⟩ (fa1 ⟨_, _, _, _, _, Kf46⟩ (fa1 ⟨_, _, _, _, _, Kf78⟩ (fa1 ⟨_, _, _, _, _, Kf110⟩ (fa1 ⟨_, _, _, _, _, Kf94⟩ (fa1 ⟨_, _, _, _, _, Kf126⟩ fa0)))))))))))))))))))))))))))))))))))))))))))))))))))))))))))))))))) (fa1 Kg0 (fa1 Kg1 (fa1 Kg2 fa0))) fa0
theorem Kmix : Tryd.prog.follows .mixedOrders = true := by kernel_rfl
end Go.Proofs.YtnkcimeebobjaaaDoor.fitKnown
