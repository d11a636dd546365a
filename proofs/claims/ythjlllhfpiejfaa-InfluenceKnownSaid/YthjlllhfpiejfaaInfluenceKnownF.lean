/- The commands are what the machine's compiler makes of the program's functions. -/
import Derived.Test.YthjlllhfpiejfaaInfluenceKnownD1
import Derived.Test.YthjlllhfpiejfaaRows
namespace Go.Proofs.Ythjlllhfpiejfaa.influenceKnown
open Hx Go
set_option maxRecDepth 100000
noncomputable def Kbdt : Tr BInfo := (.n (.n (.n .e (some (bI [0, 1, 2, 5, 12, 4, 15, 16, 17, 6, 7, 3, 8, 61, 65] Try.f22 0)) .e) (some (bI [0, 1, 2, 7, 19, 3, 6, 27, 29, 30, 31, 10, 11, 43, 42, 44, 12, 8, 4, 5] Try.f12 0)) (.n .e (some (bI [0, 1, 37, 2, 3, 44, 43, 45, 42, 6, 56, 4, 80, 79, 81, 78, 10, 7, 5, 98, 8, 128, 132, 131, 133, 130, 12, 140, 139, 141, 138, 13, 15, 157, 11, 160, 161, 162, 17, 167] Try.f68 0)) .e)) (some (bI [0, 1, 4, 11, 2, 3, 14, 15, 16, 7, 25, 24, 26, 5, 36] Try.f10 0)) (.n (.n .e (some (bI [0, 1, 2, 5, 27, 26, 28, 25, 6, 7, 53, 52, 54, 51, 8, 9, 72, 73, 74, 11, 98, 97, 99, 13, 3, 10, 12, 4] Try.f32 0)) .e) (some (bI [0, 1, 4, 16, 19, 20, 21, 5, 7, 31, 30, 32, 29, 8, 40, 39, 41, 38, 9, 12, 11, 63, 2, 3] Try.f17 0)) (.n .e (some (bI [0, 1, 13, 14, 15, 5, 6, 7, 4] Try.f103 0)) .e)))
noncomputable def Kbd : Nat → Option BInfo := Kbdt.get
theorem Kf5 : FnFact Try.prog Kbd 5 Ki5 Try.f5 [30, 31, 1, 14, 2, 3, 5, 4, 7, 9, 11, 13, 15, 16, 17, 18, 19, 20, 21, 22, 24, 26, 28, 27, 0] false 0 0 := ⟨Try.func5, by kernel_rfl, by kernel_rfl, by kernel_rfl, lt0⟩
theorem Kf9 : FnFact Try.prog Kbd 9 Ki9 Try.f9 [0, 1, 33, 32, 34, 3, 36, 4, 39, 56, 80, 84, 2] false 0 0 := ⟨Try.func9, by kernel_rfl, by kernel_rfl, by kernel_rfl, lt0⟩
theorem Kf10 : FnFact Try.prog Kbd 10 Ki10 Try.f10 [0, 1, 4, 11, 2, 3, 14, 15, 16, 7, 25, 24, 26, 5, 36] false 0 1 := ⟨Try.func10, by kernel_rfl, by kernel_rfl, by kernel_rfl, (ltS lt0 (by kernel_rfl))⟩
theorem Kf12 : FnFact Try.prog Kbd 12 Ki12 Try.f12 [0, 1, 2, 7, 19, 3, 6, 27, 29, 30, 31, 10, 11, 43, 42, 44, 12, 8, 4, 5] false 1 1 := ⟨Try.func12, by kernel_rfl, by kernel_rfl, by kernel_rfl, (ltS lt0 (by kernel_rfl))⟩
theorem Kf15 : FnFact Try.prog Kbd 15 Ki15 Try.f15 [0, 1, 11, 5, 15, 28, 6, 35, 52, 4] false 2 0 := ⟨Try.func15, by kernel_rfl, by kernel_rfl, by kernel_rfl, lt0⟩
theorem Kf16 : FnFact Try.prog Kbd 16 Ki16 Try.f16 [1, 10, 11, 12, 13, 77, 78, 76, 15, 82, 2, 3, 5, 7, 6, 16, 9, 8, 0] false 2 0 := ⟨Try.func16, by kernel_rfl, by kernel_rfl, by kernel_rfl, lt0⟩
theorem Kf17 : FnFact Try.prog Kbd 17 Ki17 Try.f17 [0, 1, 4, 16, 19, 20, 21, 5, 7, 31, 30, 32, 29, 8, 40, 39, 41, 38, 9, 12, 11, 63, 2, 3] false 2 1 := ⟨Try.func17, by kernel_rfl, by kernel_rfl, by kernel_rfl, (ltS lt0 (by kernel_rfl))⟩
theorem Kf19 : FnFact Try.prog Kbd 19 Ki19 Try.f19 [0, 1, 10, 13, 12, 14, 5, 24, 4] false 3 0 := ⟨Try.func19, by kernel_rfl, by kernel_rfl, by kernel_rfl, lt0⟩
theorem Kf20 : FnFact Try.prog Kbd 20 Ki20 Try.f20 [0, 1, 2, 3, 6, 13, 4, 7, 23, 22, 24, 8, 5] false 3 0 := ⟨Try.func20, by kernel_rfl, by kernel_rfl, by kernel_rfl, lt0⟩
theorem Kf21 : FnFact Try.prog Kbd 21 Ki21 Try.f21 [0, 1, 2, 3, 6, 11, 4, 5] false 3 0 := ⟨Try.func21, by kernel_rfl, by kernel_rfl, by kernel_rfl, lt0⟩
theorem Kf22 : FnFact Try.prog Kbd 22 Ki22 Try.f22 [0, 1, 2, 5, 12, 4, 15, 16, 17, 6, 7, 3, 8, 61, 65] false 3 1 := ⟨Try.func22, by kernel_rfl, by kernel_rfl, by kernel_rfl, (ltS lt0 (by kernel_rfl))⟩
theorem Kf27 : FnFact Try.prog Kbd 27 Ki27 Try.f27 [0, 4, 1, 11, 6, 22, 5, 3, 2] false 4 0 := ⟨Try.func27, by kernel_rfl, by kernel_rfl, by kernel_rfl, lt0⟩
theorem Kf31 : FnFact Try.prog Kbd 31 Ki31 Try.f31 [0, 1, 4, 2] false 4 0 := ⟨Try.func31, by kernel_rfl, by kernel_rfl, by kernel_rfl, lt0⟩
theorem Kf32 : FnFact Try.prog Kbd 32 Ki32 Try.f32 [0, 1, 2, 5, 27, 26, 28, 25, 6, 7, 53, 52, 54, 51, 8, 9, 72, 73, 74, 11, 98, 97, 99, 13, 3, 10, 12, 4] false 4 1 := ⟨Try.func32, by kernel_rfl, by kernel_rfl, by kernel_rfl, (ltS lt0 (by kernel_rfl))⟩
theorem Kf33 : FnFact Try.prog Kbd 33 Ki33 Try.f33 [0, 1, 4] false 5 0 := ⟨Try.func33, by kernel_rfl, by kernel_rfl, by kernel_rfl, lt0⟩
theorem Kf34 : FnFact Try.prog Kbd 34 Ki34 Try.f34 [0, 1, 4] false 5 0 := ⟨Try.func34, by kernel_rfl, by kernel_rfl, by kernel_rfl, lt0⟩
theorem Kf35 : FnFact Try.prog Kbd 35 Ki35 Try.f35 [0, 1, 2, 3] false 5 0 := ⟨Try.func35, by kernel_rfl, by kernel_rfl, by kernel_rfl, lt0⟩
theorem Kf36 : FnFact Try.prog Kbd 36 Ki36 Try.f36 [0, 1, 3, 10, 9, 11, 8, 5, 6, 26, 2, 41, 4] false 5 0 := ⟨Try.func36, by kernel_rfl, by kernel_rfl, by kernel_rfl, lt0⟩
theorem Kf37 : FnFact Try.prog Kbd 37 Ki37 Try.f37 [0, 1, 2] false 5 0 := ⟨Try.func37, by kernel_rfl, by kernel_rfl, by kernel_rfl, lt0⟩
theorem Kf38 : FnFact Try.prog Kbd 38 Ki38 Try.f38 [0, 1, 10, 9, 11, 8, 7, 2, 5, 44, 4] false 5 0 := ⟨Try.func38, by kernel_rfl, by kernel_rfl, by kernel_rfl, lt0⟩
theorem Kf41 : FnFact Try.prog Kbd 41 Ki41 Try.f41 [0, 1, 30, 4, 35, 5, 59, 3, 71, 6, 76, 7, 91, 8, 96, 107, 10, 115, 139, 9, 153, 2] false 5 0 := ⟨Try.func41, by kernel_rfl, by kernel_rfl, by kernel_rfl, lt0⟩
theorem Kf43 : FnFact Try.prog Kbd 43 Ki43 Try.f43 [0, 4, 1, 9, 3, 2] false 5 0 := ⟨Try.func43, by kernel_rfl, by kernel_rfl, by kernel_rfl, lt0⟩
theorem Kf45 : FnFact Try.prog Kbd 45 Ki45 Try.f45 [0] false 5 0 := ⟨Try.func45, by kernel_rfl, by kernel_rfl, by kernel_rfl, lt0⟩
theorem Kf46 : FnFact Try.prog Kbd 46 Ki46 Try.f46 [0, 1, 2, 8, 7, 6] false 5 0 := ⟨Try.func46, by kernel_rfl, by kernel_rfl, by kernel_rfl, lt0⟩
theorem Kf47 : FnFact Try.prog Kbd 47 Ki47 Try.f47 [0, 1, 2, 3, 10, 9, 8] false 5 0 := ⟨Try.func47, by kernel_rfl, by kernel_rfl, by kernel_rfl, lt0⟩
theorem Kf48 : FnFact Try.prog Kbd 48 Ki48 Try.f48 [0, 1] false 5 0 := ⟨Try.func48, by kernel_rfl, by kernel_rfl, by kernel_rfl, lt0⟩
theorem Kf49 : FnFact Try.prog Kbd 49 Ki49 Try.f49 [0, 1, 2, 5] false 5 0 := ⟨Try.func49, by kernel_rfl, by kernel_rfl, by kernel_rfl, lt0⟩
theorem Kf50 : FnFact Try.prog Kbd 50 Ki50 Try.f50 [0, 1, 4] false 5 0 := ⟨Try.func50, by kernel_rfl, by kernel_rfl, by kernel_rfl, lt0⟩
theorem Kf51 : FnFact Try.prog Kbd 51 Ki51 Try.f51 [0, 1, 4] false 5 0 := ⟨Try.func51, by kernel_rfl, by kernel_rfl, by kernel_rfl, lt0⟩
theorem Kf52 : FnFact Try.prog Kbd 52 Ki52 Try.f52 [0, 1, 3] false 5 0 := ⟨Try.func52, by kernel_rfl, by kernel_rfl, by kernel_rfl, lt0⟩
theorem Kf55 : FnFact Try.prog Kbd 55 Ki55 Try.f55 [0, 1, 2, 5] false 5 0 := ⟨Try.func55, by kernel_rfl, by kernel_rfl, by kernel_rfl, lt0⟩
theorem Kf56 : FnFact Try.prog Kbd 56 Ki56 Try.f56 [0, 1, 3, 8, 4, 2, 6, 5] false 5 0 := ⟨Try.func56, by kernel_rfl, by kernel_rfl, by kernel_rfl, lt0⟩
theorem Kf57 : FnFact Try.prog Kbd 57 Ki57 Try.f57 [0, 1, 4, 5, 3, 2] false 5 0 := ⟨Try.func57, by kernel_rfl, by kernel_rfl, by kernel_rfl, lt0⟩
theorem Kf58 : FnFact Try.prog Kbd 58 Ki58 Try.f58 [0, 1, 2, 5] false 5 0 := ⟨Try.func58, by kernel_rfl, by kernel_rfl, by kernel_rfl, lt0⟩
theorem Kf59 : FnFact Try.prog Kbd 59 Ki59 Try.f59 [0, 7, 4, 15, 3, 2] false 5 0 := ⟨Try.func59, by kernel_rfl, by kernel_rfl, by kernel_rfl, lt0⟩
theorem Kf60 : FnFact Try.prog Kbd 60 Ki60 Try.f60 [0, 7, 4, 15, 3, 2] false 5 0 := ⟨Try.func60, by kernel_rfl, by kernel_rfl, by kernel_rfl, lt0⟩
theorem Kf64 : FnFact Try.prog Kbd 64 Ki64 Try.f64 [0, 4, 8, 3, 2] false 5 0 := ⟨Try.func64, by kernel_rfl, by kernel_rfl, by kernel_rfl, lt0⟩
theorem Kf65 : FnFact Try.prog Kbd 65 Ki65 Try.f65 [0, 1, 2, 4] false 5 0 := ⟨Try.func65, by kernel_rfl, by kernel_rfl, by kernel_rfl, lt0⟩
theorem Kf68 : FnFact Try.prog Kbd 68 Ki68 Try.f68 [0, 1, 37, 2, 3, 44, 43, 45, 42, 6, 56, 4, 80, 79, 81, 78, 10, 7, 5, 98, 8, 128, 132, 131, 133, 130, 12, 140, 139, 141, 138, 13, 15, 157, 11, 160, 161, 162, 17, 167] false 5 1 := ⟨Try.func68, by kernel_rfl, by kernel_rfl, by kernel_rfl, (ltS lt0 (by kernel_rfl))⟩
theorem Kf69 : FnFact Try.prog Kbd 69 Ki69 Try.f69 [0, 4, 2] false 6 0 := ⟨Try.func69, by kernel_rfl, by kernel_rfl, by kernel_rfl, lt0⟩
theorem Kf70 : FnFact Try.prog Kbd 70 Ki70 Try.f70 [0, 4, 2] false 6 0 := ⟨Try.func70, by kernel_rfl, by kernel_rfl, by kernel_rfl, lt0⟩
theorem Kf71 : FnFact Try.prog Kbd 71 Ki71 Try.f71 [0, 4, 2] false 6 0 := ⟨Try.func71, by kernel_rfl, by kernel_rfl, by kernel_rfl, lt0⟩
theorem Kf72 : FnFact Try.prog Kbd 72 Ki72 Try.f72 [0, 1, 8, 7, 9, 5, 16, 4] false 6 0 := ⟨Try.func72, by kernel_rfl, by kernel_rfl, by kernel_rfl, lt0⟩
theorem Kf73 : FnFact Try.prog Kbd 73 Ki73 Try.f73 [0, 1, 8, 7, 9, 4, 16, 3, 21] false 6 0 := ⟨Try.func73, by kernel_rfl, by kernel_rfl, by kernel_rfl, lt0⟩
theorem Kf74 : FnFact Try.prog Kbd 74 Ki74 Try.f74 [0, 1, 5, 9, 40, 4] false 6 0 := ⟨Try.func74, by kernel_rfl, by kernel_rfl, by kernel_rfl, lt0⟩
theorem Kf75 : FnFact Try.prog Kbd 75 Ki75 Try.f75 [0, 3, 7, 17, 2] false 6 0 := ⟨Try.func75, by kernel_rfl, by kernel_rfl, by kernel_rfl, lt0⟩
theorem Kf76 : FnFact Try.prog Kbd 76 Ki76 Try.f76 [0, 1, 6, 10, 5, 4] false 6 0 := ⟨Try.func76, by kernel_rfl, by kernel_rfl, by kernel_rfl, lt0⟩
theorem Kf77 : FnFact Try.prog Kbd 77 Ki77 Try.f77 [0, 1, 2, 6, 8, 13, 7, 30, 35, 9, 54] false 6 0 := ⟨Try.func77, by kernel_rfl, by kernel_rfl, by kernel_rfl, lt0⟩
theorem Kf78 : FnFact Try.prog Kbd 78 Ki78 Try.f78 [0, 1, 8, 7, 9, 5, 16, 4] false 6 0 := ⟨Try.func78, by kernel_rfl, by kernel_rfl, by kernel_rfl, lt0⟩
theorem Kf79 : FnFact Try.prog Kbd 79 Ki79 Try.f79 [0, 1, 8, 7, 9, 5, 16, 4] false 6 0 := ⟨Try.func79, by kernel_rfl, by kernel_rfl, by kernel_rfl, lt0⟩
theorem Kf80 : FnFact Try.prog Kbd 80 Ki80 Try.f80 [0, 1, 6, 4] false 6 0 := ⟨Try.func80, by kernel_rfl, by kernel_rfl, by kernel_rfl, lt0⟩
theorem Kf81 : FnFact Try.prog Kbd 81 Ki81 Try.f81 [0, 4, 2] false 6 0 := ⟨Try.func81, by kernel_rfl, by kernel_rfl, by kernel_rfl, lt0⟩
theorem Kf82 : FnFact Try.prog Kbd 82 Ki82 Try.f82 [0, 2, 3] false 6 0 := ⟨Try.func82, by kernel_rfl, by kernel_rfl, by kernel_rfl, lt0⟩
theorem Kf83 : FnFact Try.prog Kbd 83 Ki83 Try.f83 [0, 1, 2, 3] false 6 0 := ⟨Try.func83, by kernel_rfl, by kernel_rfl, by kernel_rfl, lt0⟩
theorem Kf84 : FnFact Try.prog Kbd 84 Ki84 Try.f84 [0, 1, 2, 7, 4, 5, 16, 19, 6] false 6 0 := ⟨Try.func84, by kernel_rfl, by kernel_rfl, by kernel_rfl, lt0⟩
theorem Kf85 : FnFact Try.prog Kbd 85 Ki85 Try.f85 [0, 1, 2, 3, 4, 15, 25, 24, 26, 6, 43, 42, 44, 41, 7, 9, 8, 71, 70, 72, 69, 11] false 6 0 := ⟨Try.func85, by kernel_rfl, by kernel_rfl, by kernel_rfl, lt0⟩
theorem Kf86 : FnFact Try.prog Kbd 86 Ki86 Try.f86 [0, 1, 2, 12, 11, 13, 10, 7, 9, 6] false 6 0 := ⟨Try.func86, by kernel_rfl, by kernel_rfl, by kernel_rfl, lt0⟩
theorem Kf89 : FnFact Try.prog Kbd 89 Ki89 Try.f89 [0, 1, 4] false 6 0 := ⟨Try.func89, by kernel_rfl, by kernel_rfl, by kernel_rfl, lt0⟩
theorem Kf90 : FnFact Try.prog Kbd 90 Ki90 Try.f90 [0, 3, 11, 14, 13, 15, 12, 4, 5, 29, 2] false 6 0 := ⟨Try.func90, by kernel_rfl, by kernel_rfl, by kernel_rfl, lt0⟩
theorem Kf91 : FnFact Try.prog Kbd 91 Ki91 Try.f91 [0, 1, 2, 3, 4] false 6 0 := ⟨Try.func91, by kernel_rfl, by kernel_rfl, by kernel_rfl, lt0⟩
theorem Kf92 : FnFact Try.prog Kbd 92 Ki92 Try.f92 [0, 1, 2, 12, 11, 13, 10, 9, 3, 23, 7, 6] false 6 0 := ⟨Try.func92, by kernel_rfl, by kernel_rfl, by kernel_rfl, lt0⟩
theorem Kf93 : FnFact Try.prog Kbd 93 Ki93 Try.f93 [0, 1, 5, 10, 6, 16, 21, 4] false 6 0 := ⟨Try.func93, by kernel_rfl, by kernel_rfl, by kernel_rfl, lt0⟩
theorem Kf94 : FnFact Try.prog Kbd 94 Ki94 Try.f94 [0, 1, 2, 3, 8, 14, 9, 34] false 6 0 := ⟨Try.func94, by kernel_rfl, by kernel_rfl, by kernel_rfl, lt0⟩
theorem Kf95 : FnFact Try.prog Kbd 95 Ki95 Try.f95 [0, 1, 2, 3, 4, 28, 10, 11, 33, 12, 50, 13, 58, 80, 14, 15, 85, 16, 103, 17, 110, 18, 140, 19, 20, 21, 151, 22, 23, 171, 24, 185, 199, 213] false 6 0 := ⟨Try.func95, by kernel_rfl, by kernel_rfl, by kernel_rfl, lt0⟩
theorem Kf96 : FnFact Try.prog Kbd 96 Ki96 Try.f96 [0, 1, 2, 7, 4, 14] true 6 0 := ⟨Try.func96, by kernel_rfl, by kernel_rfl, by kernel_rfl, lt0⟩
theorem Kf97 : FnFact Try.prog Kbd 97 Ki97 Try.f97 [0, 1, 2, 3, 4] false 6 0 := ⟨Try.func97, by kernel_rfl, by kernel_rfl, by kernel_rfl, lt0⟩
theorem Kf98 : FnFact Try.prog Kbd 98 Ki98 Try.f98 [0, 1, 2, 18, 17, 19, 16, 4, 6, 39, 38, 40, 37, 7, 10, 9, 8, 58] false 6 0 := ⟨Try.func98, by kernel_rfl, by kernel_rfl, by kernel_rfl, lt0⟩
theorem Kf99 : FnFact Try.prog Kbd 99 Ki99 Try.f99 [0, 1, 7, 14, 6, 21, 4, 5] false 6 0 := ⟨Try.func99, by kernel_rfl, by kernel_rfl, by kernel_rfl, lt0⟩
theorem Kf100 : FnFact Try.prog Kbd 100 Ki100 Try.f100 [0, 1, 2, 3, 4, 10, 11, 20, 23] false 6 0 := ⟨Try.func100, by kernel_rfl, by kernel_rfl, by kernel_rfl, lt0⟩
theorem Kf101 : FnFact Try.prog Kbd 101 Ki101 Try.f101 [0, 9, 12, 11, 13, 10, 6, 21, 4, 26, 2, 3] false 6 0 := ⟨Try.func101, by kernel_rfl, by kernel_rfl, by kernel_rfl, lt0⟩
theorem Kf102 : FnFact Try.prog Kbd 102 Ki102 Try.f102 [0, 1, 15, 14, 16, 13, 5, 7, 6, 33, 4] false 6 0 := ⟨Try.func102, by kernel_rfl, by kernel_rfl, by kernel_rfl, lt0⟩
theorem Kf103 : FnFact Try.prog Kbd 103 Ki103 Try.f103 [0, 1, 13, 14, 15, 5, 6, 7, 4] false 6 1 := ⟨Try.func103, by kernel_rfl, by kernel_rfl, by kernel_rfl, (ltS lt0 (by kernel_rfl))⟩
theorem Kf104 : FnFact Try.prog Kbd 104 Ki104 Try.f104 [0, 1, 2, 3, 4, 10, 13] false 7 0 := ⟨Try.func104, by kernel_rfl, by kernel_rfl, by kernel_rfl, lt0⟩
theorem Kf105 : FnFact Try.prog Kbd 105 Ki105 Try.f105 [0, 1, 2, 3, 4] false 7 0 := ⟨Try.func105, by kernel_rfl, by kernel_rfl, by kernel_rfl, lt0⟩
theorem Kf106 : FnFact Try.prog Kbd 106 Ki106 Try.f106 [0, 1, 2, 4, 9, 21] false 7 0 := ⟨Try.func106, by kernel_rfl, by kernel_rfl, by kernel_rfl, lt0⟩
theorem Kg0 : BdFact Try.prog Kbd 0 Kb0 := ⟨10, Ki10, Try.f10, [0, 1, 4, 11, 2, 3, 14, 15, 16, 7, 25, 24, 26, 5, 36], false, 0, 1, 0, Kf10, by decide, rfl, by kernel_rfl, by kernel_rfl⟩
theorem Kg1 : BdFact Try.prog Kbd 1 Kb1 := ⟨12, Ki12, Try.f12, [0, 1, 2, 7, 19, 3, 6, 27, 29, 30, 31, 10, 11, 43, 42, 44, 12, 8, 4, 5], false, 1, 1, 0, Kf12, by decide, rfl, by kernel_rfl, by kernel_rfl⟩
theorem Kg2 : BdFact Try.prog Kbd 2 Kb2 := ⟨17, Ki17, Try.f17, [0, 1, 4, 16, 19, 20, 21, 5, 7, 31, 30, 32, 29, 8, 40, 39, 41, 38, 9, 12, 11, 63, 2, 3], false, 2, 1, 0, Kf17, by decide, rfl, by kernel_rfl, by kernel_rfl⟩
theorem Kg3 : BdFact Try.prog Kbd 3 Kb3 := ⟨22, Ki22, Try.f22, [0, 1, 2, 5, 12, 4, 15, 16, 17, 6, 7, 3, 8, 61, 65], false, 3, 1, 0, Kf22, by decide, rfl, by kernel_rfl, by kernel_rfl⟩
theorem Kg4 : BdFact Try.prog Kbd 4 Kb4 := ⟨32, Ki32, Try.f32, [0, 1, 2, 5, 27, 26, 28, 25, 6, 7, 53, 52, 54, 51, 8, 9, 72, 73, 74, 11, 98, 97, 99, 13, 3, 10, 12, 4], false, 4, 1, 0, Kf32, by decide, rfl, by kernel_rfl, by kernel_rfl⟩
theorem Kg5 : BdFact Try.prog Kbd 5 Kb5 := ⟨68, Ki68, Try.f68, [0, 1, 37, 2, 3, 44, 43, 45, 42, 6, 56, 4, 80, 79, 81, 78, 10, 7, 5, 98, 8, 128, 132, 131, 133, 130, 12, 140, 139, 141, 138, 13, 15, 157, 11, 160, 161, 162, 17, 167], false, 5, 1, 0, Kf68, by decide, rfl, by kernel_rfl, by kernel_rfl⟩
theorem Kg6 : BdFact Try.prog Kbd 6 Kb6 := ⟨103, Ki103, Try.f103, [0, 1, 13, 14, 15, 5, 6, 7, 4], false, 6, 1, 0, Kf103, by decide, rfl, by kernel_rfl, by kernel_rfl⟩
theorem Kctx : CtxOk (gxOf Try.prog Kbd) (fun _ => none) (ctxOf Kit Kbt) := ctx_ok (li := [(15, Ki15), (31, Ki31), (95, Ki95), (47, Ki47), (79, Ki79), (71, Ki71), (103, Ki103), (55, Ki55), (19, Ki19), (35, Ki35), (99, Ki99), (51, Ki51), (83, Ki83), (27, Ki27), (43, Ki43), (75, Ki75), (59, Ki59), (91, Ki91), (5, Ki5), (9, Ki9), (17, Ki17), (33, Ki33), (65, Ki65), (97, Ki97), (49, Ki49), (81, Ki81), (41, Ki41), (73, Ki73), (105, Ki105), (57, Ki57), (89, Ki89), (21, Ki21), (37, Ki37), (69, Ki69), (101, Ki101), (85, Ki85), (45, Ki45), (77, Ki77), (93, Ki93), (16, Ki16), (32, Ki32), (64, Ki64), (96, Ki96), (48, Ki48), (80, Ki80), (72, Ki72), (104, Ki104), (56, Ki56), (12, Ki12), (20, Ki20), (36, Ki36), (68, Ki68), (100, Ki100), (52, Ki52), (84, Ki84), (76, Ki76), (60, Ki60), (92, Ki92), (10, Ki10), (34, Ki34), (98, Ki98), (50, Ki50), (82, Ki82), (74, Ki74), (106, Ki106), (58, Ki58), (90, Ki90), (22, Ki22), (38, Ki38), (70, Ki70), (102, Ki102), (86, Ki86), (46, Ki46), (78, Ki78), (94, Ki94)]) (lb := [(0, Kb0), (1, Kb1), (3, Kb3), (5, Kb5), (2, Kb2), (4, Kb4), (6, Kb6)]) (by kernel_rfl) (by kernel_rfl) (fa1 ⟨_, _, _, _, _, Kf15⟩ (fa1 ⟨_, _, _, _, _, Kf31⟩ (fa1 ⟨_, _, _, _, _, Kf95⟩ (fa1 ⟨_, _, _, _, _, Kf47⟩ (fa1 ⟨_, _, _, _, _, Kf79⟩ (fa1 ⟨_, _, _, _, _, Kf71⟩ (fa1 ⟨_, _, _, _, _, Kf103⟩ (fa1 ⟨_, _, _, _, _, Kf55⟩ (fa1 ⟨_, _, _, _, _, Kf19⟩ (fa1 ⟨_, _, _, _, _, Kf35⟩ (fa1 ⟨_, _, _, _, _, Kf99⟩ (fa1 ⟨_, _, _, _, _, Kf51⟩ (fa1 ⟨_, _, _, _, _, Kf83⟩ (fa1 ⟨_, _, _, _, _, Kf27⟩ (fa1 ⟨_, _, _, _, _, Kf43⟩ (fa1 ⟨_, _, _, _, _, Kf75⟩ (fa1 ⟨_, _, _, _, _, Kf59⟩ (fa1 ⟨_, _, _, _, _, Kf91⟩ (fa1 ⟨_, _, _, _, _, Kf5⟩ (fa1 ⟨_, _, _, _, _, Kf9⟩ (fa1 ⟨_, _, _, _, _, Kf17⟩ (fa1 ⟨_, _, _, _, _, Kf33⟩ (fa1 ⟨_, _, _, _, _, Kf65⟩ (fa1 ⟨_, _, _, _, _, Kf97⟩ (fa1 ⟨_, _, _, _, _, Kf49⟩ (fa1 ⟨_, _, _, _, _, Kf81⟩ (fa1 ⟨_, _, _, _, _, Kf41⟩ (fa1 ⟨_, _, _, _, _, Kf73⟩ (fa1 ⟨_, _, _, _, _, Kf105⟩ (fa1 ⟨_, _, _, _, _, Kf57⟩ (fa1 ⟨_, _, _, _, _, Kf89⟩ (fa1 ⟨_, _, _, _, _, Kf21⟩ (fa1 ⟨_, _, _, _, _, Kf37⟩ (fa1 ⟨_, _, _, _, _, Kf69⟩ (fa1 ⟨_, _, _, _, _, Kf101⟩ (fa1 ⟨_, _, _, _, _, Kf85⟩ (fa1 ⟨_, _, _, _, _, Kf45⟩ (fa1 ⟨_, _, _, _, _, Kf77⟩ (fa1 ⟨_, _, _, _, _, Kf93⟩ (fa1 ⟨_, _, _, _, _, Kf16⟩ (fa1 ⟨_, _, _, _, _, Kf32⟩ (fa1 ⟨_, _, _, _, _, Kf64⟩ (fa1 ⟨_, _, _, _, _, Kf96⟩ (fa1 ⟨_, _, _, _, _, Kf48⟩ (fa1 ⟨_, _, _, _, _, Kf80⟩ (fa1 ⟨_, _, _, _, _, Kf72⟩ (fa1 ⟨_, _, _, _, _, Kf104⟩ (fa1 ⟨_, _, _, _, _, Kf56⟩ (fa1 ⟨_, _, _, _, _, Kf12⟩ (fa1 ⟨_, _, _, _, _, Kf20⟩ (fa1 ⟨_, _, _, _, _, Kf36⟩ (fa1 ⟨_, _, _, _, _, Kf68⟩ (fa1 ⟨_, _, _, _, _, Kf100⟩ (fa1 ⟨_, _, _, _, _, Kf52⟩ (fa1 ⟨_, _, _, _, _, Kf84⟩ (fa1 ⟨_, _, _, _, _, Kf76⟩ (fa1 ⟨_, _, _, _, _, Kf60⟩ (fa1 ⟨_, _, _, _, _, Kf92⟩ (fa1 ⟨_, _, _, _, _, Kf10⟩ (fa1 ⟨_, _, _, _, _, Kf34⟩ (fa1 ⟨_, _, _, _, _, Kf98⟩ (fa1 ⟨_, _, _, _, _, Kf50⟩ (fa1 ⟨_, _, _, _, _, Kf82⟩ (fa1 ⟨_, _, _, _, _, Kf74⟩ (fa1 ⟨_, _, _, _, _, Kf106⟩ (fa1 ⟨_, _, _, _, _, Kf58⟩ (fa1 ⟨_, _, _, _, _, Kf90⟩ (fa1 ⟨_, _, _, _, _, Kf22⟩ (fa1 ⟨_, _, _, _, _, Kf38⟩ (fa1 ⟨_, _, _, _, _, Kf70⟩ (fa1 ⟨_, _, _, _, _, Kf102⟩ (fa1 ⟨_, _, _, _, _, Kf86⟩ (fa1 ⟨_, _, _, _, _, Kf46⟩ (fa1 ⟨_, _, _, _, _, Kf78⟩ (fa1 ⟨_, _, _, _, _, Kf94⟩ fa0))))))))))))))))))))))))))))))))))))))))))))))))))))))))))))))))))))))))))) (fa1 Kg0 (fa1 Kg1 (fa1 Kg3 (fa1 Kg5 (fa1 Kg2 (fa1 Kg4 (fa1 Kg6 fa0)))))))
theorem Kmix : Try.prog.follows .mixedOrders = true := by kernel_rfl
end Go.Proofs.Ythjlllhfpiejfaa.influenceKnown
