/- The commands are what the machine's compiler makes of the program's functions. -/
import Derived.Test.YtfnagnhdghbdnaaExpectKnownD1
import Derived.Test.YtfnagnhdghbdnaaRows
namespace Go.Proofs.Ytfnagnhdghbdnaa.expectKnown
open Hx Go
set_option maxRecDepth 100000
noncomputable def Kgl : Nat → Option (List AV) := glT []
noncomputable def Kbdt : Tr BInfo := (.n (.n (.n .e (some (bI [0, 1, 37, 2, 3, 44, 43, 45, 42, 6, 56, 4, 80, 79, 81, 78, 10, 7, 5, 98, 8, 128, 132, 131, 133, 130, 12, 140, 139, 141, 138, 13, 15, 157, 11, 160, 161, 162, 17, 167] Try.f33 0)) .e) (some (bI [0, 7, 8, 9, 3, 5, 2] Try.f28 0)) .e) (some (bI [0, 1, 2, 4, 3, 8, 22, 6, 5, 36, 9, 42, 51, 50, 52, 49, 12, 11, 68, 69, 14, 13, 15, 10, 7] Try.f6 0)) (.n (.n .e (some (bI [0, 1, 13, 14, 15, 5, 6, 7, 4] Try.f64 0)) .e) (some (bI [0, 1, 2, 3, 5, 34, 35, 36, 6, 7, 8, 9, 4] Try.f29 0)) .e))
noncomputable def Kbd : Nat → Option BInfo := Kbdt.get
theorem Kf3 : FnFact Try.prog Kgl Kbd 3 Ki3 Try.f3 [1, 2, 72, 73, 9, 11, 10, 16, 4, 3, 6, 5, 7, 8, 12, 13, 14, 15, 18, 19, 20, 21, 22, 39, 24, 23, 26, 28, 30, 32, 34, 36, 38, 0] false 0 0 := ⟨Try.func3, by kernel_rfl, by kernel_rfl, by kernel_rfl, lt0⟩
theorem Kf4 : FnFact Try.prog Kgl Kbd 4 Ki4 Try.f4 [0, 1, 2, 3, 8] false 0 0 := ⟨Try.func4, by kernel_rfl, by kernel_rfl, by kernel_rfl, lt0⟩
theorem Kf5 : FnFact Try.prog Kgl Kbd 5 Ki5 Try.f5 [0, 1, 2, 4, 3, 8, 15, 25, 9, 30, 6, 7] false 0 0 := ⟨Try.func5, by kernel_rfl, by kernel_rfl, by kernel_rfl, lt0⟩
theorem Kf6 : FnFact Try.prog Kgl Kbd 6 Ki6 Try.f6 [0, 1, 2, 4, 3, 8, 22, 6, 5, 36, 9, 42, 51, 50, 52, 49, 12, 11, 68, 69, 14, 13, 15, 10, 7] false 0 1 := ⟨Try.func6, by kernel_rfl, by kernel_rfl, by kernel_rfl, (ltS lt0 (by kernel_rfl))⟩
theorem Kf7 : FnFact Try.prog Kgl Kbd 7 Ki7 Try.f7 [0, 1, 2, 5, 3, 4, 8, 15, 6, 7] false 1 0 := ⟨Try.func7, by kernel_rfl, by kernel_rfl, by kernel_rfl, lt0⟩
theorem Kf8 : FnFact Try.prog Kgl Kbd 8 Ki8 Try.f8 [0, 1, 2, 5, 3, 4, 8, 22, 9, 28, 11, 12, 13, 41, 10, 14, 15, 54, 6, 7] false 1 0 := ⟨Try.func8, by kernel_rfl, by kernel_rfl, by kernel_rfl, lt0⟩
theorem Kf9 : FnFact Try.prog Kgl Kbd 9 Ki9 Try.f9 [0, 1, 10, 13, 12, 14, 5, 24, 4] false 1 0 := ⟨Try.func9, by kernel_rfl, by kernel_rfl, by kernel_rfl, lt0⟩
theorem Kf10 : FnFact Try.prog Kgl Kbd 10 Ki10 Try.f10 [0, 1, 2, 3, 22, 5, 27, 6, 7, 61, 8, 66, 80, 4] false 1 0 := ⟨Try.func10, by kernel_rfl, by kernel_rfl, by kernel_rfl, lt0⟩
theorem Kf11 : FnFact Try.prog Kgl Kbd 11 Ki11 Try.f11 [1, 2, 7, 4, 3, 6, 5, 8, 10, 9, 21, 11, 12, 13, 14, 16, 18, 20, 0] false 1 0 := ⟨Try.func11, by kernel_rfl, by kernel_rfl, by kernel_rfl, lt0⟩
theorem Kf12 : FnFact Try.prog Kgl Kbd 12 Ki12 Try.f12 [0, 1, 13, 12, 14, 11, 6, 7, 20, 2, 8, 26, 30, 29, 31, 28, 10, 39, 4] false 1 0 := ⟨Try.func12, by kernel_rfl, by kernel_rfl, by kernel_rfl, lt0⟩
theorem Kf13 : FnFact Try.prog Kgl Kbd 13 Ki13 Try.f13 [0, 1, 3, 11, 10, 12, 9, 2, 6, 7, 21, 4] false 1 0 := ⟨Try.func13, by kernel_rfl, by kernel_rfl, by kernel_rfl, lt0⟩
theorem Kf14 : FnFact Try.prog Kgl Kbd 14 Ki14 Try.f14 [0, 1, 2, 3, 4, 31, 30, 32, 29, 9, 10, 43, 42, 44, 41, 7, 11, 12, 6] false 1 0 := ⟨Try.func14, by kernel_rfl, by kernel_rfl, by kernel_rfl, lt0⟩
theorem Kf15 : FnFact Try.prog Kgl Kbd 15 Ki15 Try.f15 [0, 7, 4, 15, 3, 2] false 1 0 := ⟨Try.func15, by kernel_rfl, by kernel_rfl, by kernel_rfl, lt0⟩
theorem Kf16 : FnFact Try.prog Kgl Kbd 16 Ki16 Try.f16 [0, 4, 2] false 1 0 := ⟨Try.func16, by kernel_rfl, by kernel_rfl, by kernel_rfl, lt0⟩
theorem Kf17 : FnFact Try.prog Kgl Kbd 17 Ki17 Try.f17 [0, 1, 3, 6, 2, 4] false 1 0 := ⟨Try.func17, by kernel_rfl, by kernel_rfl, by kernel_rfl, lt0⟩
theorem Kf18 : FnFact Try.prog Kgl Kbd 18 Ki18 Try.f18 [0, 1, 2, 25, 43, 6, 7] false 1 0 := ⟨Try.func18, by kernel_rfl, by kernel_rfl, by kernel_rfl, lt0⟩
theorem Kf19 : FnFact Try.prog Kgl Kbd 19 Ki19 Try.f19 [0, 1, 2, 7, 4, 18, 17, 19, 9, 5, 28, 27, 29, 26, 3, 11, 8, 12, 6] false 1 0 := ⟨Try.func19, by kernel_rfl, by kernel_rfl, by kernel_rfl, lt0⟩
theorem Kf20 : FnFact Try.prog Kgl Kbd 20 Ki20 Try.f20 [0, 1, 10, 5, 20, 31, 4] false 1 0 := ⟨Try.func20, by kernel_rfl, by kernel_rfl, by kernel_rfl, lt0⟩
theorem Kf21 : FnFact Try.prog Kgl Kbd 21 Ki21 Try.f21 [0, 1, 11, 10, 12, 9, 4, 6, 5, 32, 61] false 1 0 := ⟨Try.func21, by kernel_rfl, by kernel_rfl, by kernel_rfl, lt0⟩
theorem Kf22 : FnFact Try.prog Kgl Kbd 22 Ki22 Try.f22 [0, 4, 2] false 1 0 := ⟨Try.func22, by kernel_rfl, by kernel_rfl, by kernel_rfl, lt0⟩
theorem Kf23 : FnFact Try.prog Kgl Kbd 23 Ki23 Try.f23 [0, 1, 10, 5, 14, 25, 4] false 1 0 := ⟨Try.func23, by kernel_rfl, by kernel_rfl, by kernel_rfl, lt0⟩
theorem Kf24 : FnFact Try.prog Kgl Kbd 24 Ki24 Try.f24 [0, 1, 4, 2] false 1 0 := ⟨Try.func24, by kernel_rfl, by kernel_rfl, by kernel_rfl, lt0⟩
theorem Kf25 : FnFact Try.prog Kgl Kbd 25 Ki25 Try.f25 [0, 1, 25, 29, 28, 30, 27, 5, 38, 3, 44, 48, 47, 49, 46, 7, 57, 60, 59, 61, 58, 8, 9, 70, 2] false 1 0 := ⟨Try.func25, by kernel_rfl, by kernel_rfl, by kernel_rfl, lt0⟩
theorem Kf26 : FnFact Try.prog Kgl Kbd 26 Ki26 Try.f26 [0, 1, 2, 14, 17, 16, 18, 15, 7, 8, 9, 30, 6] false 1 0 := ⟨Try.func26, by kernel_rfl, by kernel_rfl, by kernel_rfl, lt0⟩
theorem Kf27 : FnFact Try.prog Kgl Kbd 27 Ki27 Try.f27 [0, 1, 2, 4] false 1 0 := ⟨Try.func27, by kernel_rfl, by kernel_rfl, by kernel_rfl, lt0⟩
theorem Kf28 : FnFact Try.prog Kgl Kbd 28 Ki28 Try.f28 [0, 7, 8, 9, 3, 5, 2] false 1 1 := ⟨Try.func28, by kernel_rfl, by kernel_rfl, by kernel_rfl, (ltS lt0 (by kernel_rfl))⟩
theorem Kf29 : FnFact Try.prog Kgl Kbd 29 Ki29 Try.f29 [0, 1, 2, 3, 5, 34, 35, 36, 6, 7, 8, 9, 4] false 2 1 := ⟨Try.func29, by kernel_rfl, by kernel_rfl, by kernel_rfl, (ltS lt0 (by kernel_rfl))⟩
theorem Kf30 : FnFact Try.prog Kgl Kbd 30 Ki30 Try.f30 [0, 1, 2, 4, 9, 5, 30] false 3 0 := ⟨Try.func30, by kernel_rfl, by kernel_rfl, by kernel_rfl, lt0⟩
theorem Kf31 : FnFact Try.prog Kgl Kbd 31 Ki31 Try.f31 [0, 7, 4, 15, 3, 2] false 3 0 := ⟨Try.func31, by kernel_rfl, by kernel_rfl, by kernel_rfl, lt0⟩
theorem Kf32 : FnFact Try.prog Kgl Kbd 32 Ki32 Try.f32 [0, 1, 2, 22, 21, 23, 20, 7, 9, 31, 10, 56, 55, 57, 54, 16, 11, 15, 12, 13, 17, 14, 98, 97, 99, 96, 19, 6] false 3 0 := ⟨Try.func32, by kernel_rfl, by kernel_rfl, by kernel_rfl, lt0⟩
theorem Kf33 : FnFact Try.prog Kgl Kbd 33 Ki33 Try.f33 [0, 1, 37, 2, 3, 44, 43, 45, 42, 6, 56, 4, 80, 79, 81, 78, 10, 7, 5, 98, 8, 128, 132, 131, 133, 130, 12, 140, 139, 141, 138, 13, 15, 157, 11, 160, 161, 162, 17, 167] false 3 1 := ⟨Try.func33, by kernel_rfl, by kernel_rfl, by kernel_rfl, (ltS lt0 (by kernel_rfl))⟩
theorem Kf34 : FnFact Try.prog Kgl Kbd 34 Ki34 Try.f34 [0, 1, 2, 6] false 4 0 := ⟨Try.func34, by kernel_rfl, by kernel_rfl, by kernel_rfl, lt0⟩
theorem Kf35 : FnFact Try.prog Kgl Kbd 35 Ki35 Try.f35 [0, 1, 2] false 4 0 := ⟨Try.func35, by kernel_rfl, by kernel_rfl, by kernel_rfl, lt0⟩
theorem Kf36 : FnFact Try.prog Kgl Kbd 36 Ki36 Try.f36 [0, 1, 2, 20, 19, 21, 18, 7, 9, 6] false 4 0 := ⟨Try.func36, by kernel_rfl, by kernel_rfl, by kernel_rfl, lt0⟩
theorem Kf37 : FnFact Try.prog Kgl Kbd 37 Ki37 Try.f37 [0, 1, 10, 5, 6, 26, 7, 8, 37, 4] false 4 0 := ⟨Try.func37, by kernel_rfl, by kernel_rfl, by kernel_rfl, lt0⟩
theorem Kf38 : FnFact Try.prog Kgl Kbd 38 Ki38 Try.f38 [0, 1, 4] false 4 0 := ⟨Try.func38, by kernel_rfl, by kernel_rfl, by kernel_rfl, lt0⟩
theorem Kf39 : FnFact Try.prog Kgl Kbd 39 Ki39 Try.f39 [0, 1, 2, 15, 6] false 4 0 := ⟨Try.func39, by kernel_rfl, by kernel_rfl, by kernel_rfl, lt0⟩
theorem Kf40 : FnFact Try.prog Kgl Kbd 40 Ki40 Try.f40 [0, 3, 11, 14, 13, 15, 12, 4, 5, 29, 2] false 4 0 := ⟨Try.func40, by kernel_rfl, by kernel_rfl, by kernel_rfl, lt0⟩
theorem Kf41 : FnFact Try.prog Kgl Kbd 41 Ki41 Try.f41 [0, 1, 2, 3, 4] false 4 0 := ⟨Try.func41, by kernel_rfl, by kernel_rfl, by kernel_rfl, lt0⟩
theorem Kf42 : FnFact Try.prog Kgl Kbd 42 Ki42 Try.f42 [0, 1, 2, 12, 11, 13, 10, 9, 3, 23, 7, 6] false 4 0 := ⟨Try.func42, by kernel_rfl, by kernel_rfl, by kernel_rfl, lt0⟩
theorem Kf43 : FnFact Try.prog Kgl Kbd 43 Ki43 Try.f43 [0, 1, 19, 18, 20, 17, 3, 4, 5, 36, 6, 41, 51, 71, 76] false 4 0 := ⟨Try.func43, by kernel_rfl, by kernel_rfl, by kernel_rfl, lt0⟩
theorem Kf44 : FnFact Try.prog Kgl Kbd 44 Ki44 Try.f44 [0, 1, 13, 12, 14, 5, 6, 4] false 4 0 := ⟨Try.func44, by kernel_rfl, by kernel_rfl, by kernel_rfl, lt0⟩
theorem Kf45 : FnFact Try.prog Kgl Kbd 45 Ki45 Try.f45 [0, 1, 6, 7, 8, 9, 4, 5] false 4 0 := ⟨Try.func45, by kernel_rfl, by kernel_rfl, by kernel_rfl, lt0⟩
theorem Kf46 : FnFact Try.prog Kgl Kbd 46 Ki46 Try.f46 [0, 1, 2, 3, 4, 12, 25, 32, 10, 39, 14, 56, 13, 11, 75, 80, 97, 15, 17, 16, 18, 19, 125, 20] false 4 0 := ⟨Try.func46, by kernel_rfl, by kernel_rfl, by kernel_rfl, lt0⟩
theorem Kf47 : FnFact Try.prog Kgl Kbd 47 Ki47 Try.f47 [0, 2] false 4 0 := ⟨Try.func47, by kernel_rfl, by kernel_rfl, by kernel_rfl, lt0⟩
theorem Kf48 : FnFact Try.prog Kgl Kbd 48 Ki48 Try.f48 [0, 1, 2, 18, 17, 19, 16, 4, 6, 39, 38, 40, 37, 7, 10, 9, 8, 58] false 4 0 := ⟨Try.func48, by kernel_rfl, by kernel_rfl, by kernel_rfl, lt0⟩
theorem Kf49 : FnFact Try.prog Kgl Kbd 49 Ki49 Try.f49 [0, 1, 7, 14, 6, 21, 4, 5] false 4 0 := ⟨Try.func49, by kernel_rfl, by kernel_rfl, by kernel_rfl, lt0⟩
theorem Kf50 : FnFact Try.prog Kgl Kbd 50 Ki50 Try.f50 [0, 1, 6, 4, 5] false 4 0 := ⟨Try.func50, by kernel_rfl, by kernel_rfl, by kernel_rfl, lt0⟩
theorem Kf51 : FnFact Try.prog Kgl Kbd 51 Ki51 Try.f51 [0, 1, 6, 8, 7, 10, 11, 12, 9, 13, 4, 5] false 4 0 := ⟨Try.func51, by kernel_rfl, by kernel_rfl, by kernel_rfl, lt0⟩
theorem Kf52 : FnFact Try.prog Kgl Kbd 52 Ki52 Try.f52 [0, 1, 2, 3, 8, 14, 9, 34] false 4 0 := ⟨Try.func52, by kernel_rfl, by kernel_rfl, by kernel_rfl, lt0⟩
theorem Kf53 : FnFact Try.prog Kgl Kbd 53 Ki53 Try.f53 [0, 1, 2, 3, 10, 11, 21, 8, 12, 33, 9] false 4 0 := ⟨Try.func53, by kernel_rfl, by kernel_rfl, by kernel_rfl, lt0⟩
theorem Kf54 : FnFact Try.prog Kgl Kbd 54 Ki54 Try.f54 [0, 1, 2, 3, 8, 17, 11, 35, 9, 10, 12, 45] false 4 0 := ⟨Try.func54, by kernel_rfl, by kernel_rfl, by kernel_rfl, lt0⟩
theorem Kf55 : FnFact Try.prog Kgl Kbd 55 Ki55 Try.f55 [0, 1, 2, 3, 10, 34, 36, 12, 11, 13, 14, 55, 57, 60, 8, 9] false 4 0 := ⟨Try.func55, by kernel_rfl, by kernel_rfl, by kernel_rfl, lt0⟩
theorem Kf56 : FnFact Try.prog Kgl Kbd 56 Ki56 Try.f56 [0, 1, 2, 3, 8, 9, 15] false 4 0 := ⟨Try.func56, by kernel_rfl, by kernel_rfl, by kernel_rfl, lt0⟩
theorem Kf57 : FnFact Try.prog Kgl Kbd 57 Ki57 Try.f57 [0, 1, 2, 3, 10, 16, 9, 36, 41, 45, 65, 11, 69, 84, 104, 12, 109, 124, 8] false 4 0 := ⟨Try.func57, by kernel_rfl, by kernel_rfl, by kernel_rfl, lt0⟩
theorem Kf58 : FnFact Try.prog Kgl Kbd 58 Ki58 Try.f58 [0, 1, 2, 3, 4, 11, 12, 47, 65, 70, 10] false 4 0 := ⟨Try.func58, by kernel_rfl, by kernel_rfl, by kernel_rfl, lt0⟩
theorem Kf59 : FnFact Try.prog Kgl Kbd 59 Ki59 Try.f59 [0, 1, 2, 3, 4, 12, 13, 47, 66, 71, 120, 139, 144, 10, 11] false 4 0 := ⟨Try.func59, by kernel_rfl, by kernel_rfl, by kernel_rfl, lt0⟩
theorem Kf60 : FnFact Try.prog Kgl Kbd 60 Ki60 Try.f60 [0, 4, 8, 2] false 4 0 := ⟨Try.func60, by kernel_rfl, by kernel_rfl, by kernel_rfl, lt0⟩
theorem Kf61 : FnFact Try.prog Kgl Kbd 61 Ki61 Try.f61 [0, 4, 8, 2, 14] false 4 0 := ⟨Try.func61, by kernel_rfl, by kernel_rfl, by kernel_rfl, lt0⟩
theorem Kf62 : FnFact Try.prog Kgl Kbd 62 Ki62 Try.f62 [0, 9, 12, 11, 13, 10, 6, 21, 4, 26, 2, 3] false 4 0 := ⟨Try.func62, by kernel_rfl, by kernel_rfl, by kernel_rfl, lt0⟩
theorem Kf63 : FnFact Try.prog Kgl Kbd 63 Ki63 Try.f63 [0, 1, 15, 14, 16, 13, 5, 7, 6, 33, 4] false 4 0 := ⟨Try.func63, by kernel_rfl, by kernel_rfl, by kernel_rfl, lt0⟩
theorem Kf64 : FnFact Try.prog Kgl Kbd 64 Ki64 Try.f64 [0, 1, 13, 14, 15, 5, 6, 7, 4] false 4 1 := ⟨Try.func64, by kernel_rfl, by kernel_rfl, by kernel_rfl, (ltS lt0 (by kernel_rfl))⟩
theorem Kf65 : FnFact Try.prog Kgl Kbd 65 Ki65 Try.f65 [0, 1, 2, 3, 4, 10, 11, 18, 40, 58] false 5 0 := ⟨Try.func65, by kernel_rfl, by kernel_rfl, by kernel_rfl, lt0⟩
theorem Kf66 : FnFact Try.prog Kgl Kbd 66 Ki66 Try.f66 [0, 2] false 5 0 := ⟨Try.func66, by kernel_rfl, by kernel_rfl, by kernel_rfl, lt0⟩
theorem Kf67 : FnFact Try.prog Kgl Kbd 67 Ki67 Try.f67 [0, 2] false 5 0 := ⟨Try.func67, by kernel_rfl, by kernel_rfl, by kernel_rfl, lt0⟩
theorem Kf68 : FnFact Try.prog Kgl Kbd 68 Ki68 Try.f68 [0, 1, 2, 3, 8] false 5 0 := ⟨Try.func68, by kernel_rfl, by kernel_rfl, by kernel_rfl, lt0⟩
theorem Kf69 : FnFact Try.prog Kgl Kbd 69 Ki69 Try.f69 [0, 1, 2, 3, 4, 5, 12] false 5 0 := ⟨Try.func69, by kernel_rfl, by kernel_rfl, by kernel_rfl, lt0⟩
theorem Kf70 : FnFact Try.prog Kgl Kbd 70 Ki70 Try.f70 [0, 1, 2, 3, 4] false 5 0 := ⟨Try.func70, by kernel_rfl, by kernel_rfl, by kernel_rfl, lt0⟩
theorem Kf71 : FnFact Try.prog Kgl Kbd 71 Ki71 Try.f71 [0, 1, 2, 3, 4, 22, 10, 11] false 5 0 := ⟨Try.func71, by kernel_rfl, by kernel_rfl, by kernel_rfl, lt0⟩
theorem Kf72 : FnFact Try.prog Kgl Kbd 72 Ki72 Try.f72 [0, 1, 2, 4, 9, 21] false 5 0 := ⟨Try.func72, by kernel_rfl, by kernel_rfl, by kernel_rfl, lt0⟩
theorem Kg0 : BdFact Try.prog Kgl Kbd 0 Kb0 := ⟨6, Ki6, Try.f6, [0, 1, 2, 4, 3, 8, 22, 6, 5, 36, 9, 42, 51, 50, 52, 49, 12, 11, 68, 69, 14, 13, 15, 10, 7], false, 0, 1, 0, Kf6, by decide, rfl, by kernel_rfl, by kernel_rfl⟩
theorem Kg1 : BdFact Try.prog Kgl Kbd 1 Kb1 := ⟨28, Ki28, Try.f28, [0, 7, 8, 9, 3, 5, 2], false, 1, 1, 0, Kf28, by decide, rfl, by kernel_rfl, by kernel_rfl⟩
theorem Kg2 : BdFact Try.prog Kgl Kbd 2 Kb2 := ⟨29, Ki29, Try.f29, [0, 1, 2, 3, 5, 34, 35, 36, 6, 7, 8, 9, 4], false, 2, 1, 0, Kf29, by decide, rfl, by kernel_rfl, by kernel_rfl⟩
theorem Kg3 : BdFact Try.prog Kgl Kbd 3 Kb3 := ⟨33, Ki33, Try.f33, [0, 1, 37, 2, 3, 44, 43, 45, 42, 6, 56, 4, 80, 79, 81, 78, 10, 7, 5, 98, 8, 128, 132, 131, 133, 130, 12, 140, 139, 141, 138, 13, 15, 157, 11, 160, 161, 162, 17, 167], false, 3, 1, 0, Kf33, by decide, rfl, by kernel_rfl, by kernel_rfl⟩
theorem Kg4 : BdFact Try.prog Kgl Kbd 4 Kb4 := ⟨64, Ki64, Try.f64, [0, 1, 13, 14, 15, 5, 6, 7, 4], false, 4, 1, 0, Kf64, by decide, rfl, by kernel_rfl, by kernel_rfl⟩
theorem Kctx : CtxOk (gxOf Try.prog Kbd) Kgl (ctxOf Kit Kbt) := ctx_ok (li := [(3, Ki3), (7, Ki7), (15, Ki15), (31, Ki31), (63, Ki63), (47, Ki47), (23, Ki23), (39, Ki39), (71, Ki71), (55, Ki55), (11, Ki11), (19, Ki19), (35, Ki35), (67, Ki67), (51, Ki51), (27, Ki27), (43, Ki43), (59, Ki59), (5, Ki5), (9, Ki9), (17, Ki17), (33, Ki33), (65, Ki65), (49, Ki49), (25, Ki25), (41, Ki41), (57, Ki57), (13, Ki13), (21, Ki21), (37, Ki37), (69, Ki69), (53, Ki53), (29, Ki29), (45, Ki45), (61, Ki61), (4, Ki4), (8, Ki8), (16, Ki16), (32, Ki32), (64, Ki64), (48, Ki48), (24, Ki24), (40, Ki40), (72, Ki72), (56, Ki56), (12, Ki12), (20, Ki20), (36, Ki36), (68, Ki68), (52, Ki52), (28, Ki28), (44, Ki44), (60, Ki60), (6, Ki6), (10, Ki10), (18, Ki18), (34, Ki34), (66, Ki66), (50, Ki50), (26, Ki26), (42, Ki42), (58, Ki58), (14, Ki14), (22, Ki22), (38, Ki38), (70, Ki70), (54, Ki54), (30, Ki30), (46, Ki46), (62, Ki62)]) (lb := [(0, Kb0), (1, Kb1), (3, Kb3), (2, Kb2), (4, Kb4)]) (by kernel_rfl) (by kernel_rfl) (fa1 ⟨_, _, _, _, _, Kf3⟩ (fa1 ⟨_, _, _, _, _, Kf7⟩ (fa1 ⟨_, _, _, _, _, Kf15⟩ (fa1 ⟨_, _, _, _, _, Kf31⟩ (fa1 ⟨_, _, _, _, _, Kf63⟩ (fa1 ⟨_, _, _, _, _, Kf47⟩ (fa1 ⟨_, _, _, _, _, Kf23⟩ (fa1 ⟨_, _, _, _, _, Kf39⟩ (fa1 ⟨_, _, _, _, _, Kf71⟩ (fa1 ⟨_, _, _, _, _, Kf55⟩ (fa1 ⟨_, _, _, _, _, Kf11⟩ (fa1 ⟨_, _, _, _, _, Kf19⟩ (fa1 ⟨_, _, _, _, _, Kf35⟩ (fa1 ⟨_, _, _, _, _, Kf67⟩ (fa1 ⟨_, _, _, _, _, Kf51⟩ (fa1 ⟨_, _, _, _, _, Kf27⟩ (fa1 ⟨_, _, _, _, _, Kf43⟩ (fa1 ⟨_, _, _, _, _, Kf59⟩ (fa1 ⟨_, _, _, _, _, Kf5⟩ (fa1 ⟨_, _, _, _, _, Kf9⟩ (fa1 ⟨_, _, _, _, _, Kf17⟩ (fa1 ⟨_, _, _, _, _, Kf33⟩ (fa1 ⟨_, _, _, _, _, Kf65⟩ (fa1 ⟨_, _, _, _, _, Kf49⟩ (fa1 ⟨_, _, _, _, _, Kf25⟩ (fa1 ⟨_, _, _, _, _, Kf41⟩ (fa1 ⟨_, _, _, _, _, Kf57⟩ (fa1 ⟨_, _, _, _, _, Kf13⟩ (fa1 ⟨_, _, _, _, _, Kf21⟩ (fa1 ⟨_, _, _, _, _, Kf37⟩ (fa1 ⟨_, _, _, _, _, Kf69⟩ (fa1 ⟨_, _, _, _, _, Kf53⟩ (fa1 ⟨_, _, _, _, _, Kf29⟩ (fa1 ⟨_, _, _, _, _, Kf45⟩ (fa1 ⟨_, _, _, _, _, Kf61⟩ (fa1 ⟨_, _, _, _, _, Kf4⟩ (fa1 ⟨_, _, _, _, _, Kf8⟩ (fa1 ⟨_, _, _, _, _, Kf16⟩ (fa1 ⟨_, _, _, _, _, Kf32⟩ (fa1 ⟨_, _, _, _, _, Kf64⟩ (fa1 ⟨_, _, _, _, _, Kf48⟩ (fa1 ⟨_, _, _, _, _, Kf24⟩ (fa1 ⟨_, _, _, _, _, Kf40⟩ (fa1 ⟨_, _, _, _, _, Kf72⟩ (fa1 ⟨_, _, _, _, _, Kf56⟩ (fa1 ⟨_, _, _, _, _, Kf12⟩ (fa1 ⟨_, _, _, _, _, Kf20⟩ (fa1 ⟨_, _, _, _, _, Kf36⟩ (fa1 ⟨_, _, _, _, _, Kf68⟩ (fa1 ⟨_, _, _, _, _, Kf52⟩ (fa1 ⟨_, _, _, _, _, Kf28⟩ (fa1 ⟨_, _, _, _, _, Kf44⟩ (fa1 ⟨_, _, _, _, _, Kf60⟩ (fa1 ⟨_, _, _, _, _, Kf6⟩ (fa1 ⟨_, _, _, _, _, Kf10⟩ (fa1 ⟨_, _, _, _, _, Kf18⟩ (fa1 ⟨_, _, _, _, _, Kf34⟩ (fa1 ⟨_, _, _, _, _, Kf66⟩ (fa1 ⟨_, _, _, _, _, Kf50⟩ (fa1 ⟨_, _, _, _, _, Kf26⟩ (fa1 ⟨_, _, _, _, _, Kf42⟩ (fa1 ⟨_, _, _, _, _, Kf58⟩ (fa1 ⟨_, _, _, _, _, Kf14⟩ (fa1 ⟨_, _, _, _, _, Kf22⟩ (fa1 ⟨_, _, _, _, _, Kf38⟩ (fa1 ⟨_, _, _, _, _, Kf70⟩ (fa1 ⟨_, _, _, _, _, Kf54⟩ (fa1 ⟨_, _, _, _, _, Kf30⟩ (fa1 ⟨_, _, _, _, _, Kf46⟩ (fa1 ⟨_, _, _, _, _, Kf62⟩ fa0)))))))))))))))))))))))))))))))))))))))))))))))))))))))))))))))))))))) (fa1 Kg0 (fa1 Kg1 (fa1 Kg3 (fa1 Kg2 (fa1 Kg4 fa0)))))
theorem Kmix : Try.prog.follows .mixedOrders = true := by kernel_rfl
end Go.Proofs.Ytfnagnhdghbdnaa.expectKnown
