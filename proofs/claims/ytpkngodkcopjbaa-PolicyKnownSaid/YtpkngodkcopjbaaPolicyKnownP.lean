/-
  'PolicyKnown' returns true (a closed law: it takes no input).
  Proved by a machine of this claim's own (texts Hx..): its run of the law, worked out by the kernel, is the model's call (evM_ok, memE_calls). No condition.
-/
import Derived.Test.YtpkngodkcopjbaaPolicyKnownF
import Derived.Test.YtpkngodkcopjbaaPolicyKnownQ0
import Derived.Test.YtpkngodkcopjbaaPolicyKnownQ1
import Derived.Test.YtpkngodkcopjbaaPolicyKnownQ2
import Derived.Test.YtpkngodkcopjbaaPolicyKnownQ3
import Derived.Test.YtpkngodkcopjbaaPolicyKnownQ4
import Derived.Test.YtpkngodkcopjbaaPolicyKnownQ5
import Derived.Test.YtpkngodkcopjbaaPolicyKnownQ6
import Derived.Test.YtpkngodkcopjbaaPolicyKnownQ7
import Derived.WalkKit
import Derived.ProofKit
import Derived.OpenShut
namespace Go.Proofs.Ytpkngodkcopjbaa.policyKnown
open Hx Go
set_option maxRecDepth 100000
open Go.ChangeShapes Go.WideShapes Go.ChangeAt Go.RowKit
theorem own : ownKnob Try.prog.godebug = none := by kernel_rfl
theorem glr : GlR Kgl := glT_r _
theorem mo1 {Pr : Program} {gl : Nat → Option (List AV)} {f : Nat} {l : List (List AV × AV)} {t : Mem} (h : ∀ y ∈ l, MemE Pr gl f y.1 y.2) (ht : MemOk Pr gl t) : MemOk Pr gl ((f, l) :: t) := fun x hx => (List.mem_cons.1 hx).elim (fun e => by subst e; exact h) (ht x)
theorem me0 {Pr : Program} {gl : Nat → Option (List AV)} {f : Nat} : ∀ y ∈ ([] : List (List AV × AV)), MemE Pr gl f y.1 y.2 := fun y h => by cases h
theorem me1 {Pr : Program} {gl : Nat → Option (List AV)} {f : Nat} {k : List AV} {v : AV} {l : List (List AV × AV)} (h : MemE Pr gl f k v) (hl : ∀ y ∈ l, MemE Pr gl f y.1 y.2) : ∀ y ∈ (k, v) :: l, MemE Pr gl f y.1 y.2 := fun y hy => (List.mem_cons.1 hy).elim (fun e => by subst e; exact h) (hl y)
theorem Km0 : MemE Try.prog Kgl 31 Kk0 Kv0 := mem_of Try.func31 (by kernel_rfl) (by kernel_rfl) (evM_ok Kmix glr Kctx (show MemOk Try.prog Kgl [] from mem_nil) 200) (by kernel_rfl) Kq0
theorem Km1 : MemE Try.prog Kgl 12 Kk1 Kv1 := mem_of Try.func12 (by kernel_rfl) (by kernel_rfl) (evM_ok Kmix glr Kctx (show MemOk Try.prog Kgl [(31, [(Kk0, Kv0)])] from (mo1 (me1 Km0 me0) mem_nil)) 200) (by kernel_rfl) Kq1
theorem Km2 : MemE Try.prog Kgl 20 Kk2 Kv2 := mem_of Try.func20 (by kernel_rfl) (by kernel_rfl) (evM_ok Kmix glr Kctx (show MemOk Try.prog Kgl [(12, [(Kk1, Kv1)])] from (mo1 (me1 Km1 me0) mem_nil)) 200) (by kernel_rfl) Kq2
theorem Km3 : MemE Try.prog Kgl 15 Kk3 Kv3 := mem_of Try.func15 (by kernel_rfl) (by kernel_rfl) (evM_ok Kmix glr Kctx (show MemOk Try.prog Kgl [(12, [(Kk1, Kv1)])] from (mo1 (me1 Km1 me0) mem_nil)) 200) (by kernel_rfl) Kq3
theorem Km4 : MemE Try.prog Kgl 11 Kk4 Kv4 := mem_of Try.func11 (by kernel_rfl) (by kernel_rfl) (evM_ok Kmix glr Kctx (show MemOk Try.prog Kgl [(15, [(Kk3, Kv3)])] from (mo1 (me1 Km3 me0) mem_nil)) 200) (by kernel_rfl) Kq4
theorem Km5 : MemE Try.prog Kgl 10 Kk5 Kv5 := mem_of Try.func10 (by kernel_rfl) (by kernel_rfl) (evM_ok Kmix glr Kctx (show MemOk Try.prog Kgl [(11, [(Kk4, Kv4)])] from (mo1 (me1 Km4 me0) mem_nil)) 200) (by kernel_rfl) Kq5
theorem Km6 : MemE Try.prog Kgl 4 Kk6 Kv6 := mem_of Try.func4 (by kernel_rfl) (by kernel_rfl) (evM_ok Kmix glr Kctx (show MemOk Try.prog Kgl [(12, [(Kk1, Kv1)]), (20, [(Kk2, Kv2)]), (11, [(Kk4, Kv4)]), (10, [(Kk5, Kv5)])] from (mo1 (me1 Km1 me0) (mo1 (me1 Km2 me0) (mo1 (me1 Km4 me0) (mo1 (me1 Km5 me0) mem_nil))))) 200) (by kernel_rfl) Kq6
theorem Km7 : MemE Try.prog Kgl 31 Kk7 Kv7 := mem_of Try.func31 (by kernel_rfl) (by kernel_rfl) (evM_ok Kmix glr Kctx (show MemOk Try.prog Kgl [] from mem_nil) 200) (by kernel_rfl) Kq7
theorem Km8 : MemE Try.prog Kgl 35 Kk8 Kv8 := mem_of Try.func35 (by kernel_rfl) (by kernel_rfl) (evM_ok Kmix glr Kctx (show MemOk Try.prog Kgl [] from mem_nil) 200) (by kernel_rfl) Kq8
theorem Km9 : MemE Try.prog Kgl 12 Kk9 Kv9 := mem_of Try.func12 (by kernel_rfl) (by kernel_rfl) (evM_ok Kmix glr Kctx (show MemOk Try.prog Kgl [(31, [(Kk7, Kv7)]), (35, [(Kk8, Kv8)])] from (mo1 (me1 Km7 me0) (mo1 (me1 Km8 me0) mem_nil))) 200) (by kernel_rfl) Kq9
theorem Km10 : MemE Try.prog Kgl 15 Kk10 Kv10 := mem_of Try.func15 (by kernel_rfl) (by kernel_rfl) (evM_ok Kmix glr Kctx (show MemOk Try.prog Kgl [(12, [(Kk9, Kv9)])] from (mo1 (me1 Km9 me0) mem_nil)) 200) (by kernel_rfl) Kq10
theorem Km11 : MemE Try.prog Kgl 30 Kk11 Kv11 := mem_of Try.func30 (by kernel_rfl) (by kernel_rfl) (evM_ok Kmix glr Kctx (show MemOk Try.prog Kgl [] from mem_nil) 200) (by kernel_rfl) Kq11
theorem Km12 : MemE Try.prog Kgl 11 Kk12 Kv12 := mem_of Try.func11 (by kernel_rfl) (by kernel_rfl) (evM_ok Kmix glr Kctx (show MemOk Try.prog Kgl [(15, [(Kk10, Kv10)]), (30, [(Kk11, Kv11)])] from (mo1 (me1 Km10 me0) (mo1 (me1 Km11 me0) mem_nil))) 200) (by kernel_rfl) Kq12
theorem Km13 : MemE Try.prog Kgl 15 Kk13 Kv13 := mem_of Try.func15 (by kernel_rfl) (by kernel_rfl) (evM_ok Kmix glr Kctx (show MemOk Try.prog Kgl [(12, [(Kk9, Kv9)])] from (mo1 (me1 Km9 me0) mem_nil)) 200) (by kernel_rfl) Kq13
theorem Km14 : MemE Try.prog Kgl 30 Kk14 Kv14 := mem_of Try.func30 (by kernel_rfl) (by kernel_rfl) (evM_ok Kmix glr Kctx (show MemOk Try.prog Kgl [] from mem_nil) 200) (by kernel_rfl) Kq14
theorem Km15 : MemE Try.prog Kgl 11 Kk15 Kv15 := mem_of Try.func11 (by kernel_rfl) (by kernel_rfl) (evM_ok Kmix glr Kctx (show MemOk Try.prog Kgl [(15, [(Kk13, Kv13)]), (30, [(Kk14, Kv14)])] from (mo1 (me1 Km13 me0) (mo1 (me1 Km14 me0) mem_nil))) 200) (by kernel_rfl) Kq15
theorem Km16 : MemE Try.prog Kgl 26 Kk16 Kv16 := mem_of Try.func26 (by kernel_rfl) (by kernel_rfl) (evM_ok Kmix glr Kctx (show MemOk Try.prog Kgl [(11, [(Kk15, Kv15)])] from (mo1 (me1 Km15 me0) mem_nil)) 200) (by kernel_rfl) Kq16
theorem Km17 : MemE Try.prog Kgl 26 Kk17 Kv17 := mem_of Try.func26 (by kernel_rfl) (by kernel_rfl) (evM_ok Kmix glr Kctx (show MemOk Try.prog Kgl [(11, [(Kk12, Kv12)])] from (mo1 (me1 Km12 me0) mem_nil)) 200) (by kernel_rfl) Kq17
theorem Km18 : MemE Try.prog Kgl 26 Kk18 Kv18 := mem_of Try.func26 (by kernel_rfl) (by kernel_rfl) (evM_ok Kmix glr Kctx (show MemOk Try.prog Kgl [(11, [(Kk12, Kv12)])] from (mo1 (me1 Km12 me0) mem_nil)) 200) (by kernel_rfl) Kq18
theorem Km19 : MemE Try.prog Kgl 26 Kk19 Kv19 := mem_of Try.func26 (by kernel_rfl) (by kernel_rfl) (evM_ok Kmix glr Kctx (show MemOk Try.prog Kgl [(11, [(Kk12, Kv12)])] from (mo1 (me1 Km12 me0) mem_nil)) 200) (by kernel_rfl) Kq19
theorem Km20 : MemE Try.prog Kgl 26 Kk20 Kv20 := mem_of Try.func26 (by kernel_rfl) (by kernel_rfl) (evM_ok Kmix glr Kctx (show MemOk Try.prog Kgl [(11, [(Kk12, Kv12)])] from (mo1 (me1 Km12 me0) mem_nil)) 200) (by kernel_rfl) Kq20
theorem Km21 : MemE Try.prog Kgl 26 Kk21 Kv21 := mem_of Try.func26 (by kernel_rfl) (by kernel_rfl) (evM_ok Kmix glr Kctx (show MemOk Try.prog Kgl [(11, [(Kk12, Kv12)])] from (mo1 (me1 Km12 me0) mem_nil)) 200) (by kernel_rfl) Kq21
theorem Km22 : MemE Try.prog Kgl 26 Kk22 Kv22 := mem_of Try.func26 (by kernel_rfl) (by kernel_rfl) (evM_ok Kmix glr Kctx (show MemOk Try.prog Kgl [(11, [(Kk12, Kv12)])] from (mo1 (me1 Km12 me0) mem_nil)) 200) (by kernel_rfl) Kq22
theorem Km23 : MemE Try.prog Kgl 26 Kk23 Kv23 := mem_of Try.func26 (by kernel_rfl) (by kernel_rfl) (evM_ok Kmix glr Kctx (show MemOk Try.prog Kgl [(11, [(Kk12, Kv12)])] from (mo1 (me1 Km12 me0) mem_nil)) 200) (by kernel_rfl) Kq23
theorem Km24 : MemE Try.prog Kgl 26 Kk24 Kv24 := mem_of Try.func26 (by kernel_rfl) (by kernel_rfl) (evM_ok Kmix glr Kctx (show MemOk Try.prog Kgl [(11, [(Kk12, Kv12)])] from (mo1 (me1 Km12 me0) mem_nil)) 200) (by kernel_rfl) Kq24
theorem Km25 : MemE Try.prog Kgl 13 Kk25 Kv25 := mem_of Try.func13 (by kernel_rfl) (by kernel_rfl) (evM_ok Kmix glr Kctx (show MemOk Try.prog Kgl [(12, [(Kk9, Kv9)]), (11, [(Kk12, Kv12)])] from (mo1 (me1 Km9 me0) (mo1 (me1 Km12 me0) mem_nil))) 200) (by kernel_rfl) Kq25
theorem Km26 : MemE Try.prog Kgl 15 Kk26 Kv26 := mem_of Try.func15 (by kernel_rfl) (by kernel_rfl) (evM_ok Kmix glr Kctx (show MemOk Try.prog Kgl [(12, [(Kk9, Kv9)])] from (mo1 (me1 Km9 me0) mem_nil)) 200) (by kernel_rfl) Kq26
theorem Km27 : MemE Try.prog Kgl 30 Kk27 Kv27 := mem_of Try.func30 (by kernel_rfl) (by kernel_rfl) (evM_ok Kmix glr Kctx (show MemOk Try.prog Kgl [] from mem_nil) 200) (by kernel_rfl) Kq27
theorem Km28 : MemE Try.prog Kgl 11 Kk28 Kv28 := mem_of Try.func11 (by kernel_rfl) (by kernel_rfl) (evM_ok Kmix glr Kctx (show MemOk Try.prog Kgl [(15, [(Kk26, Kv26)]), (30, [(Kk27, Kv27)])] from (mo1 (me1 Km26 me0) (mo1 (me1 Km27 me0) mem_nil))) 200) (by kernel_rfl) Kq28
theorem Km29 : MemE Try.prog Kgl 36 Kk29 Kv29 := mem_of Try.func36 (by kernel_rfl) (by kernel_rfl) (evM_ok Kmix glr Kctx (show MemOk Try.prog Kgl [] from mem_nil) 200) (by kernel_rfl) Kq29
theorem Km30 : MemE Try.prog Kgl 14 Kk30 Kv30 := mem_of Try.func14 (by kernel_rfl) (by kernel_rfl) (evM_ok Kmix glr Kctx (show MemOk Try.prog Kgl [(36, [(Kk29, Kv29)])] from (mo1 (me1 Km29 me0) mem_nil)) 200) (by kernel_rfl) Kq30
theorem Km31 : MemE Try.prog Kgl 5 Kk31 Kv31 := mem_of Try.func5 (by kernel_rfl) (by kernel_rfl) (evM_ok Kmix glr Kctx (show MemOk Try.prog Kgl [(12, [(Kk9, Kv9)]), (13, [(Kk25, Kv25)]), (11, [(Kk28, Kv28)]), (14, [(Kk30, Kv30)])] from (mo1 (me1 Km9 me0) (mo1 (me1 Km25 me0) (mo1 (me1 Km28 me0) (mo1 (me1 Km30 me0) mem_nil))))) 200) (by kernel_rfl) Kq31
theorem Km32 : MemE Try.prog Kgl 15 Kk32 Kv32 := mem_of Try.func15 (by kernel_rfl) (by kernel_rfl) (evM_ok Kmix glr Kctx (show MemOk Try.prog Kgl [(12, [(Kk9, Kv9)])] from (mo1 (me1 Km9 me0) mem_nil)) 200) (by kernel_rfl) Kq32
theorem Km33 : MemE Try.prog Kgl 30 Kk33 Kv33 := mem_of Try.func30 (by kernel_rfl) (by kernel_rfl) (evM_ok Kmix glr Kctx (show MemOk Try.prog Kgl [] from mem_nil) 200) (by kernel_rfl) Kq33
theorem Km34 : MemE Try.prog Kgl 11 Kk34 Kv34 := mem_of Try.func11 (by kernel_rfl) (by kernel_rfl) (evM_ok Kmix glr Kctx (show MemOk Try.prog Kgl [(15, [(Kk32, Kv32)]), (30, [(Kk33, Kv33)])] from (mo1 (me1 Km32 me0) (mo1 (me1 Km33 me0) mem_nil))) 200) (by kernel_rfl) Kq34
theorem Km35 : MemE Try.prog Kgl 36 Kk35 Kv35 := mem_of Try.func36 (by kernel_rfl) (by kernel_rfl) (evM_ok Kmix glr Kctx (show MemOk Try.prog Kgl [] from mem_nil) 200) (by kernel_rfl) Kq35
theorem Km36 : MemE Try.prog Kgl 14 Kk36 Kv36 := mem_of Try.func14 (by kernel_rfl) (by kernel_rfl) (evM_ok Kmix glr Kctx (show MemOk Try.prog Kgl [(36, [(Kk35, Kv35)])] from (mo1 (me1 Km35 me0) mem_nil)) 200) (by kernel_rfl) Kq36
theorem Km37 : MemE Try.prog Kgl 5 Kk37 Kv37 := mem_of Try.func5 (by kernel_rfl) (by kernel_rfl) (evM_ok Kmix glr Kctx (show MemOk Try.prog Kgl [(12, [(Kk9, Kv9)]), (13, [(Kk25, Kv25)]), (11, [(Kk34, Kv34)]), (14, [(Kk36, Kv36)])] from (mo1 (me1 Km9 me0) (mo1 (me1 Km25 me0) (mo1 (me1 Km34 me0) (mo1 (me1 Km36 me0) mem_nil))))) 200) (by kernel_rfl) Kq37
theorem Km38 : MemE Try.prog Kgl 15 Kk38 Kv38 := mem_of Try.func15 (by kernel_rfl) (by kernel_rfl) (evM_ok Kmix glr Kctx (show MemOk Try.prog Kgl [(12, [(Kk9, Kv9)])] from (mo1 (me1 Km9 me0) mem_nil)) 200) (by kernel_rfl) Kq38
theorem Km39 : MemE Try.prog Kgl 11 Kk39 Kv39 := mem_of Try.func11 (by kernel_rfl) (by kernel_rfl) (evM_ok Kmix glr Kctx (show MemOk Try.prog Kgl [(15, [(Kk38, Kv38)])] from (mo1 (me1 Km38 me0) mem_nil)) 200) (by kernel_rfl) Kq39
theorem Km40 : MemE Try.prog Kgl 5 Kk40 Kv40 := mem_of Try.func5 (by kernel_rfl) (by kernel_rfl) (evM_ok Kmix glr Kctx (show MemOk Try.prog Kgl [(12, [(Kk9, Kv9)]), (13, [(Kk25, Kv25)]), (11, [(Kk39, Kv39)])] from (mo1 (me1 Km9 me0) (mo1 (me1 Km25 me0) (mo1 (me1 Km39 me0) mem_nil)))) 200) (by kernel_rfl) Kq40
theorem Km41 : MemE Try.prog Kgl 31 Kk41 Kv41 := mem_of Try.func31 (by kernel_rfl) (by kernel_rfl) (evM_ok Kmix glr Kctx (show MemOk Try.prog Kgl [] from mem_nil) 200) (by kernel_rfl) Kq41
theorem Km42 : MemE Try.prog Kgl 12 Kk42 Kv42 := mem_of Try.func12 (by kernel_rfl) (by kernel_rfl) (evM_ok Kmix glr Kctx (show MemOk Try.prog Kgl [(31, [(Kk41, Kv41)])] from (mo1 (me1 Km41 me0) mem_nil)) 200) (by kernel_rfl) Kq42
theorem Km43 : MemE Try.prog Kgl 20 Kk43 Kv43 := mem_of Try.func20 (by kernel_rfl) (by kernel_rfl) (evM_ok Kmix glr Kctx (show MemOk Try.prog Kgl [(12, [(Kk42, Kv42)])] from (mo1 (me1 Km42 me0) mem_nil)) 200) (by kernel_rfl) Kq43
theorem Km44 : MemE Try.prog Kgl 9 Kk44 Kv44 := mem_of Try.func9 (by kernel_rfl) (by kernel_rfl) (evM_ok Kmix glr Kctx (show MemOk Try.prog Kgl [(12, [(Kk42, Kv42)]), (20, [(Kk43, Kv43)])] from (mo1 (me1 Km42 me0) (mo1 (me1 Km43 me0) mem_nil))) 200) (by kernel_rfl) Kq44
theorem Km45 : MemE Try.prog Kgl 13 Kk45 Kv45 := mem_of Try.func13 (by kernel_rfl) (by kernel_rfl) (evM_ok Kmix glr Kctx (show MemOk Try.prog Kgl [(9, [(Kk44, Kv44)])] from (mo1 (me1 Km44 me0) mem_nil)) 200) (by kernel_rfl) Kq45
theorem Km46 : MemE Try.prog Kgl 5 Kk46 Kv46 := mem_of Try.func5 (by kernel_rfl) (by kernel_rfl) (evM_ok Kmix glr Kctx (show MemOk Try.prog Kgl [(12, [(Kk42, Kv42)]), (13, [(Kk45, Kv45)])] from (mo1 (me1 Km42 me0) (mo1 (me1 Km45 me0) mem_nil))) 200) (by kernel_rfl) Kq46
theorem Km47 : MemE Try.prog Kgl 15 Kk47 Kv47 := mem_of Try.func15 (by kernel_rfl) (by kernel_rfl) (evM_ok Kmix glr Kctx (show MemOk Try.prog Kgl [(12, [(Kk42, Kv42)])] from (mo1 (me1 Km42 me0) mem_nil)) 200) (by kernel_rfl) Kq47
theorem Km48 : MemE Try.prog Kgl 15 Kk48 Kv48 := mem_of Try.func15 (by kernel_rfl) (by kernel_rfl) (evM_ok Kmix glr Kctx (show MemOk Try.prog Kgl [(12, [(Kk42, Kv42)])] from (mo1 (me1 Km42 me0) mem_nil)) 200) (by kernel_rfl) Kq48
theorem Km49 : MemE Try.prog Kgl 6 Kk49 Kv49 := mem_of Try.func6 (by kernel_rfl) (by kernel_rfl) (evM_ok Kmix glr Kctx (show MemOk Try.prog Kgl [(15, [(Kk48, Kv48)])] from (mo1 (me1 Km48 me0) mem_nil)) 200) (by kernel_rfl) Kq49
theorem Km50 : MemE Try.prog Kgl 6 Kk50 Kv50 := mem_of Try.func6 (by kernel_rfl) (by kernel_rfl) (evM_ok Kmix glr Kctx (show MemOk Try.prog Kgl [(15, [(Kk47, Kv47)])] from (mo1 (me1 Km47 me0) mem_nil)) 200) (by kernel_rfl) Kq50
theorem Km51 : MemE Try.prog Kgl 31 Kk51 Kv51 := mem_of Try.func31 (by kernel_rfl) (by kernel_rfl) (evM_ok Kmix glr Kctx (show MemOk Try.prog Kgl [] from mem_nil) 200) (by kernel_rfl) Kq51
theorem Km52 : MemE Try.prog Kgl 12 Kk52 Kv52 := mem_of Try.func12 (by kernel_rfl) (by kernel_rfl) (evM_ok Kmix glr Kctx (show MemOk Try.prog Kgl [(31, [(Kk51, Kv51)])] from (mo1 (me1 Km51 me0) mem_nil)) 200) (by kernel_rfl) Kq52
theorem Km53 : MemE Try.prog Kgl 15 Kk53 Kv53 := mem_of Try.func15 (by kernel_rfl) (by kernel_rfl) (evM_ok Kmix glr Kctx (show MemOk Try.prog Kgl [(12, [(Kk52, Kv52)])] from (mo1 (me1 Km52 me0) mem_nil)) 200) (by kernel_rfl) Kq53
theorem Km54 : MemE Try.prog Kgl 30 Kk54 Kv54 := mem_of Try.func30 (by kernel_rfl) (by kernel_rfl) (evM_ok Kmix glr Kctx (show MemOk Try.prog Kgl [] from mem_nil) 200) (by kernel_rfl) Kq54
theorem Km55 : MemE Try.prog Kgl 11 Kk55 Kv55 := mem_of Try.func11 (by kernel_rfl) (by kernel_rfl) (evM_ok Kmix glr Kctx (show MemOk Try.prog Kgl [(15, [(Kk53, Kv53)]), (30, [(Kk54, Kv54)])] from (mo1 (me1 Km53 me0) (mo1 (me1 Km54 me0) mem_nil))) 200) (by kernel_rfl) Kq55
theorem Km56 : MemE Try.prog Kgl 15 Kk56 Kv56 := mem_of Try.func15 (by kernel_rfl) (by kernel_rfl) (evM_ok Kmix glr Kctx (show MemOk Try.prog Kgl [(12, [(Kk52, Kv52)])] from (mo1 (me1 Km52 me0) mem_nil)) 200) (by kernel_rfl) Kq56
theorem Km57 : MemE Try.prog Kgl 30 Kk57 Kv57 := mem_of Try.func30 (by kernel_rfl) (by kernel_rfl) (evM_ok Kmix glr Kctx (show MemOk Try.prog Kgl [] from mem_nil) 200) (by kernel_rfl) Kq57
theorem Km58 : MemE Try.prog Kgl 11 Kk58 Kv58 := mem_of Try.func11 (by kernel_rfl) (by kernel_rfl) (evM_ok Kmix glr Kctx (show MemOk Try.prog Kgl [(15, [(Kk56, Kv56)]), (30, [(Kk57, Kv57)])] from (mo1 (me1 Km56 me0) (mo1 (me1 Km57 me0) mem_nil))) 200) (by kernel_rfl) Kq58
theorem Km59 : MemE Try.prog Kgl 26 Kk59 Kv59 := mem_of Try.func26 (by kernel_rfl) (by kernel_rfl) (evM_ok Kmix glr Kctx (show MemOk Try.prog Kgl [(11, [(Kk58, Kv58)])] from (mo1 (me1 Km58 me0) mem_nil)) 200) (by kernel_rfl) Kq59
theorem Km60 : MemE Try.prog Kgl 26 Kk60 Kv60 := mem_of Try.func26 (by kernel_rfl) (by kernel_rfl) (evM_ok Kmix glr Kctx (show MemOk Try.prog Kgl [(11, [(Kk55, Kv55)])] from (mo1 (me1 Km55 me0) mem_nil)) 200) (by kernel_rfl) Kq60
theorem Km61 : MemE Try.prog Kgl 26 Kk61 Kv61 := mem_of Try.func26 (by kernel_rfl) (by kernel_rfl) (evM_ok Kmix glr Kctx (show MemOk Try.prog Kgl [(11, [(Kk55, Kv55)])] from (mo1 (me1 Km55 me0) mem_nil)) 200) (by kernel_rfl) Kq61
theorem Km62 : MemE Try.prog Kgl 31 Kk62 Kv62 := mem_of Try.func31 (by kernel_rfl) (by kernel_rfl) (evM_ok Kmix glr Kctx (show MemOk Try.prog Kgl [] from mem_nil) 200) (by kernel_rfl) Kq62
theorem Km63 : MemE Try.prog Kgl 35 Kk63 Kv63 := mem_of Try.func35 (by kernel_rfl) (by kernel_rfl) (evM_ok Kmix glr Kctx (show MemOk Try.prog Kgl [] from mem_nil) 200) (by kernel_rfl) Kq63
theorem Km64 : MemE Try.prog Kgl 12 Kk64 Kv64 := mem_of Try.func12 (by kernel_rfl) (by kernel_rfl) (evM_ok Kmix glr Kctx (show MemOk Try.prog Kgl [(31, [(Kk62, Kv62)]), (35, [(Kk63, Kv63)])] from (mo1 (me1 Km62 me0) (mo1 (me1 Km63 me0) mem_nil))) 200) (by kernel_rfl) Kq64
theorem Km65 : MemE Try.prog Kgl 15 Kk65 Kv65 := mem_of Try.func15 (by kernel_rfl) (by kernel_rfl) (evM_ok Kmix glr Kctx (show MemOk Try.prog Kgl [(12, [(Kk64, Kv64)])] from (mo1 (me1 Km64 me0) mem_nil)) 200) (by kernel_rfl) Kq65
theorem Km66 : MemE Try.prog Kgl 30 Kk66 Kv66 := mem_of Try.func30 (by kernel_rfl) (by kernel_rfl) (evM_ok Kmix glr Kctx (show MemOk Try.prog Kgl [] from mem_nil) 200) (by kernel_rfl) Kq66
theorem Km67 : MemE Try.prog Kgl 11 Kk67 Kv67 := mem_of Try.func11 (by kernel_rfl) (by kernel_rfl) (evM_ok Kmix glr Kctx (show MemOk Try.prog Kgl [(15, [(Kk65, Kv65)]), (30, [(Kk66, Kv66)])] from (mo1 (me1 Km65 me0) (mo1 (me1 Km66 me0) mem_nil))) 200) (by kernel_rfl) Kq67
theorem Km68 : MemE Try.prog Kgl 15 Kk68 Kv68 := mem_of Try.func15 (by kernel_rfl) (by kernel_rfl) (evM_ok Kmix glr Kctx (show MemOk Try.prog Kgl [(12, [(Kk64, Kv64)])] from (mo1 (me1 Km64 me0) mem_nil)) 200) (by kernel_rfl) Kq68
theorem Km69 : MemE Try.prog Kgl 30 Kk69 Kv69 := mem_of Try.func30 (by kernel_rfl) (by kernel_rfl) (evM_ok Kmix glr Kctx (show MemOk Try.prog Kgl [] from mem_nil) 200) (by kernel_rfl) Kq69
theorem Km70 : MemE Try.prog Kgl 11 Kk70 Kv70 := mem_of Try.func11 (by kernel_rfl) (by kernel_rfl) (evM_ok Kmix glr Kctx (show MemOk Try.prog Kgl [(15, [(Kk68, Kv68)]), (30, [(Kk69, Kv69)])] from (mo1 (me1 Km68 me0) (mo1 (me1 Km69 me0) mem_nil))) 200) (by kernel_rfl) Kq70
theorem Km71 : MemE Try.prog Kgl 26 Kk71 Kv71 := mem_of Try.func26 (by kernel_rfl) (by kernel_rfl) (evM_ok Kmix glr Kctx (show MemOk Try.prog Kgl [(11, [(Kk70, Kv70)])] from (mo1 (me1 Km70 me0) mem_nil)) 200) (by kernel_rfl) Kq71
theorem Km72 : MemE Try.prog Kgl 26 Kk72 Kv72 := mem_of Try.func26 (by kernel_rfl) (by kernel_rfl) (evM_ok Kmix glr Kctx (show MemOk Try.prog Kgl [(11, [(Kk67, Kv67)])] from (mo1 (me1 Km67 me0) mem_nil)) 200) (by kernel_rfl) Kq72
theorem Km73 : MemE Try.prog Kgl 26 Kk73 Kv73 := mem_of Try.func26 (by kernel_rfl) (by kernel_rfl) (evM_ok Kmix glr Kctx (show MemOk Try.prog Kgl [(11, [(Kk67, Kv67)])] from (mo1 (me1 Km67 me0) mem_nil)) 200) (by kernel_rfl) Kq73
theorem Km74 : MemE Try.prog Kgl 26 Kk74 Kv74 := mem_of Try.func26 (by kernel_rfl) (by kernel_rfl) (evM_ok Kmix glr Kctx (show MemOk Try.prog Kgl [(11, [(Kk67, Kv67)])] from (mo1 (me1 Km67 me0) mem_nil)) 200) (by kernel_rfl) Kq74
theorem Km75 : MemE Try.prog Kgl 15 Kk75 Kv75 := mem_of Try.func15 (by kernel_rfl) (by kernel_rfl) (evM_ok Kmix glr Kctx (show MemOk Try.prog Kgl [(12, [(Kk64, Kv64)])] from (mo1 (me1 Km64 me0) mem_nil)) 200) (by kernel_rfl) Kq75
theorem Km76 : MemE Try.prog Kgl 30 Kk76 Kv76 := mem_of Try.func30 (by kernel_rfl) (by kernel_rfl) (evM_ok Kmix glr Kctx (show MemOk Try.prog Kgl [] from mem_nil) 200) (by kernel_rfl) Kq76
theorem Km77 : MemE Try.prog Kgl 11 Kk77 Kv77 := mem_of Try.func11 (by kernel_rfl) (by kernel_rfl) (evM_ok Kmix glr Kctx (show MemOk Try.prog Kgl [(15, [(Kk75, Kv75)]), (30, [(Kk76, Kv76)])] from (mo1 (me1 Km75 me0) (mo1 (me1 Km76 me0) mem_nil))) 200) (by kernel_rfl) Kq77
theorem Km78 : MemE Try.prog Kgl 26 Kk78 Kv78 := mem_of Try.func26 (by kernel_rfl) (by kernel_rfl) (evM_ok Kmix glr Kctx (show MemOk Try.prog Kgl [(11, [(Kk77, Kv77)])] from (mo1 (me1 Km77 me0) mem_nil)) 200) (by kernel_rfl) Kq78
theorem Km79 : MemE Try.prog Kgl 26 Kk79 Kv79 := mem_of Try.func26 (by kernel_rfl) (by kernel_rfl) (evM_ok Kmix glr Kctx (show MemOk Try.prog Kgl [(11, [(Kk67, Kv67)])] from (mo1 (me1 Km67 me0) mem_nil)) 200) (by kernel_rfl) Kq79
theorem Km80 : MemE Try.prog Kgl 26 Kk80 Kv80 := mem_of Try.func26 (by kernel_rfl) (by kernel_rfl) (evM_ok Kmix glr Kctx (show MemOk Try.prog Kgl [(11, [(Kk67, Kv67)])] from (mo1 (me1 Km67 me0) mem_nil)) 200) (by kernel_rfl) Kq80
theorem Km81 : MemE Try.prog Kgl 13 Kk81 Kv81 := mem_of Try.func13 (by kernel_rfl) (by kernel_rfl) (evM_ok Kmix glr Kctx (show MemOk Try.prog Kgl [(12, [(Kk52, Kv52)]), (11, [(Kk55, Kv55)])] from (mo1 (me1 Km52 me0) (mo1 (me1 Km55 me0) mem_nil))) 200) (by kernel_rfl) Kq81
theorem Km82 : MemE Try.prog Kgl 36 Kk82 Kv82 := mem_of Try.func36 (by kernel_rfl) (by kernel_rfl) (evM_ok Kmix glr Kctx (show MemOk Try.prog Kgl [] from mem_nil) 200) (by kernel_rfl) Kq82
theorem Km83 : MemE Try.prog Kgl 14 Kk83 Kv83 := mem_of Try.func14 (by kernel_rfl) (by kernel_rfl) (evM_ok Kmix glr Kctx (show MemOk Try.prog Kgl [(36, [(Kk82, Kv82)])] from (mo1 (me1 Km82 me0) mem_nil)) 200) (by kernel_rfl) Kq83
theorem Km84 : MemE Try.prog Kgl 5 Kk84 Kv84 := mem_of Try.func5 (by kernel_rfl) (by kernel_rfl) (evM_ok Kmix glr Kctx (show MemOk Try.prog Kgl [(12, [(Kk52, Kv52)]), (11, [(Kk55, Kv55)]), (13, [(Kk81, Kv81)]), (14, [(Kk83, Kv83)])] from (mo1 (me1 Km52 me0) (mo1 (me1 Km55 me0) (mo1 (me1 Km81 me0) (mo1 (me1 Km83 me0) mem_nil))))) 200) (by kernel_rfl) Kq84
theorem Km85 : MemE Try.prog Kgl 15 Kk85 Kv85 := mem_of Try.func15 (by kernel_rfl) (by kernel_rfl) (evM_ok Kmix glr Kctx (show MemOk Try.prog Kgl [(12, [(Kk52, Kv52)])] from (mo1 (me1 Km52 me0) mem_nil)) 200) (by kernel_rfl) Kq85
theorem Km86 : MemE Try.prog Kgl 30 Kk86 Kv86 := mem_of Try.func30 (by kernel_rfl) (by kernel_rfl) (evM_ok Kmix glr Kctx (show MemOk Try.prog Kgl [] from mem_nil) 200) (by kernel_rfl) Kq86
theorem Km87 : MemE Try.prog Kgl 11 Kk87 Kv87 := mem_of Try.func11 (by kernel_rfl) (by kernel_rfl) (evM_ok Kmix glr Kctx (show MemOk Try.prog Kgl [(15, [(Kk85, Kv85)]), (30, [(Kk86, Kv86)])] from (mo1 (me1 Km85 me0) (mo1 (me1 Km86 me0) mem_nil))) 200) (by kernel_rfl) Kq87
theorem Km88 : MemE Try.prog Kgl 36 Kk88 Kv88 := mem_of Try.func36 (by kernel_rfl) (by kernel_rfl) (evM_ok Kmix glr Kctx (show MemOk Try.prog Kgl [] from mem_nil) 200) (by kernel_rfl) Kq88
theorem Km89 : MemE Try.prog Kgl 14 Kk89 Kv89 := mem_of Try.func14 (by kernel_rfl) (by kernel_rfl) (evM_ok Kmix glr Kctx (show MemOk Try.prog Kgl [(36, [(Kk88, Kv88)])] from (mo1 (me1 Km88 me0) mem_nil)) 200) (by kernel_rfl) Kq89
theorem Km90 : MemE Try.prog Kgl 5 Kk90 Kv90 := mem_of Try.func5 (by kernel_rfl) (by kernel_rfl) (evM_ok Kmix glr Kctx (show MemOk Try.prog Kgl [(12, [(Kk52, Kv52)]), (13, [(Kk81, Kv81)]), (11, [(Kk87, Kv87)]), (14, [(Kk89, Kv89)])] from (mo1 (me1 Km52 me0) (mo1 (me1 Km81 me0) (mo1 (me1 Km87 me0) (mo1 (me1 Km89 me0) mem_nil))))) 200) (by kernel_rfl) Kq90
theorem Km91 : MemE Try.prog Kgl 13 Kk91 Kv91 := mem_of Try.func13 (by kernel_rfl) (by kernel_rfl) (evM_ok Kmix glr Kctx (show MemOk Try.prog Kgl [(12, [(Kk64, Kv64)]), (11, [(Kk67, Kv67)])] from (mo1 (me1 Km64 me0) (mo1 (me1 Km67 me0) mem_nil))) 200) (by kernel_rfl) Kq91
theorem Km92 : MemE Try.prog Kgl 15 Kk92 Kv92 := mem_of Try.func15 (by kernel_rfl) (by kernel_rfl) (evM_ok Kmix glr Kctx (show MemOk Try.prog Kgl [(12, [(Kk64, Kv64)])] from (mo1 (me1 Km64 me0) mem_nil)) 200) (by kernel_rfl) Kq92
theorem Km93 : MemE Try.prog Kgl 30 Kk93 Kv93 := mem_of Try.func30 (by kernel_rfl) (by kernel_rfl) (evM_ok Kmix glr Kctx (show MemOk Try.prog Kgl [] from mem_nil) 200) (by kernel_rfl) Kq93
theorem Km94 : MemE Try.prog Kgl 11 Kk94 Kv94 := mem_of Try.func11 (by kernel_rfl) (by kernel_rfl) (evM_ok Kmix glr Kctx (show MemOk Try.prog Kgl [(15, [(Kk92, Kv92)]), (30, [(Kk93, Kv93)])] from (mo1 (me1 Km92 me0) (mo1 (me1 Km93 me0) mem_nil))) 200) (by kernel_rfl) Kq94
theorem Km95 : MemE Try.prog Kgl 36 Kk95 Kv95 := mem_of Try.func36 (by kernel_rfl) (by kernel_rfl) (evM_ok Kmix glr Kctx (show MemOk Try.prog Kgl [] from mem_nil) 200) (by kernel_rfl) Kq95
theorem Km96 : MemE Try.prog Kgl 14 Kk96 Kv96 := mem_of Try.func14 (by kernel_rfl) (by kernel_rfl) (evM_ok Kmix glr Kctx (show MemOk Try.prog Kgl [(36, [(Kk95, Kv95)])] from (mo1 (me1 Km95 me0) mem_nil)) 200) (by kernel_rfl) Kq96
theorem Km97 : MemE Try.prog Kgl 5 Kk97 Kv97 := mem_of Try.func5 (by kernel_rfl) (by kernel_rfl) (evM_ok Kmix glr Kctx (show MemOk Try.prog Kgl [(12, [(Kk64, Kv64)]), (13, [(Kk91, Kv91)]), (11, [(Kk94, Kv94)]), (14, [(Kk96, Kv96)])] from (mo1 (me1 Km64 me0) (mo1 (me1 Km91 me0) (mo1 (me1 Km94 me0) (mo1 (me1 Km96 me0) mem_nil))))) 200) (by kernel_rfl) Kq97
theorem Km98 : MemE Try.prog Kgl 6 Kk98 Kv98 := mem_of Try.func6 (by kernel_rfl) (by kernel_rfl) (evM_ok Kmix glr Kctx (show MemOk Try.prog Kgl [(15, [(Kk56, Kv56)])] from (mo1 (me1 Km56 me0) mem_nil)) 200) (by kernel_rfl) Kq98
theorem Km99 : MemE Try.prog Kgl 4 Kk99 Kv99 := mem_of Try.func4 (by kernel_rfl) (by kernel_rfl) (evM_ok Kmix glr Kctx (show MemOk Try.prog Kgl [(9, [(Kk44, Kv44)])] from (mo1 (me1 Km44 me0) mem_nil)) 200) (by kernel_rfl) Kq99
theorem Km100 : MemE Try.prog Kgl 7 Kk100 Kv100 := mem_of Try.func7 (by kernel_rfl) (by kernel_rfl) (evM_ok Kmix glr Kctx (show MemOk Try.prog Kgl [(12, [(Kk52, Kv52), (Kk64, Kv64)]), (11, [(Kk55, Kv55), (Kk67, Kv67)]), (15, [(Kk56, Kv56), (Kk65, Kv65)]), (26, [(Kk59, Kv59), (Kk60, Kv60), (Kk61, Kv61), (Kk71, Kv71), (Kk72, Kv72), (Kk73, Kv73), (Kk74, Kv74), (Kk78, Kv78), (Kk79, Kv79), (Kk80, Kv80)]), (5, [(Kk84, Kv84), (Kk90, Kv90), (Kk97, Kv97)]), (6, [(Kk98, Kv98)]), (4, [(Kk99, Kv99)])] from (mo1 (me1 Km52 (me1 Km64 me0)) (mo1 (me1 Km55 (me1 Km67 me0)) (mo1 (me1 Km56 (me1 Km65 me0)) (mo1 (me1 Km59 (me1 Km60 (me1 Km61 (me1 Km71 (me1 Km72 (me1 Km73 (me1 Km74 (me1 Km78 (me1 Km79 (me1 Km80 me0)))))))))) (mo1 (me1 Km84 (me1 Km90 (me1 Km97 me0))) (mo1 (me1 Km98 me0) (mo1 (me1 Km99 me0) mem_nil)))))))) 200) (by kernel_rfl) Kq100
theorem Km101 : MemE Try.prog Kgl 3 Kk101 Kv101 := mem_of Try.func3 (by kernel_rfl) (by kernel_rfl) (evM_ok Kmix glr Kctx (show MemOk Try.prog Kgl [(4, [(Kk6, Kv6)]), (12, [(Kk9, Kv9)]), (11, [(Kk12, Kv12)]), (26, [(Kk16, Kv16), (Kk17, Kv17), (Kk18, Kv18), (Kk19, Kv19), (Kk20, Kv20), (Kk21, Kv21), (Kk22, Kv22), (Kk23, Kv23), (Kk24, Kv24)]), (5, [(Kk31, Kv31), (Kk37, Kv37), (Kk40, Kv40), (Kk46, Kv46)]), (15, [(Kk47, Kv47)]), (6, [(Kk49, Kv49), (Kk50, Kv50)]), (7, [(Kk100, Kv100)])] from (mo1 (me1 Km6 me0) (mo1 (me1 Km9 me0) (mo1 (me1 Km12 me0) (mo1 (me1 Km16 (me1 Km17 (me1 Km18 (me1 Km19 (me1 Km20 (me1 Km21 (me1 Km22 (me1 Km23 (me1 Km24 me0))))))))) (mo1 (me1 Km31 (me1 Km37 (me1 Km40 (me1 Km46 me0)))) (mo1 (me1 Km47 me0) (mo1 (me1 Km49 (me1 Km50 me0)) (mo1 (me1 Km100 me0) mem_nil))))))))) 200) (by kernel_rfl) Kq101
theorem walk (w : World) (hg : GlW Kgl w) : Calls Try.prog 3 #[] w fun e w' => e = .returned (.bool true) ∧ Grown w w' :=
  memE_calls Km101 w hg
/-! ### THE ROW's STEP: WRITTEN OUT: LEAVE IT -/
set_option maxRecDepth 100000 in
theorem lifted (os : Os) (started : os.Started) (H : Type) (enc : TypeId × Value → H) :
    ReturnsInHanded {} Try.checked os 3 .any (Rows.policyKnownSpec.pre6 enc Try.prog Try.f3 Rows.policyKnownRow.domain false) (Rows.policyKnownSpec.post enc Try.prog Try.f3 false true false false) := by
  refine returnsInHanded_of_change (C := Try.checked) own started (by kernel_rfl) Try.func3
    (ChangeSpec.witness6 (enc := enc) (C := Try.checked) false ⟨#[], #[], []⟩ 8 (by kernel_rfl) (by kernel_rfl) (by kernel_rfl) (by kernel_rfl)) ?_
  intro W base args ds gs before hval0 hW hcnd _
  have hval : ∀ (j : Nat) t v, Try.f3.params[j]? = some t → args[j]? = some v → Value.okWide Try.prog W .any base t v := hval0
  have hW' := hW
  obtain ⟨p, q, hA0, hV, rfl, hfz, hnd⟩ := hW
  have hA : DataW.TrodAll enc Try.prog W 0 (fun _ => true) true Try.f3.params.toList args.toList ds p := hA0
  rw [Try.params3] at hA hval
  obtain ⟨rfl, rfl, rfl⟩ := trodAll_none hA
  obtain ⟨rfl, rfl⟩ := trodVars_none hV
  clear hA0 hval0
  simp only [List.append_nil] at hW'
  refine (walk W (glT_w [] fa0)).mono fun e W' ⟨he, hg⟩ => ?_
  subst he
  exact ⟨_, rfl, post_of_same (pa := []) (pv := []) hW' (fun _ _ _ => (trodAll_cons_mk (shut_bool Try.underlying4 _) trodAll_mk0)) (fun sp _ => rfl) (fun _ _ => rfl) rfl
    (hg.frame _) hg.2.1 (ok_one (by kernel_rfl) rfl (okWide_bool_mk Try.underlying4 _))⟩

theorem over : Rows.policyKnownRow.holds Try.pinned (OpenSpec.ofChange Rows.policyKnownSpec) :=
  OpenClaim.holds_of_wide 3 Try.f3 rfl rfl rfl rfl rfl rfl rfl ⟨rfl, rfl, rfl, rfl, rfl⟩ rfl rfl rfl rfl rfl (by kernel_rfl) Try.func3 (by kernel_rfl)
    (of_decide_eq_true (by kernel_rfl)) (by unfold Func.isWrapper; first | (rw [if_pos (by decide +kernel)]; kernel_rfl) | (rw [if_neg (by decide +kernel)]; exact ⟨rfl, rfl⟩))
    (fun os started H enc _ => lifted os started H enc)

/-- The statement. -/
theorem proved : Rows.PolicyKnownSaid :=
  over
#print axioms proved
end Go.Proofs.Ytpkngodkcopjbaa.policyKnown
