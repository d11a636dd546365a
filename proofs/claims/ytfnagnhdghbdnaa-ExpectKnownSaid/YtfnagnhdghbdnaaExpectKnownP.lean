/-
  'ExpectKnown' returns true (a closed law: it takes no input).
  Proved by a machine of this claim's own (texts Hx..): its run of the law, worked out by the kernel, is the model's call (evM_ok, memE_calls). No condition.
-/
import Derived.Test.YtfnagnhdghbdnaaExpectKnownF
import Derived.Test.YtfnagnhdghbdnaaExpectKnownQ0
import Derived.Test.YtfnagnhdghbdnaaExpectKnownQ1
import Derived.Test.YtfnagnhdghbdnaaExpectKnownQ2
import Derived.Test.YtfnagnhdghbdnaaExpectKnownQ3
import Derived.Test.YtfnagnhdghbdnaaExpectKnownQ4
import Derived.Test.YtfnagnhdghbdnaaExpectKnownQ5
import Derived.WalkKit
import Derived.ProofKit
import Derived.OpenShut
namespace Go.Proofs.Ytfnagnhdghbdnaa.expectKnown
open Hx Go
set_option maxRecDepth 100000
open Go.ChangeShapes Go.WideShapes Go.ChangeAt Go.RowKit
theorem own : ownKnob Try.prog.godebug = none := by kernel_rfl
theorem glr : GlR Kgl := glT_r _
theorem mo1 {Pr : Program} {gl : Nat → Option (List AV)} {f : Nat} {l : List (List AV × AV)} {t : Mem} (h : ∀ y ∈ l, MemE Pr gl f y.1 y.2) (ht : MemOk Pr gl t) : MemOk Pr gl ((f, l) :: t) := fun x hx => (List.mem_cons.1 hx).elim (fun e => by subst e; exact h) (ht x)
theorem me0 {Pr : Program} {gl : Nat → Option (List AV)} {f : Nat} : ∀ y ∈ ([] : List (List AV × AV)), MemE Pr gl f y.1 y.2 := fun y h => by cases h
theorem me1 {Pr : Program} {gl : Nat → Option (List AV)} {f : Nat} {k : List AV} {v : AV} {l : List (List AV × AV)} (h : MemE Pr gl f k v) (hl : ∀ y ∈ l, MemE Pr gl f y.1 y.2) : ∀ y ∈ (k, v) :: l, MemE Pr gl f y.1 y.2 := fun y hy => (List.mem_cons.1 hy).elim (fun e => by subst e; exact h) (hl y)
theorem Km0 : MemE Try.prog Kgl 24 Kk0 Kv0 := mem_of Try.func24 (by kernel_rfl) (by kernel_rfl) (evM_ok Kmix glr Kctx (show MemOk Try.prog Kgl [] from mem_nil) 200) (by kernel_rfl) Kq0
theorem Km1 : MemE Try.prog Kgl 12 Kk1 Kv1 := mem_of Try.func12 (by kernel_rfl) (by kernel_rfl) (evM_ok Kmix glr Kctx (show MemOk Try.prog Kgl [(24, [(Kk0, Kv0)])] from (mo1 (me1 Km0 me0) mem_nil)) 200) (by kernel_rfl) Kq1
theorem Km2 : MemE Try.prog Kgl 28 Kk2 Kv2 := mem_of Try.func28 (by kernel_rfl) (by kernel_rfl) (evM_ok Kmix glr Kctx (show MemOk Try.prog Kgl [] from mem_nil) 200) (by kernel_rfl) Kq2
theorem Km3 : MemE Try.prog Kgl 13 Kk3 Kv3 := mem_of Try.func13 (by kernel_rfl) (by kernel_rfl) (evM_ok Kmix glr Kctx (show MemOk Try.prog Kgl [(28, [(Kk2, Kv2)])] from (mo1 (me1 Km2 me0) mem_nil)) 200) (by kernel_rfl) Kq3
theorem Km4 : MemE Try.prog Kgl 24 Kk4 Kv4 := mem_of Try.func24 (by kernel_rfl) (by kernel_rfl) (evM_ok Kmix glr Kctx (show MemOk Try.prog Kgl [] from mem_nil) 200) (by kernel_rfl) Kq4
theorem Km5 : MemE Try.prog Kgl 12 Kk5 Kv5 := mem_of Try.func12 (by kernel_rfl) (by kernel_rfl) (evM_ok Kmix glr Kctx (show MemOk Try.prog Kgl [(24, [(Kk0, Kv0), (Kk4, Kv4)])] from (mo1 (me1 Km0 (me1 Km4 me0)) mem_nil)) 200) (by kernel_rfl) Kq5
theorem Km6 : MemE Try.prog Kgl 28 Kk6 Kv6 := mem_of Try.func28 (by kernel_rfl) (by kernel_rfl) (evM_ok Kmix glr Kctx (show MemOk Try.prog Kgl [] from mem_nil) 200) (by kernel_rfl) Kq6
theorem Km7 : MemE Try.prog Kgl 7 Kk7 Kv7 := mem_of Try.func7 (by kernel_rfl) (by kernel_rfl) (evM_ok Kmix glr Kctx (show MemOk Try.prog Kgl [(28, [(Kk2, Kv2), (Kk6, Kv6)]), (12, [(Kk5, Kv5)])] from (mo1 (me1 Km2 (me1 Km6 me0)) (mo1 (me1 Km5 me0) mem_nil))) 200) (by kernel_rfl) Kq7
theorem Km8 : MemE Try.prog Kgl 24 Kk8 Kv8 := mem_of Try.func24 (by kernel_rfl) (by kernel_rfl) (evM_ok Kmix glr Kctx (show MemOk Try.prog Kgl [] from mem_nil) 200) (by kernel_rfl) Kq8
theorem Km9 : MemE Try.prog Kgl 24 Kk9 Kv9 := mem_of Try.func24 (by kernel_rfl) (by kernel_rfl) (evM_ok Kmix glr Kctx (show MemOk Try.prog Kgl [] from mem_nil) 200) (by kernel_rfl) Kq9
theorem Km10 : MemE Try.prog Kgl 25 Kk10 Kv10 := mem_of Try.func25 (by kernel_rfl) (by kernel_rfl) (evM_ok Kmix glr Kctx (show MemOk Try.prog Kgl [] from mem_nil) 200) (by kernel_rfl) Kq10
theorem Km11 : MemE Try.prog Kgl 12 Kk11 Kv11 := mem_of Try.func12 (by kernel_rfl) (by kernel_rfl) (evM_ok Kmix glr Kctx (show MemOk Try.prog Kgl [(24, [(Kk8, Kv8), (Kk9, Kv9)]), (25, [(Kk10, Kv10)])] from (mo1 (me1 Km8 (me1 Km9 me0)) (mo1 (me1 Km10 me0) mem_nil))) 200) (by kernel_rfl) Kq11
theorem Km12 : MemE Try.prog Kgl 13 Kk12 Kv12 := mem_of Try.func13 (by kernel_rfl) (by kernel_rfl) (evM_ok Kmix glr Kctx (show MemOk Try.prog Kgl [] from mem_nil) 200) (by kernel_rfl) Kq12
theorem Km13 : MemE Try.prog Kgl 8 Kk13 Kv13 := mem_of Try.func8 (by kernel_rfl) (by kernel_rfl) (evM_ok Kmix glr Kctx (show MemOk Try.prog Kgl [(12, [(Kk11, Kv11)]), (13, [(Kk12, Kv12)])] from (mo1 (me1 Km11 me0) (mo1 (me1 Km12 me0) mem_nil))) 200) (by kernel_rfl) Kq13
theorem Km14 : MemE Try.prog Kgl 12 Kk14 Kv14 := mem_of Try.func12 (by kernel_rfl) (by kernel_rfl) (evM_ok Kmix glr Kctx (show MemOk Try.prog Kgl [(24, [(Kk8, Kv8), (Kk9, Kv9)]), (25, [(Kk10, Kv10)])] from (mo1 (me1 Km8 (me1 Km9 me0)) (mo1 (me1 Km10 me0) mem_nil))) 200) (by kernel_rfl) Kq14
theorem Km15 : MemE Try.prog Kgl 13 Kk15 Kv15 := mem_of Try.func13 (by kernel_rfl) (by kernel_rfl) (evM_ok Kmix glr Kctx (show MemOk Try.prog Kgl [] from mem_nil) 200) (by kernel_rfl) Kq15
theorem Km16 : MemE Try.prog Kgl 8 Kk16 Kv16 := mem_of Try.func8 (by kernel_rfl) (by kernel_rfl) (evM_ok Kmix glr Kctx (show MemOk Try.prog Kgl [(12, [(Kk14, Kv14)]), (13, [(Kk15, Kv15)])] from (mo1 (me1 Km14 me0) (mo1 (me1 Km15 me0) mem_nil))) 200) (by kernel_rfl) Kq16
theorem Km17 : MemE Try.prog Kgl 24 Kk17 Kv17 := mem_of Try.func24 (by kernel_rfl) (by kernel_rfl) (evM_ok Kmix glr Kctx (show MemOk Try.prog Kgl [] from mem_nil) 200) (by kernel_rfl) Kq17
theorem Km18 : MemE Try.prog Kgl 12 Kk18 Kv18 := mem_of Try.func12 (by kernel_rfl) (by kernel_rfl) (evM_ok Kmix glr Kctx (show MemOk Try.prog Kgl [(24, [(Kk9, Kv9), (Kk17, Kv17)]), (25, [(Kk10, Kv10)])] from (mo1 (me1 Km9 (me1 Km17 me0)) (mo1 (me1 Km10 me0) mem_nil))) 200) (by kernel_rfl) Kq18
theorem Km19 : MemE Try.prog Kgl 8 Kk19 Kv19 := mem_of Try.func8 (by kernel_rfl) (by kernel_rfl) (evM_ok Kmix glr Kctx (show MemOk Try.prog Kgl [(12, [(Kk18, Kv18)])] from (mo1 (me1 Km18 me0) mem_nil)) 200) (by kernel_rfl) Kq19
theorem Km20 : MemE Try.prog Kgl 12 Kk20 Kv20 := mem_of Try.func12 (by kernel_rfl) (by kernel_rfl) (evM_ok Kmix glr Kctx (show MemOk Try.prog Kgl [(24, [(Kk9, Kv9), (Kk17, Kv17)]), (25, [(Kk10, Kv10)])] from (mo1 (me1 Km9 (me1 Km17 me0)) (mo1 (me1 Km10 me0) mem_nil))) 200) (by kernel_rfl) Kq20
theorem Km21 : MemE Try.prog Kgl 8 Kk21 Kv21 := mem_of Try.func8 (by kernel_rfl) (by kernel_rfl) (evM_ok Kmix glr Kctx (show MemOk Try.prog Kgl [(13, [(Kk15, Kv15)]), (12, [(Kk20, Kv20)])] from (mo1 (me1 Km15 me0) (mo1 (me1 Km20 me0) mem_nil))) 200) (by kernel_rfl) Kq21
theorem Km22 : MemE Try.prog Kgl 12 Kk22 Kv22 := mem_of Try.func12 (by kernel_rfl) (by kernel_rfl) (evM_ok Kmix glr Kctx (show MemOk Try.prog Kgl [(24, [(Kk8, Kv8), (Kk17, Kv17)]), (25, [(Kk10, Kv10)])] from (mo1 (me1 Km8 (me1 Km17 me0)) (mo1 (me1 Km10 me0) mem_nil))) 200) (by kernel_rfl) Kq22
theorem Km23 : MemE Try.prog Kgl 7 Kk23 Kv23 := mem_of Try.func7 (by kernel_rfl) (by kernel_rfl) (evM_ok Kmix glr Kctx (show MemOk Try.prog Kgl [(12, [(Kk22, Kv22)])] from (mo1 (me1 Km22 me0) mem_nil)) 200) (by kernel_rfl) Kq23
theorem Km24 : MemE Try.prog Kgl 12 Kk24 Kv24 := mem_of Try.func12 (by kernel_rfl) (by kernel_rfl) (evM_ok Kmix glr Kctx (show MemOk Try.prog Kgl [(24, [(Kk0, Kv0)])] from (mo1 (me1 Km0 me0) mem_nil)) 200) (by kernel_rfl) Kq24
theorem Km25 : MemE Try.prog Kgl 12 Kk25 Kv25 := mem_of Try.func12 (by kernel_rfl) (by kernel_rfl) (evM_ok Kmix glr Kctx (show MemOk Try.prog Kgl [(24, [(Kk0, Kv0)])] from (mo1 (me1 Km0 me0) mem_nil)) 200) (by kernel_rfl) Kq25
theorem Km26 : MemE Try.prog Kgl 5 Kk26 Kv26 := mem_of Try.func5 (by kernel_rfl) (by kernel_rfl) (evM_ok Kmix glr Kctx (show MemOk Try.prog Kgl [(12, [(Kk25, Kv25)])] from (mo1 (me1 Km25 me0) mem_nil)) 200) (by kernel_rfl) Kq26
theorem Km27 : MemE Try.prog Kgl 12 Kk27 Kv27 := mem_of Try.func12 (by kernel_rfl) (by kernel_rfl) (evM_ok Kmix glr Kctx (show MemOk Try.prog Kgl [(24, [(Kk0, Kv0)]), (25, [(Kk10, Kv10)])] from (mo1 (me1 Km0 me0) (mo1 (me1 Km10 me0) mem_nil))) 200) (by kernel_rfl) Kq27
theorem Km28 : MemE Try.prog Kgl 5 Kk28 Kv28 := mem_of Try.func5 (by kernel_rfl) (by kernel_rfl) (evM_ok Kmix glr Kctx (show MemOk Try.prog Kgl [(12, [(Kk27, Kv27)])] from (mo1 (me1 Km27 me0) mem_nil)) 200) (by kernel_rfl) Kq28
theorem Km29 : MemE Try.prog Kgl 12 Kk29 Kv29 := mem_of Try.func12 (by kernel_rfl) (by kernel_rfl) (evM_ok Kmix glr Kctx (show MemOk Try.prog Kgl [(24, [(Kk0, Kv0)])] from (mo1 (me1 Km0 me0) mem_nil)) 200) (by kernel_rfl) Kq29
theorem Km30 : MemE Try.prog Kgl 7 Kk30 Kv30 := mem_of Try.func7 (by kernel_rfl) (by kernel_rfl) (evM_ok Kmix glr Kctx (show MemOk Try.prog Kgl [(12, [(Kk29, Kv29)])] from (mo1 (me1 Km29 me0) mem_nil)) 200) (by kernel_rfl) Kq30
theorem Km31 : MemE Try.prog Kgl 12 Kk31 Kv31 := mem_of Try.func12 (by kernel_rfl) (by kernel_rfl) (evM_ok Kmix glr Kctx (show MemOk Try.prog Kgl [(24, [(Kk0, Kv0), (Kk9, Kv9)])] from (mo1 (me1 Km0 (me1 Km9 me0)) mem_nil)) 200) (by kernel_rfl) Kq31
theorem Km32 : MemE Try.prog Kgl 7 Kk32 Kv32 := mem_of Try.func7 (by kernel_rfl) (by kernel_rfl) (evM_ok Kmix glr Kctx (show MemOk Try.prog Kgl [(12, [(Kk31, Kv31)])] from (mo1 (me1 Km31 me0) mem_nil)) 200) (by kernel_rfl) Kq32
theorem Km33 : MemE Try.prog Kgl 12 Kk33 Kv33 := mem_of Try.func12 (by kernel_rfl) (by kernel_rfl) (evM_ok Kmix glr Kctx (show MemOk Try.prog Kgl [(25, [(Kk10, Kv10)]), (24, [(Kk17, Kv17)])] from (mo1 (me1 Km10 me0) (mo1 (me1 Km17 me0) mem_nil))) 200) (by kernel_rfl) Kq33
theorem Km34 : MemE Try.prog Kgl 5 Kk34 Kv34 := mem_of Try.func5 (by kernel_rfl) (by kernel_rfl) (evM_ok Kmix glr Kctx (show MemOk Try.prog Kgl [(12, [(Kk33, Kv33)])] from (mo1 (me1 Km33 me0) mem_nil)) 200) (by kernel_rfl) Kq34
theorem Km35 : MemE Try.prog Kgl 6 Kk35 Kv35 := mem_of Try.func6 (by kernel_rfl) (by kernel_rfl) (evM_ok Kmix glr Kctx (show MemOk Try.prog Kgl [(12, [(Kk1, Kv1)])] from (mo1 (me1 Km1 me0) mem_nil)) 200) (by kernel_rfl) Kq35
theorem Km36 : MemE Try.prog Kgl 12 Kk36 Kv36 := mem_of Try.func12 (by kernel_rfl) (by kernel_rfl) (evM_ok Kmix glr Kctx (show MemOk Try.prog Kgl [(24, [(Kk0, Kv0)])] from (mo1 (me1 Km0 me0) mem_nil)) 200) (by kernel_rfl) Kq36
theorem Km37 : MemE Try.prog Kgl 13 Kk37 Kv37 := mem_of Try.func13 (by kernel_rfl) (by kernel_rfl) (evM_ok Kmix glr Kctx (show MemOk Try.prog Kgl [] from mem_nil) 200) (by kernel_rfl) Kq37
theorem Km38 : MemE Try.prog Kgl 24 Kk38 Kv38 := mem_of Try.func24 (by kernel_rfl) (by kernel_rfl) (evM_ok Kmix glr Kctx (show MemOk Try.prog Kgl [] from mem_nil) 200) (by kernel_rfl) Kq38
theorem Km39 : MemE Try.prog Kgl 12 Kk39 Kv39 := mem_of Try.func12 (by kernel_rfl) (by kernel_rfl) (evM_ok Kmix glr Kctx (show MemOk Try.prog Kgl [(24, [(Kk0, Kv0), (Kk38, Kv38)])] from (mo1 (me1 Km0 (me1 Km38 me0)) mem_nil)) 200) (by kernel_rfl) Kq39
theorem Km40 : MemE Try.prog Kgl 7 Kk40 Kv40 := mem_of Try.func7 (by kernel_rfl) (by kernel_rfl) (evM_ok Kmix glr Kctx (show MemOk Try.prog Kgl [(12, [(Kk39, Kv39)])] from (mo1 (me1 Km39 me0) mem_nil)) 200) (by kernel_rfl) Kq40
theorem Km41 : MemE Try.prog Kgl 8 Kk41 Kv41 := mem_of Try.func8 (by kernel_rfl) (by kernel_rfl) (evM_ok Kmix glr Kctx (show MemOk Try.prog Kgl [(13, [(Kk37, Kv37)]), (12, [(Kk39, Kv39)])] from (mo1 (me1 Km37 me0) (mo1 (me1 Km39 me0) mem_nil))) 200) (by kernel_rfl) Kq41
theorem Km42 : MemE Try.prog Kgl 12 Kk42 Kv42 := mem_of Try.func12 (by kernel_rfl) (by kernel_rfl) (evM_ok Kmix glr Kctx (show MemOk Try.prog Kgl [(24, [(Kk0, Kv0)])] from (mo1 (me1 Km0 me0) mem_nil)) 200) (by kernel_rfl) Kq42
theorem Km43 : MemE Try.prog Kgl 5 Kk43 Kv43 := mem_of Try.func5 (by kernel_rfl) (by kernel_rfl) (evM_ok Kmix glr Kctx (show MemOk Try.prog Kgl [(12, [(Kk42, Kv42)])] from (mo1 (me1 Km42 me0) mem_nil)) 200) (by kernel_rfl) Kq43
theorem Km44 : MemE Try.prog Kgl 6 Kk44 Kv44 := mem_of Try.func6 (by kernel_rfl) (by kernel_rfl) (evM_ok Kmix glr Kctx (show MemOk Try.prog Kgl [(12, [(Kk36, Kv36)])] from (mo1 (me1 Km36 me0) mem_nil)) 200) (by kernel_rfl) Kq44
theorem Km45 : MemE Try.prog Kgl 5 Kk45 Kv45 := mem_of Try.func5 (by kernel_rfl) (by kernel_rfl) (evM_ok Kmix glr Kctx (show MemOk Try.prog Kgl [(12, [(Kk36, Kv36)])] from (mo1 (me1 Km36 me0) mem_nil)) 200) (by kernel_rfl) Kq45
theorem Km46 : MemE Try.prog Kgl 11 Kk46 Kv46 := mem_of Try.func11 (by kernel_rfl) (by kernel_rfl) (evM_ok Kmix glr Kctx (show MemOk Try.prog Kgl [(12, [(Kk36, Kv36)]), (13, [(Kk37, Kv37)]), (7, [(Kk40, Kv40)]), (8, [(Kk41, Kv41)]), (5, [(Kk43, Kv43), (Kk45, Kv45)]), (6, [(Kk44, Kv44)])] from (mo1 (me1 Km36 me0) (mo1 (me1 Km37 me0) (mo1 (me1 Km40 me0) (mo1 (me1 Km41 me0) (mo1 (me1 Km43 (me1 Km45 me0)) (mo1 (me1 Km44 me0) mem_nil))))))) 200) (by kernel_rfl) Kq46
theorem Km47 : MemE Try.prog Kgl 3 Kk47 Kv47 := mem_of Try.func3 (by kernel_rfl) (by kernel_rfl) (evM_ok Kmix glr Kctx (show MemOk Try.prog Kgl [(12, [(Kk1, Kv1), (Kk24, Kv24)]), (13, [(Kk3, Kv3)]), (7, [(Kk7, Kv7), (Kk23, Kv23), (Kk30, Kv30), (Kk32, Kv32)]), (8, [(Kk13, Kv13), (Kk16, Kv16), (Kk19, Kv19), (Kk21, Kv21)]), (5, [(Kk26, Kv26), (Kk28, Kv28), (Kk34, Kv34)]), (6, [(Kk35, Kv35)]), (11, [(Kk46, Kv46)])] from (mo1 (me1 Km1 (me1 Km24 me0)) (mo1 (me1 Km3 me0) (mo1 (me1 Km7 (me1 Km23 (me1 Km30 (me1 Km32 me0)))) (mo1 (me1 Km13 (me1 Km16 (me1 Km19 (me1 Km21 me0)))) (mo1 (me1 Km26 (me1 Km28 (me1 Km34 me0))) (mo1 (me1 Km35 me0) (mo1 (me1 Km46 me0) mem_nil)))))))) 200) (by kernel_rfl) Kq47
theorem walk (w : World) (hg : GlW Kgl w) : Calls Try.prog 3 #[] w fun e w' => e = .returned (.bool true) ∧ Grown w w' :=
  memE_calls Km47 w hg
/-! ### THE ROW's STEP: WRITTEN OUT: LEAVE IT -/
set_option maxRecDepth 100000 in
theorem lifted (os : Os) (started : os.Started) (H : Type) (enc : TypeId × Value → H) :
    ReturnsInHanded {} Try.checked os 3 .any (Rows.expectKnownSpec.pre6 enc Try.prog Try.f3 Rows.expectKnownRow.domain false) (Rows.expectKnownSpec.post enc Try.prog Try.f3 false true false false) := by
  refine returnsInHanded_of_change (C := Try.checked) own started (by kernel_rfl) Try.func3
    (ChangeSpec.witness6 (enc := enc) (C := Try.checked) false ⟨#[], #[], []⟩ 8 (by kernel_rfl) (by kernel_rfl) (by kernel_rfl) (by kernel_rfl)) ?_
  intro W base args ds gs before hval0 hW hcnd _
  have hval : ∀ (j : Nat) t v, Try.f3.params[j]? = some t → args[j]? = some v → Value.okWide Try.prog W .any base t v := hval0
  have hW' := hW
  obtain ⟨p, q, hA0, hV, rfl, hfz, hnd⟩ := hW
  have hA : DataW.TrodAll enc Try.prog W 0 (fun _ => true) true Try.f3.params.toList args.toList ds p := hA0
  rw [Try.params3] at hA hval
  obtain ⟨rfl, rfl, rfl⟩ := trodAll_none hA
  obtain ⟨rfl, rfl⟩ := trodVars_none hV
  clear hA0 hval0
  simp only [List.append_nil] at hW'
  refine (walk W (glT_w [] fa0)).mono fun e W' ⟨he, hg⟩ => ?_
  subst he
  exact ⟨_, rfl, post_of_same (pa := []) (pv := []) hW' (fun _ _ _ => (trodAll_cons_mk (shut_bool Try.underlying4 _) trodAll_mk0)) (fun sp _ => rfl) (fun _ _ => rfl) rfl
    (hg.frame _) hg.2.1 (ok_one (by kernel_rfl) rfl (okWide_bool_mk Try.underlying4 _))⟩

theorem over : Rows.expectKnownRow.holds Try.pinned (OpenSpec.ofChange Rows.expectKnownSpec) :=
  OpenClaim.holds_of_wide 3 Try.f3 rfl rfl rfl rfl rfl rfl rfl ⟨rfl, rfl, rfl, rfl, rfl⟩ rfl rfl rfl rfl rfl (by kernel_rfl) Try.func3 (by kernel_rfl)
    (of_decide_eq_true (by kernel_rfl)) (by unfold Func.isWrapper; first | (rw [if_pos (by decide +kernel)]; kernel_rfl) | (rw [if_neg (by decide +kernel)]; exact ⟨rfl, rfl⟩))
    (fun os started H enc _ => lifted os started H enc)

/-- The statement. -/
theorem proved : Rows.ExpectKnownSaid :=
  over
#print axioms proved
end Go.Proofs.Ytfnagnhdghbdnaa.expectKnown
