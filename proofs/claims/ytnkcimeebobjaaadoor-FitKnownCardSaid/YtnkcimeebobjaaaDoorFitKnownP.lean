/-
  'FitKnown' returns true (a closed law: it takes no input).
  Proved by a machine of this claim's own (texts Hx..): its run of the law, worked out by the kernel, is the model's call (evM_ok, memE_calls). The tables that it reads are tied to the program text by the given card.
-/
import Derived.Test.YtnkcimeebobjaaaDoorFitKnownF
import Derived.Test.YtnkcimeebobjaaaDoorFitKnownO1
import Derived.Test.YtnkcimeebobjaaaDoorFitKnownQ0
import Derived.Test.YtnkcimeebobjaaaDoorCards
import Derived.Test.YtnkcimeebobjaaaDoorTie
import Derived.WalkKit
import Derived.ProofKit
import Derived.OpenShut
import Derived.Deep.DeepHandedRow
import Derived.Lib.LaidTab
import Derived.LaidSub
import Derived.MakeChecks
namespace Go.Proofs.YtnkcimeebobjaaaDoor.fitKnown
open Hx Go
set_option maxRecDepth 100000
open Go.ChangeShapes Go.WideShapes Go.ChangeAt Go.RowKit
theorem own : ownKnob Tryd.prog.godebug = none := by kernel_rfl
theorem glr : GlR Kgl := glT_r _
theorem mo1 {Pr : Program} {gl : Nat → Option (List AV)} {f : Nat} {l : List (List AV × AV)} {t : Mem} (h : ∀ y ∈ l, MemE Pr gl f y.1 y.2) (ht : MemOk Pr gl t) : MemOk Pr gl ((f, l) :: t) := fun x hx => (List.mem_cons.1 hx).elim (fun e => by subst e; exact h) (ht x)
theorem me0 {Pr : Program} {gl : Nat → Option (List AV)} {f : Nat} : ∀ y ∈ ([] : List (List AV × AV)), MemE Pr gl f y.1 y.2 := fun y h => by cases h
theorem me1 {Pr : Program} {gl : Nat → Option (List AV)} {f : Nat} {k : List AV} {v : AV} {l : List (List AV × AV)} (h : MemE Pr gl f k v) (hl : ∀ y ∈ l, MemE Pr gl f y.1 y.2) : ∀ y ∈ (k, v) :: l, MemE Pr gl f y.1 y.2 := fun y hy => (List.mem_cons.1 hy).elim (fun e => by subst e; exact h) (hl y)
/-- the call on the greatest list, by the walk of Round -/
theorem ext0 : MemE Tryd.prog Kgl 10 Kk0 Kv0 := by
  rw [show Kk0 = [.isl (bigL.map (.int .i64 ·)) 1024, .int .i64 720, .int .i64 0] by kernel_rfl, show Kv0 = .tup [.isl (bigS.map (.int .i64 ·)) 1024, .int .i64 0] by kernel_rfl]
  exact memE_ofF Tryd.func10 (by kernel_rfl) (by kernel_rfl) Kmix glr Kctx mem_nil (big_ok (isEv_evM KC Kt))
theorem Km0 : MemE Tryd.prog Kgl 10 Kk0 Kv0 := ext0
theorem Km1 : MemE Tryd.prog Kgl 51 Kk1 Kv1 := mem_of Tryd.func51 (by kernel_rfl) (by kernel_rfl) (evM_ok Kmix glr Kctx (show MemOk Tryd.prog Kgl [] from mem_nil) 200) (by kernel_rfl) Kq1
theorem Km2 : MemE Tryd.prog Kgl 51 Kk2 Kv2 := mem_of Tryd.func51 (by kernel_rfl) (by kernel_rfl) (evM_ok Kmix glr Kctx (show MemOk Tryd.prog Kgl [] from mem_nil) 200) (by kernel_rfl) Kq2
theorem Km3 : MemE Tryd.prog Kgl 19 Kk3 Kv3 := mem_of Tryd.func19 (by kernel_rfl) (by kernel_rfl) (evM_ok Kmix glr Kctx (show MemOk Tryd.prog Kgl [(51, [(Kk2, Kv2)])] from (mo1 (me1 Km2 me0) mem_nil)) 200) (by kernel_rfl) Kq3
theorem Km4 : MemE Tryd.prog Kgl 19 Kk4 Kv4 := mem_of Tryd.func19 (by kernel_rfl) (by kernel_rfl) (evM_ok Kmix glr Kctx (show MemOk Tryd.prog Kgl [(51, [(Kk2, Kv2)])] from (mo1 (me1 Km2 me0) mem_nil)) 200) (by kernel_rfl) Kq4
theorem Km5 : MemE Tryd.prog Kgl 19 Kk5 Kv5 := mem_of Tryd.func19 (by kernel_rfl) (by kernel_rfl) (evM_ok Kmix glr Kctx (show MemOk Tryd.prog Kgl [(51, [(Kk2, Kv2)])] from (mo1 (me1 Km2 me0) mem_nil)) 200) (by kernel_rfl) Kq5
theorem Km6 : MemE Tryd.prog Kgl 84 Kk6 Kv6 := mem_of Tryd.func84 (by kernel_rfl) (by kernel_rfl) (evM_ok Kmix glr Kctx (show MemOk Tryd.prog Kgl [] from mem_nil) 200) (by kernel_rfl) Kq6
theorem Km7 : MemE Tryd.prog Kgl 65 Kk7 Kv7 := mem_of Tryd.func65 (by kernel_rfl) (by kernel_rfl) (evM_ok Kmix glr Kctx (show MemOk Tryd.prog Kgl [(84, [(Kk6, Kv6)])] from (mo1 (me1 Km6 me0) mem_nil)) 200) (by kernel_rfl) Kq7
theorem Km8 : MemE Tryd.prog Kgl 30 Kk8 Kv8 := mem_of Tryd.func30 (by kernel_rfl) (by kernel_rfl) (evM_ok Kmix glr Kctx (show MemOk Tryd.prog Kgl [(65, [(Kk7, Kv7)])] from (mo1 (me1 Km7 me0) mem_nil)) 200) (by kernel_rfl) Kq8
theorem Km9 : MemE Tryd.prog Kgl 65 Kk9 Kv9 := mem_of Tryd.func65 (by kernel_rfl) (by kernel_rfl) (evM_ok Kmix glr Kctx (show MemOk Tryd.prog Kgl [(84, [(Kk6, Kv6)])] from (mo1 (me1 Km6 me0) mem_nil)) 200) (by kernel_rfl) Kq9
theorem Km10 : MemE Tryd.prog Kgl 30 Kk10 Kv10 := mem_of Tryd.func30 (by kernel_rfl) (by kernel_rfl) (evM_ok Kmix glr Kctx (show MemOk Tryd.prog Kgl [(65, [(Kk9, Kv9)])] from (mo1 (me1 Km9 me0) mem_nil)) 200) (by kernel_rfl) Kq10
theorem Km11 : MemE Tryd.prog Kgl 65 Kk11 Kv11 := mem_of Tryd.func65 (by kernel_rfl) (by kernel_rfl) (evM_ok Kmix glr Kctx (show MemOk Tryd.prog Kgl [(84, [(Kk6, Kv6)])] from (mo1 (me1 Km6 me0) mem_nil)) 200) (by kernel_rfl) Kq11
theorem Km12 : MemE Tryd.prog Kgl 30 Kk12 Kv12 := mem_of Tryd.func30 (by kernel_rfl) (by kernel_rfl) (evM_ok Kmix glr Kctx (show MemOk Tryd.prog Kgl [(65, [(Kk11, Kv11)])] from (mo1 (me1 Km11 me0) mem_nil)) 200) (by kernel_rfl) Kq12
theorem Km13 : MemE Tryd.prog Kgl 65 Kk13 Kv13 := mem_of Tryd.func65 (by kernel_rfl) (by kernel_rfl) (evM_ok Kmix glr Kctx (show MemOk Tryd.prog Kgl [(51, [(Kk1, Kv1)]), (84, [(Kk6, Kv6)])] from (mo1 (me1 Km1 me0) (mo1 (me1 Km6 me0) mem_nil))) 200) (by kernel_rfl) Kq13
theorem Km14 : MemE Tryd.prog Kgl 30 Kk14 Kv14 := mem_of Tryd.func30 (by kernel_rfl) (by kernel_rfl) (evM_ok Kmix glr Kctx (show MemOk Tryd.prog Kgl [(65, [(Kk13, Kv13)])] from (mo1 (me1 Km13 me0) mem_nil)) 200) (by kernel_rfl) Kq14
theorem Km15 : MemE Tryd.prog Kgl 65 Kk15 Kv15 := mem_of Tryd.func65 (by kernel_rfl) (by kernel_rfl) (evM_ok Kmix glr Kctx (show MemOk Tryd.prog Kgl [(84, [(Kk6, Kv6)])] from (mo1 (me1 Km6 me0) mem_nil)) 200) (by kernel_rfl) Kq15
theorem Km16 : MemE Tryd.prog Kgl 30 Kk16 Kv16 := mem_of Tryd.func30 (by kernel_rfl) (by kernel_rfl) (evM_ok Kmix glr Kctx (show MemOk Tryd.prog Kgl [(65, [(Kk15, Kv15)])] from (mo1 (me1 Km15 me0) mem_nil)) 200) (by kernel_rfl) Kq16
theorem Km17 : MemE Tryd.prog Kgl 65 Kk17 Kv17 := mem_of Tryd.func65 (by kernel_rfl) (by kernel_rfl) (evM_ok Kmix glr Kctx (show MemOk Tryd.prog Kgl [(51, [(Kk2, Kv2)]), (84, [(Kk6, Kv6)])] from (mo1 (me1 Km2 me0) (mo1 (me1 Km6 me0) mem_nil))) 200) (by kernel_rfl) Kq17
theorem Km18 : MemE Tryd.prog Kgl 30 Kk18 Kv18 := mem_of Tryd.func30 (by kernel_rfl) (by kernel_rfl) (evM_ok Kmix glr Kctx (show MemOk Tryd.prog Kgl [(65, [(Kk17, Kv17)])] from (mo1 (me1 Km17 me0) mem_nil)) 200) (by kernel_rfl) Kq18
theorem Km19 : MemE Tryd.prog Kgl 65 Kk19 Kv19 := mem_of Tryd.func65 (by kernel_rfl) (by kernel_rfl) (evM_ok Kmix glr Kctx (show MemOk Tryd.prog Kgl [(84, [(Kk6, Kv6)])] from (mo1 (me1 Km6 me0) mem_nil)) 200) (by kernel_rfl) Kq19
theorem Km20 : MemE Tryd.prog Kgl 30 Kk20 Kv20 := mem_of Tryd.func30 (by kernel_rfl) (by kernel_rfl) (evM_ok Kmix glr Kctx (show MemOk Tryd.prog Kgl [(65, [(Kk19, Kv19)])] from (mo1 (me1 Km19 me0) mem_nil)) 200) (by kernel_rfl) Kq20
theorem Km21 : MemE Tryd.prog Kgl 19 Kk21 Kv21 := mem_of Tryd.func19 (by kernel_rfl) (by kernel_rfl) (evM_ok Kmix glr Kctx (show MemOk Tryd.prog Kgl [(51, [(Kk2, Kv2)])] from (mo1 (me1 Km2 me0) mem_nil)) 200) (by kernel_rfl) Kq21
theorem Km22 : MemE Tryd.prog Kgl 19 Kk22 Kv22 := mem_of Tryd.func19 (by kernel_rfl) (by kernel_rfl) (evM_ok Kmix glr Kctx (show MemOk Tryd.prog Kgl [(51, [(Kk2, Kv2)])] from (mo1 (me1 Km2 me0) mem_nil)) 200) (by kernel_rfl) Kq22
theorem Km23 : MemE Tryd.prog Kgl 10 Kk23 Kv23 := mem_ofF Tryd.func10 (by kernel_rfl) (by kernel_rfl) (evM_ok Kmix glr Kctx (show MemOk Tryd.prog Kgl [] from mem_nil) 200) Kq23
theorem Km24 : MemE Tryd.prog Kgl 37 Kk24 Kv24 := mem_of Tryd.func37 (by kernel_rfl) (by kernel_rfl) (evM_ok Kmix glr Kctx (show MemOk Tryd.prog Kgl [(10, [(Kk23, Kv23)])] from (mo1 (me1 Km23 me0) mem_nil)) 200) (by kernel_rfl) Kq24
theorem Km25 : MemE Tryd.prog Kgl 10 Kk25 Kv25 := mem_ofF Tryd.func10 (by kernel_rfl) (by kernel_rfl) (evM_ok Kmix glr Kctx (show MemOk Tryd.prog Kgl [] from mem_nil) 200) Kq25
theorem Km26 : MemE Tryd.prog Kgl 37 Kk26 Kv26 := mem_of Tryd.func37 (by kernel_rfl) (by kernel_rfl) (evM_ok Kmix glr Kctx (show MemOk Tryd.prog Kgl [(10, [(Kk25, Kv25)])] from (mo1 (me1 Km25 me0) mem_nil)) 200) (by kernel_rfl) Kq26
theorem Km27 : MemE Tryd.prog Kgl 10 Kk27 Kv27 := mem_ofF Tryd.func10 (by kernel_rfl) (by kernel_rfl) (evM_ok Kmix glr Kctx (show MemOk Tryd.prog Kgl [] from mem_nil) 200) Kq27
theorem Km28 : MemE Tryd.prog Kgl 37 Kk28 Kv28 := mem_of Tryd.func37 (by kernel_rfl) (by kernel_rfl) (evM_ok Kmix glr Kctx (show MemOk Tryd.prog Kgl [(10, [(Kk27, Kv27)])] from (mo1 (me1 Km27 me0) mem_nil)) 200) (by kernel_rfl) Kq28
theorem Km29 : MemE Tryd.prog Kgl 10 Kk29 Kv29 := mem_ofF Tryd.func10 (by kernel_rfl) (by kernel_rfl) (evM_ok Kmix glr Kctx (show MemOk Tryd.prog Kgl [] from mem_nil) 200) Kq29
theorem Km30 : MemE Tryd.prog Kgl 37 Kk30 Kv30 := mem_of Tryd.func37 (by kernel_rfl) (by kernel_rfl) (evM_ok Kmix glr Kctx (show MemOk Tryd.prog Kgl [(10, [(Kk29, Kv29)])] from (mo1 (me1 Km29 me0) mem_nil)) 200) (by kernel_rfl) Kq30
theorem Km31 : MemE Tryd.prog Kgl 24 Kk31 Kv31 := mem_of Tryd.func24 (by kernel_rfl) (by kernel_rfl) (evM_ok Kmix glr Kctx (show MemOk Tryd.prog Kgl [] from mem_nil) 200) (by kernel_rfl) Kq31
theorem Km32 : MemE Tryd.prog Kgl 24 Kk32 Kv32 := mem_of Tryd.func24 (by kernel_rfl) (by kernel_rfl) (evM_ok Kmix glr Kctx (show MemOk Tryd.prog Kgl [] from mem_nil) 200) (by kernel_rfl) Kq32
theorem Km33 : MemE Tryd.prog Kgl 14 Kk33 Kv33 := mem_of Tryd.func14 (by kernel_rfl) (by kernel_rfl) (evM_ok Kmix glr Kctx (show MemOk Tryd.prog Kgl [(51, [(Kk2, Kv2)]), (30, [(Kk18, Kv18), (Kk20, Kv20)]), (19, [(Kk21, Kv21), (Kk22, Kv22)]), (37, [(Kk24, Kv24), (Kk26, Kv26), (Kk28, Kv28), (Kk30, Kv30)]), (24, [(Kk31, Kv31), (Kk32, Kv32)])] from (mo1 (me1 Km2 me0) (mo1 (me1 Km18 (me1 Km20 me0)) (mo1 (me1 Km21 (me1 Km22 me0)) (mo1 (me1 Km24 (me1 Km26 (me1 Km28 (me1 Km30 me0)))) (mo1 (me1 Km31 (me1 Km32 me0)) mem_nil)))))) 200) (by kernel_rfl) Kq33
theorem Km34 : MemE Tryd.prog Kgl 10 Kk34 Kv34 := mem_ofF Tryd.func10 (by kernel_rfl) (by kernel_rfl) (evM_ok Kmix glr Kctx (show MemOk Tryd.prog Kgl [] from mem_nil) 200) Kq34
theorem Km35 : MemE Tryd.prog Kgl 37 Kk35 Kv35 := mem_of Tryd.func37 (by kernel_rfl) (by kernel_rfl) (evM_ok Kmix glr Kctx (show MemOk Tryd.prog Kgl [(10, [(Kk34, Kv34)])] from (mo1 (me1 Km34 me0) mem_nil)) 200) (by kernel_rfl) Kq35
theorem Km36 : MemE Tryd.prog Kgl 10 Kk36 Kv36 := mem_ofF Tryd.func10 (by kernel_rfl) (by kernel_rfl) (evM_ok Kmix glr Kctx (show MemOk Tryd.prog Kgl [] from mem_nil) 200) Kq36
theorem Km37 : MemE Tryd.prog Kgl 37 Kk37 Kv37 := mem_of Tryd.func37 (by kernel_rfl) (by kernel_rfl) (evM_ok Kmix glr Kctx (show MemOk Tryd.prog Kgl [(10, [(Kk36, Kv36)])] from (mo1 (me1 Km36 me0) mem_nil)) 200) (by kernel_rfl) Kq37
theorem Km38 : MemE Tryd.prog Kgl 10 Kk38 Kv38 := mem_ofF Tryd.func10 (by kernel_rfl) (by kernel_rfl) (evM_ok Kmix glr Kctx (show MemOk Tryd.prog Kgl [] from mem_nil) 200) Kq38
theorem Km39 : MemE Tryd.prog Kgl 37 Kk39 Kv39 := mem_of Tryd.func37 (by kernel_rfl) (by kernel_rfl) (evM_ok Kmix glr Kctx (show MemOk Tryd.prog Kgl [(10, [(Kk38, Kv38)])] from (mo1 (me1 Km38 me0) mem_nil)) 200) (by kernel_rfl) Kq39
theorem Km40 : MemE Tryd.prog Kgl 24 Kk40 Kv40 := mem_of Tryd.func24 (by kernel_rfl) (by kernel_rfl) (evM_ok Kmix glr Kctx (show MemOk Tryd.prog Kgl [] from mem_nil) 200) (by kernel_rfl) Kq40
theorem Km41 : MemE Tryd.prog Kgl 7 Kk41 Kv41 := mem_of Tryd.func7 (by kernel_rfl) (by kernel_rfl) (evM_ok Kmix glr Kctx (show MemOk Tryd.prog Kgl [(10, [(Kk0, Kv0)]), (51, [(Kk1, Kv1)]), (19, [(Kk3, Kv3), (Kk4, Kv4), (Kk5, Kv5)]), (30, [(Kk8, Kv8), (Kk10, Kv10), (Kk12, Kv12), (Kk14, Kv14), (Kk16, Kv16)]), (14, [(Kk33, Kv33)]), (37, [(Kk35, Kv35), (Kk37, Kv37), (Kk39, Kv39)]), (24, [(Kk40, Kv40)])] from (mo1 (me1 Km0 me0) (mo1 (me1 Km1 me0) (mo1 (me1 Km3 (me1 Km4 (me1 Km5 me0))) (mo1 (me1 Km8 (me1 Km10 (me1 Km12 (me1 Km14 (me1 Km16 me0))))) (mo1 (me1 Km33 me0) (mo1 (me1 Km35 (me1 Km37 (me1 Km39 me0))) (mo1 (me1 Km40 me0) mem_nil)))))))) 200) (by kernel_rfl) Kq41
theorem walk (w : World) (hg : GlW Kgl w) : Calls Tryd.prog 7 #[] w fun e w' => e = .returned (.bool true) ∧ Grown w w' :=
  memE_calls Km41 w hg
theorem gTab0 : Tryd.prog.globalNamed "haruspex/fit.primes" = some 0 := by kernel_rfl
theorem gTy0 : (Tryd.prog.globals[0]?).map (·.type) = some 83 := by kernel_rfl
theorem cellsT0 : Tryd.prog.cellsOf 83 = 18 := by kernel_rfl
theorem cellsE0 : Tryd.prog.cellsOf 3 = 1 := by kernel_rfl
theorem one0 : (Rows.fitKnownRow.laid.filter fun x => x.1 == "haruspex/fit.primes") = [("haruspex/fit.primes", Lib.tabData .i64 [2, 3, 5, 7, 11, 13, 17, 19, 23, 29, 31, 37, 41, 43, 47, 53, 59, 61])] := by kernel_rfl
theorem table0 {W : World} (h : laidMet Tryd.prog Rows.fitKnownRow.laid W) : Lib.TabIs Tryd.prog W "haruspex/fit.primes" .i64 [2, 3, 5, 7, 11, 13, 17, 19, 23, 29, 31, 37, 41, 43, 47, 53, 59, 61] := by
  have h1 := laidMet.filter (fun x => x.1 == "haruspex/fit.primes") h
  rw [one0] at h1
  exact Lib.tabIs_of_head (rest := []) gTab0 gTy0 Tryd.underlying83 Tryd.underlying3 cellsE0 cellsT0 h1
theorem tw0 {W : World} (h : laidMet Tryd.prog Rows.fitKnownRow.laid W) : 0 < W.heap.size ∧ ∀ i : Nat, i < ([2, 3, 5, 7, 11, 13, 17, 19, 23, 29, 31, 37, 41, 43, 47, 53, 59, 61] : List Int).length → W.cell? ⟨0, i, none⟩ = some (.int .i64 (([2, 3, 5, 7, 11, 13, 17, 19, 23, 29, 31, 37, 41, 43, 47, 53, 59, 61] : List Int).getD i 0)) := by
  have hc := fun (i : Nat) hi => (table0 h).cell gTab0 i hi
  refine ⟨?_, hc⟩
  have h0 := hc 0 (by decide)
  unfold World.cell? at h0
  cases hx : W.heap[0]? with
  | none => rw [hx] at h0; cases h0
  | some o => exact (Array.getElem?_eq_some_iff.1 hx).1
theorem tabs {W : World} (h : laidMet Tryd.prog Rows.fitKnownRow.laid W) : GlW Kgl W := glT_w _ (fa1 (tw0 h) fa0)
theorem plainLaid (W : World) : laidMetH Tryd.prog Rows.fitKnownRow.laid W = laidMet Tryd.prog Rows.fitKnownRow.laid W := MakeChecks.laidMetH_plain _ _ _ (by kernel_rfl)
theorem contract (H : Type) (enc : TypeId × Value → H) (W : World) (base : Nat) (args : Array Value) (ds gs : List (DataW H)) (before : List MemPlace)
    (hval : ∀ (j : Nat) t v, Tryd.f7.params[j]? = some t → args[j]? = some v → Value.okWide Tryd.prog W .any base t v)
    (hW : DataW.Whole enc Tryd.prog Tryd.f7.params.toList Rows.fitKnownSpec.vars false W args.toList ds gs before) (hL : laidMetH Tryd.prog Rows.fitKnownRow.laid W) :
    Calls Tryd.prog 7 args W fun e W' => ∃ v, e = .returned v ∧ Rows.fitKnownSpec.post enc Tryd.prog Tryd.f7 false true false false W args v W' := by
  have hW' := hW
  obtain ⟨p, q, hA0, hV, rfl, hfz, hnd⟩ := hW
  have hA : DataW.TrodAll enc Tryd.prog W 0 (fun _ => true) true Tryd.f7.params.toList args.toList ds p := hA0
  rw [Tryd.params7] at hA hval
  obtain ⟨rfl, rfl, rfl⟩ := trodAll_none hA
  obtain ⟨rfl, rfl⟩ := trodVars_none hV
  clear hA0 hval
  simp only [List.append_nil] at hW'
  rw [plainLaid] at hL
  refine (walk W (tabs hL)).mono fun e W' ⟨he, hg⟩ => ?_
  subst he
  exact ⟨_, rfl, post_of_same (pa := []) (pv := []) hW' (fun _ _ _ => trodAll_cons_mk (shut_bool Tryd.underlying4 _) trodAll_mk0) (fun sp _ => rfl) (fun _ _ => rfl) rfl
    (hg.frame _) hg.2.1 (ok_one (by kernel_rfl) rfl (okWide_bool_mk Tryd.underlying4 _))⟩
/-- a world for the witness: the tables hold what their initialisers lay -/
noncomputable def laidWorld (os : Os) : World := { World.holding Tryd.prog os ⟨#[], #[], []⟩ with heap := ((World.holding Tryd.prog os ⟨#[], #[], []⟩).heap.modify 0 fun | .cells _ t frozen => .cells #[.int .i64 2, .int .i64 3, .int .i64 5, .int .i64 7, .int .i64 11, .int .i64 13, .int .i64 17, .int .i64 19, .int .i64 23, .int .i64 29, .int .i64 31, .int .i64 37, .int .i64 41, .int .i64 43, .int .i64 47, .int .i64 53, .int .i64 59, .int .i64 61] t frozen | o => o) }
theorem laid_met (os : Os) : laidMet Tryd.prog Rows.fitKnownRow.laid ((laidWorld os).forCall (fun _ _ => 0) ⟨#[], #[], []⟩).memory :=
  laidMet_of_run' 8 (by kernel_rfl) (by kernel_rfl)
theorem reads (os : Os) {H : Type} (enc : TypeId × Value → H) : ∃ places, DataW.whole enc Tryd.prog ((laidWorld os).forCall (fun _ _ => 0) ⟨#[], #[], []⟩).memory Tryd.f7.params.toList Rows.fitKnownSpec.vars false (#[] : Array Value).toList 8 = some ([], [], places) :=
  ⟨[], by kernel_rfl⟩
theorem lifted (os : Os) (started : os.Started) (H : Type) (enc : TypeId × Value → H) (F : Stop.Interp) :
    ReturnsInHanded {} Tryd.checked os 7 .any ((OpenSpec.ofChange Rows.fitKnownSpec).preRow enc Tryd.prog Tryd.f7 Rows.fitKnownRow.domain false Rows.fitKnownRow.laid) (((OpenSpec.ofChange Rows.fitKnownSpec).at F).post enc Tryd.prog Tryd.f7 false true false false) := by
  obtain ⟨places, hx⟩ := reads os enc
  refine returnsInHanded_of_row (C := Tryd.checked) (s := OpenSpec.ofChange Rows.fitKnownSpec) own started (by kernel_rfl) Tryd.func7
    (witness_row_at (enc := enc) (C := Tryd.checked) false (laidWorld os) #[] rfl (by kernel_rfl) (by kernel_rfl) (by kernel_rfl)
      (OpenSpec.preRow_of_cond 8 hx (by kernel_rfl) (fun k hk => by cases hk) (by kernel_rfl) (laid_met os))) ?_
  intro W base args ds gs before hval hW _ _ _ hL _ _
  exact contract H enc W base args ds gs before hval hW hL
theorem said : Rows.FitKnownSaid :=
  OpenClaim.holds_of_cond 7 Tryd.f7 rfl rfl rfl rfl rfl rfl rfl ⟨rfl, rfl, rfl, rfl, rfl⟩ rfl rfl rfl rfl rfl (by kernel_rfl) Tryd.func7 (by kernel_rfl)
    (of_decide_eq_true (by kernel_rfl)) (by unfold Func.isWrapper; first | (rw [if_pos (by decide +kernel)]; kernel_rfl) | (rw [if_neg (by decide +kernel)]; exact ⟨rfl, rfl⟩))
    (fun os started H enc _ F => by rw [OpenClaim.pre_eq_preRow]; exact lifted os started H enc F)
theorem plain (f : FuncId) (fn : Func) (hf : Tryd.pinned.checked.prog.funcNamed "haruspex/haruspexlaw26.FitKnown" = some f) (hfn : Tryd.pinned.checked.prog.funcs[f]? = some fn) :
    false = Tryd.pinned.checked.prog.looks [] ∧ ∀ (j : Nat) t, fn.params[j]? = some t → Tryd.pinned.checked.prog.wantsStandIn t = false := by
  obtain rfl : f = 7 := Option.some.inj ((show Tryd.prog.funcNamed "haruspex/haruspexlaw26.FitKnown" = some 7 by kernel_rfl).symm.trans hf) |>.symm
  obtain rfl : fn = Tryd.f7 := (Option.some.inj (Tryd.func7.symm.trans hfn)).symm
  refine ⟨by kernel_rfl, fun j t ht => ?_⟩
  rw [Tryd.params7] at ht
  simp at ht
/-- The card. -/
theorem proved : Rows.FitKnownCardSaid :=
  Claim7.holds_tied_plain_at .later [] _ _ _ _ said (fun _ h => by cases h) (by kernel_rfl) (fun _ h => by cases h) fitKnown_row_tie rfl ⟨rfl, rfl⟩ (by kernel_rfl) rfl plain (by kernel_rfl)
#print axioms proved
end Go.Proofs.YtnkcimeebobjaaaDoor.fitKnown
