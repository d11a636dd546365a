/-
  'FitRounds' returns true, whatever it is given; what it is given reads behind the call as it did.
  Proved by a machine of this claim's own (texts Hx.., Ox): the machine's run is shown to return true for all values of the parameters' types, and is the model's call (evM_ok). The tables that it reads are tied to the program text by the given card.
-/
import Derived.Test.YtnkcimeebobjaaaDoorFitRoundsF
import Derived.Test.YtnkcimeebobjaaaDoorFitRoundsO1
import Derived.Test.YtnkcimeebobjaaaDoorFitRoundsQ0
import Derived.Test.YtnkcimeebobjaaaDoorCards
import Derived.Test.YtnkcimeebobjaaaDoorTie
import Derived.WalkKit
import Derived.ProofKit
import Derived.OpenShut
import Derived.Deep.DeepHandedRow
import Derived.Lib.LaidTab
import Derived.LaidSub
import Derived.MakeChecks
namespace Go.Proofs.YtnkcimeebobjaaaDoor.fitRounds
open Hx Go
set_option maxRecDepth 100000
open Go.ChangeShapes Go.WideShapes Go.ChangeAt Go.RowKit
theorem own : ownKnob Tryd.prog.godebug = none := by kernel_rfl
theorem glr : GlR Kgl := glT_r _
theorem mo1 {Pr : Program} {gl : Nat → Option (List AV)} {f : Nat} {l : List (List AV × AV)} {t : Mem} (h : ∀ y ∈ l, MemE Pr gl f y.1 y.2) (ht : MemOk Pr gl t) : MemOk Pr gl ((f, l) :: t) := fun x hx => (List.mem_cons.1 hx).elim (fun e => by subst e; exact h) (ht x)
theorem me0 {Pr : Program} {gl : Nat → Option (List AV)} {f : Nat} : ∀ y ∈ ([] : List (List AV × AV)), MemE Pr gl f y.1 y.2 := fun y h => by cases h
theorem me1 {Pr : Program} {gl : Nat → Option (List AV)} {f : Nat} {k : List AV} {v : AV} {l : List (List AV × AV)} (h : MemE Pr gl f k v) (hl : ∀ y ∈ l, MemE Pr gl f y.1 y.2) : ∀ y ∈ (k, v) :: l, MemE Pr gl f y.1 y.2 := fun y hy => (List.mem_cons.1 hy).elim (fun e => by subst e; exact h) (hl y)
theorem Km0 : MemE Tryd.prog Kgl 51 Kk0 Kv0 := mem_of Tryd.func51 (by kernel_rfl) (by kernel_rfl) (evM_ok Kmix glr Kctx (show MemOk Tryd.prog Kgl [] from mem_nil) 200) (by kernel_rfl) Kq0
theorem Km1 : MemE Tryd.prog Kgl 84 Kk1 Kv1 := mem_of Tryd.func84 (by kernel_rfl) (by kernel_rfl) (evM_ok Kmix glr Kctx (show MemOk Tryd.prog Kgl [] from mem_nil) 200) (by kernel_rfl) Kq1
theorem Km2 : MemE Tryd.prog Kgl 65 Kk2 Kv2 := mem_of Tryd.func65 (by kernel_rfl) (by kernel_rfl) (evM_ok Kmix glr Kctx (show MemOk Tryd.prog Kgl [(51, [(Kk0, Kv0)]), (84, [(Kk1, Kv1)])] from (mo1 (me1 Km0 me0) (mo1 (me1 Km1 me0) mem_nil))) 200) (by kernel_rfl) Kq2
theorem Km3 : MemE Tryd.prog Kgl 30 Kk3 Kv3 := mem_of Tryd.func30 (by kernel_rfl) (by kernel_rfl) (evM_ok Kmix glr Kctx (show MemOk Tryd.prog Kgl [(65, [(Kk2, Kv2)])] from (mo1 (me1 Km2 me0) mem_nil)) 200) (by kernel_rfl) Kq3
theorem Km4 : MemE Tryd.prog Kgl 65 Kk4 Kv4 := mem_of Tryd.func65 (by kernel_rfl) (by kernel_rfl) (evM_ok Kmix glr Kctx (show MemOk Tryd.prog Kgl [(84, [(Kk1, Kv1)])] from (mo1 (me1 Km1 me0) mem_nil)) 200) (by kernel_rfl) Kq4
theorem Km5 : MemE Tryd.prog Kgl 30 Kk5 Kv5 := mem_of Tryd.func30 (by kernel_rfl) (by kernel_rfl) (evM_ok Kmix glr Kctx (show MemOk Tryd.prog Kgl [(65, [(Kk4, Kv4)])] from (mo1 (me1 Km4 me0) mem_nil)) 200) (by kernel_rfl) Kq5
theorem Km6 : MemE Tryd.prog Kgl 19 Kk6 Kv6 := mem_of Tryd.func19 (by kernel_rfl) (by kernel_rfl) (evM_ok Kmix glr Kctx (show MemOk Tryd.prog Kgl [(51, [(Kk0, Kv0)])] from (mo1 (me1 Km0 me0) mem_nil)) 200) (by kernel_rfl) Kq6
theorem Km7 : MemE Tryd.prog Kgl 19 Kk7 Kv7 := mem_of Tryd.func19 (by kernel_rfl) (by kernel_rfl) (evM_ok Kmix glr Kctx (show MemOk Tryd.prog Kgl [(51, [(Kk0, Kv0)])] from (mo1 (me1 Km0 me0) mem_nil)) 200) (by kernel_rfl) Kq7
theorem Km8 : MemE Tryd.prog Kgl 37 Kk8 Kv8 := mem_of Tryd.func37 (by kernel_rfl) (by kernel_rfl) (evM_ok Kmix glr Kctx (show MemOk Tryd.prog Kgl [] from mem_nil) 200) (by kernel_rfl) Kq8
theorem Km9 : MemE Tryd.prog Kgl 37 Kk9 Kv9 := mem_of Tryd.func37 (by kernel_rfl) (by kernel_rfl) (evM_ok Kmix glr Kctx (show MemOk Tryd.prog Kgl [] from mem_nil) 200) (by kernel_rfl) Kq9
theorem Km10 : MemE Tryd.prog Kgl 37 Kk10 Kv10 := mem_of Tryd.func37 (by kernel_rfl) (by kernel_rfl) (evM_ok Kmix glr Kctx (show MemOk Tryd.prog Kgl [] from mem_nil) 200) (by kernel_rfl) Kq10
theorem Km11 : MemE Tryd.prog Kgl 37 Kk11 Kv11 := mem_of Tryd.func37 (by kernel_rfl) (by kernel_rfl) (evM_ok Kmix glr Kctx (show MemOk Tryd.prog Kgl [] from mem_nil) 200) (by kernel_rfl) Kq11
theorem Km12 : MemE Tryd.prog Kgl 14 Kk12 Kv12 := mem_of Tryd.func14 (by kernel_rfl) (by kernel_rfl) (evM_ok Kmix glr Kctx (show MemOk Tryd.prog Kgl [(51, [(Kk0, Kv0)]), (30, [(Kk3, Kv3), (Kk5, Kv5)]), (19, [(Kk6, Kv6), (Kk7, Kv7)]), (37, [(Kk8, Kv8), (Kk9, Kv9), (Kk10, Kv10), (Kk11, Kv11)])] from (mo1 (me1 Km0 me0) (mo1 (me1 Km3 (me1 Km5 me0)) (mo1 (me1 Km6 (me1 Km7 me0)) (mo1 (me1 Km8 (me1 Km9 (me1 Km10 (me1 Km11 me0)))) mem_nil))))) 200) (by kernel_rfl) Kq12
theorem hmem : MemOk Tryd.prog Kgl Kt := mo1 (me1 Km12 me0) mem_nil
theorem all2_cons {α β : Type} {p : α → β → Prop} {t : α} {ts : List α} : ∀ {key : List β}, All2 p (t :: ts) key → ∃ a r, key = a :: r ∧ p t a ∧ All2 p ts r
  | [], h => h.elim
  | a :: r, h => ⟨a, r, rfl, h.1, h.2⟩
theorem all2_nil {α β : Type} {p : α → β → Prop} : ∀ {key : List β}, All2 p [] key → key = []
  | [], _ => rfl
  | _ :: _, h => h.elim
/-- the law: whatever it is given -/
theorem law {key : List AV} (hk : All2 (ShpV Tryd.prog 8) [22, 23, 3, 3, 5, 5] key) : MemE Tryd.prog Kgl 3 key (.bool true) := by
  obtain ⟨a, r1, e1, h1, hk1⟩ := all2_cons hk
  obtain ⟨b, r2, e2, h2, hk2⟩ := all2_cons hk1
  obtain ⟨c, r3, e3, h3, hk3⟩ := all2_cons hk2
  obtain ⟨d, r4, e4, h4, hk4⟩ := all2_cons hk3
  obtain ⟨e, r5, e5, h5, hk5⟩ := all2_cons hk4
  obtain ⟨f, r6, e6, h6, hk6⟩ := all2_cons hk5
  have e7 := all2_nil hk6
  obtain ⟨lr, hl, hb⟩ := shp_ints Tryd.underlying22 Tryd.underlying3 (shpV_slice Tryd.underlying22 h1) emptyH
  obtain ⟨ls, hl2, hb2⟩ := shp_ints Tryd.underlying23 Tryd.underlying5 (shpV_slice Tryd.underlying23 h2) emptyH
  obtain ⟨x, ex, hx⟩ := shp_int Tryd.underlying3 h3
  obtain ⟨y, ey, hy⟩ := shp_int Tryd.underlying3 h4
  obtain ⟨g, eg, hg⟩ := shp_int Tryd.underlying5 h5
  obtain ⟨k, ek, hk0⟩ := shp_int Tryd.underlying5 h6
  rw [e1, e2, e3, e4, e5, e6, e7, ex, ey, eg, ek]
  exact memE_of Tryd.func3 (by kernel_rfl) (by kernel_rfl) Kmix glr Kctx hmem rfl (rounds_ok (isEv_evM KC Kt) hl hb hl2 hb2 hx hg hk0)
theorem laidOut : laidOutB Tryd.prog = true := by kernel_rfl
theorem plain_params : ∀ t ∈ ([22, 23, 3, 3, 5, 5] : List TypeId), plainT Tryd.prog 8 t = true := by
  intro t ht
  simp only [List.mem_cons, List.not_mem_nil, or_false] at ht
  rcases ht with rfl | rfl | rfl | rfl | rfl | rfl <;> kernel_rfl
theorem read_params : ∀ t ∈ ([22, 23, 3, 3, 5, 5] : List TypeId), Tryd.prog.readableRec t = true ∧ t < Tryd.prog.types.size := by
  intro t ht
  simp only [List.mem_cons, List.not_mem_nil, or_false] at ht
  rcases ht with rfl | rfl | rfl | rfl | rfl | rfl <;> exact ⟨by kernel_rfl, of_decide_eq_true (by kernel_rfl)⟩
theorem contract0 (H : Type) (enc : TypeId × Value → H) (W : World) (base : Nat) (args : Array Value) (ds gs : List (DataW H)) (before : List MemPlace)
    (hval : ∀ (j : Nat) t v, Tryd.f3.params[j]? = some t → args[j]? = some v → Value.okWide Tryd.prog W .any base t v)
    (hW : DataW.Whole enc Tryd.prog Tryd.f3.params.toList Rows.fitRoundsSpec.vars false W args.toList ds gs before) (hG : GlW Kgl W) :
    Calls Tryd.prog 3 args W fun e W' => ∃ v, e = .returned v ∧ Rows.fitRoundsSpec.post enc Tryd.prog Tryd.f3 false true false false W args v W' := by
  have hW' := hW
  obtain ⟨p, q, hA0, hV, rfl, hfz, hnd⟩ := hW
  have hA : DataW.TrodAll enc Tryd.prog W 0 (fun _ => true) true Tryd.f3.params.toList args.toList ds p := hA0
  have hpar : Tryd.f3.params.toList = [22, 23, 3, 3, 5, 5] := by rw [Tryd.params3]
  rw [hpar] at hA
  obtain ⟨rfl, rfl⟩ := trodVars_none hV
  have hlen := (trodAll_length hA).2
  rcases ds with _ | ⟨d1, _ | ⟨d2, _ | ⟨d3, _ | ⟨d4, _ | ⟨d5, _ | ⟨d6, _ | ⟨_, _⟩⟩⟩⟩⟩⟩⟩ <;> simp at hlen
  obtain ⟨key, hk1, hk2⟩ := args_vr (K := Kx.of W) (fun _ h => h) plain_params (fun j t v ht hv => hval j t v (by rw [← Array.getElem?_toList, hpar]; exact ht) (by rw [← Array.getElem?_toList]; exact hv)) hA
  refine (memE_open (law hk2) (K := Kx.of W) (fun _ h => h) (fun _ h => h) hG hk1).mono fun e W' ⟨he, hg, hh⟩ => ?_
  subst he
  refine ⟨_, rfl, post_of_same (pa := p) (pv := []) hW' (fun _ _ _ => trodAll_cons_mk (shut_bool Tryd.underlying4 _) trodAll_mk0) (fun sp hs => ?_) (fun _ _ => rfl) rfl
    (hg.frame _) hg.2.1 (ok_one (by kernel_rfl) rfl (okWide_bool_mk Tryd.underlying4 _))⟩
  rw [hpar]
  exact law_args laidOut hh read_params hA (fun x hx => hs x (List.mem_append_left _ hx))
theorem gTab0 : Tryd.prog.globalNamed "haruspex/fit.primes" = some 0 := by kernel_rfl
theorem gTy0 : (Tryd.prog.globals[0]?).map (·.type) = some 83 := by kernel_rfl
theorem cellsT0 : Tryd.prog.cellsOf 83 = 18 := by kernel_rfl
theorem cellsE0 : Tryd.prog.cellsOf 3 = 1 := by kernel_rfl
theorem one0 : (Rows.fitRoundsRow.laid.filter fun x => x.1 == "haruspex/fit.primes") = [("haruspex/fit.primes", Lib.tabData .i64 [2, 3, 5, 7, 11, 13, 17, 19, 23, 29, 31, 37, 41, 43, 47, 53, 59, 61])] := by kernel_rfl
theorem table0 {W : World} (h : laidMet Tryd.prog Rows.fitRoundsRow.laid W) : Lib.TabIs Tryd.prog W "haruspex/fit.primes" .i64 [2, 3, 5, 7, 11, 13, 17, 19, 23, 29, 31, 37, 41, 43, 47, 53, 59, 61] := by
  have h1 := laidMet.filter (fun x => x.1 == "haruspex/fit.primes") h
  rw [one0] at h1
  exact Lib.tabIs_of_head (rest := []) gTab0 gTy0 Tryd.underlying83 Tryd.underlying3 cellsE0 cellsT0 h1
theorem tw0 {W : World} (h : laidMet Tryd.prog Rows.fitRoundsRow.laid W) : 0 < W.heap.size ∧ ∀ i : Nat, i < ([2, 3, 5, 7, 11, 13, 17, 19, 23, 29, 31, 37, 41, 43, 47, 53, 59, 61] : List Int).length → W.cell? ⟨0, i, none⟩ = some (.int .i64 (([2, 3, 5, 7, 11, 13, 17, 19, 23, 29, 31, 37, 41, 43, 47, 53, 59, 61] : List Int).getD i 0)) := by
  have hc := fun (i : Nat) hi => (table0 h).cell gTab0 i hi
  refine ⟨?_, hc⟩
  have h0 := hc 0 (by decide)
  unfold World.cell? at h0
  cases hx : W.heap[0]? with
  | none => rw [hx] at h0; cases h0
  | some o => exact (Array.getElem?_eq_some_iff.1 hx).1
theorem tabs {W : World} (h : laidMet Tryd.prog Rows.fitRoundsRow.laid W) : GlW Kgl W := glT_w _ (fa1 (tw0 h) fa0)
theorem plainLaid (W : World) : laidMetH Tryd.prog Rows.fitRoundsRow.laid W = laidMet Tryd.prog Rows.fitRoundsRow.laid W := MakeChecks.laidMetH_plain _ _ _ (by kernel_rfl)
theorem contract (H : Type) (enc : TypeId × Value → H) (W : World) (base : Nat) (args : Array Value) (ds gs : List (DataW H)) (before : List MemPlace)
    (hval : ∀ (j : Nat) t v, Tryd.f3.params[j]? = some t → args[j]? = some v → Value.okWide Tryd.prog W .any base t v)
    (hW : DataW.Whole enc Tryd.prog Tryd.f3.params.toList Rows.fitRoundsSpec.vars false W args.toList ds gs before) (hL : laidMetH Tryd.prog Rows.fitRoundsRow.laid W) :
    Calls Tryd.prog 3 args W fun e W' => ∃ v, e = .returned v ∧ Rows.fitRoundsSpec.post enc Tryd.prog Tryd.f3 false true false false W args v W' := by
  rw [plainLaid] at hL
  exact contract0 H enc W base args ds gs before hval hW (tabs hL)
/-- a world for the witness: the tables hold what their initialisers lay -/
noncomputable def laidWorld (os : Os) : World := { World.holding Tryd.prog os ⟨#[], #[.slice none 0 0, .slice none 0 0, .int .i64 0, .int .i64 0, .int .u8 0, .int .u8 0], []⟩ with heap := ((World.holding Tryd.prog os ⟨#[], #[.slice none 0 0, .slice none 0 0, .int .i64 0, .int .i64 0, .int .u8 0, .int .u8 0], []⟩).heap.modify 0 fun | .cells _ t frozen => .cells #[.int .i64 2, .int .i64 3, .int .i64 5, .int .i64 7, .int .i64 11, .int .i64 13, .int .i64 17, .int .i64 19, .int .i64 23, .int .i64 29, .int .i64 31, .int .i64 37, .int .i64 41, .int .i64 43, .int .i64 47, .int .i64 53, .int .i64 59, .int .i64 61] t frozen | o => o) }
theorem laid_met (os : Os) : laidMet Tryd.prog Rows.fitRoundsRow.laid ((laidWorld os).forCall (fun _ _ => 0) ⟨#[], #[.slice none 0 0, .slice none 0 0, .int .i64 0, .int .i64 0, .int .u8 0, .int .u8 0], []⟩).memory :=
  laidMet_of_run' 8 (by kernel_rfl) (by kernel_rfl)
theorem reads (os : Os) {H : Type} (enc : TypeId × Value → H) : ∃ places, DataW.whole enc Tryd.prog ((laidWorld os).forCall (fun _ _ => 0) ⟨#[], #[.slice none 0 0, .slice none 0 0, .int .i64 0, .int .i64 0, .int .u8 0, .int .u8 0], []⟩).memory Tryd.f3.params.toList Rows.fitRoundsSpec.vars false (#[.slice none 0 0, .slice none 0 0, .int .i64 0, .int .i64 0, .int .u8 0, .int .u8 0] : Array Value).toList 8 = some ([.nil, .nil, .lit (.int .i64 0), .lit (.int .i64 0), .lit (.int .u8 0), .lit (.int .u8 0)], [], places) :=
  ⟨[], by kernel_rfl⟩
theorem lifted (os : Os) (started : os.Started) (H : Type) (enc : TypeId × Value → H) (F : Stop.Interp) :
    ReturnsInHanded {} Tryd.checked os 3 .any ((OpenSpec.ofChange Rows.fitRoundsSpec).preRow enc Tryd.prog Tryd.f3 Rows.fitRoundsRow.domain false Rows.fitRoundsRow.laid) (((OpenSpec.ofChange Rows.fitRoundsSpec).at F).post enc Tryd.prog Tryd.f3 false true false false) := by
  obtain ⟨places, hx⟩ := reads os enc
  refine returnsInHanded_of_row (C := Tryd.checked) (s := OpenSpec.ofChange Rows.fitRoundsSpec) own started (by kernel_rfl) Tryd.func3
    (witness_row_at (enc := enc) (C := Tryd.checked) false (laidWorld os) #[.slice none 0 0, .slice none 0 0, .int .i64 0, .int .i64 0, .int .u8 0, .int .u8 0] rfl (by kernel_rfl) (by kernel_rfl) (by kernel_rfl)
      (OpenSpec.preRow_of_cond 8 hx (by kernel_rfl) (fun k hk => by cases hk) (by kernel_rfl) (laid_met os))) ?_
  intro W base args ds gs before hval hW _ _ _ hL _ _
  exact contract H enc W base args ds gs before hval hW hL
theorem said : Rows.FitRoundsSaid :=
  OpenClaim.holds_of_cond 3 Tryd.f3 rfl rfl rfl rfl rfl rfl rfl ⟨rfl, rfl, rfl, rfl, rfl⟩ rfl rfl rfl rfl rfl (by kernel_rfl) Tryd.func3 (by kernel_rfl)
    (of_decide_eq_true (by kernel_rfl)) (by unfold Func.isWrapper; first | (rw [if_pos (by decide +kernel)]; kernel_rfl) | (rw [if_neg (by decide +kernel)]; exact ⟨rfl, rfl⟩))
    (fun os started H enc _ F => by rw [OpenClaim.pre_eq_preRow]; exact lifted os started H enc F)
theorem plain (f : FuncId) (fn : Func) (hf : Tryd.pinned.checked.prog.funcNamed "haruspex/haruspexlaw26.FitRounds" = some f) (hfn : Tryd.pinned.checked.prog.funcs[f]? = some fn) :
    false = Tryd.pinned.checked.prog.looks [] ∧ ∀ (j : Nat) t, fn.params[j]? = some t → Tryd.pinned.checked.prog.wantsStandIn t = false := by
  obtain rfl : f = 3 := Option.some.inj ((show Tryd.prog.funcNamed "haruspex/haruspexlaw26.FitRounds" = some 3 by kernel_rfl).symm.trans hf) |>.symm
  obtain rfl : fn = Tryd.f3 := (Option.some.inj (Tryd.func3.symm.trans hfn)).symm
  refine ⟨by kernel_rfl, fun j t ht => ?_⟩
  have ht' : ([22, 23, 3, 3, 5, 5] : List TypeId)[j]? = some t := by
    rw [← Array.getElem?_toList, show Tryd.f3.params.toList = [22, 23, 3, 3, 5, 5] by rw [Tryd.params3]] at ht
    exact ht
  have hm := List.mem_of_getElem? ht'
  simp only [List.mem_cons, List.not_mem_nil, or_false] at hm
  rcases hm with rfl | rfl | rfl | rfl | rfl | rfl
  · exact (show Tryd.prog.wantsStandIn 22 = false by kernel_rfl)
  · exact (show Tryd.prog.wantsStandIn 23 = false by kernel_rfl)
  · exact (show Tryd.prog.wantsStandIn 3 = false by kernel_rfl)
  · exact (show Tryd.prog.wantsStandIn 3 = false by kernel_rfl)
  · exact (show Tryd.prog.wantsStandIn 5 = false by kernel_rfl)
  · exact (show Tryd.prog.wantsStandIn 5 = false by kernel_rfl)
/-- The card. -/
theorem proved : Rows.FitRoundsCardSaid :=
  Claim7.holds_tied_plain_at .later [] _ _ _ _ said (fun _ h => by cases h) (by kernel_rfl) (fun _ h => by cases h) fitRounds_row_tie rfl ⟨rfl, rfl⟩ (by kernel_rfl) rfl plain (by kernel_rfl)
#print axioms proved
end Go.Proofs.YtnkcimeebobjaaaDoor.fitRounds
