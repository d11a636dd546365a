/- The deferred calls and the marks, where a function is left. -/
import Derived.Test.YtbkihikjgoedbaaGreatHxCmd
namespace Hx
open Go

/-- the machine's functions are the program's -/
structure CtxOk (G : Gx) (gl : Nat → Option (List AV)) (C : Ctx) : Prop where
  fn : ∀ f fi, C.fn f = some fi → ∃ (fn : Func) (b : Code) (vsl : List Nat) (base : Nat) (dfr : Bool), G.P.funcs[f]? = some fn ∧ fn.body = some b ∧ compF G.P gl vsl dfr base fn = some fi ∧ BdOk G ⟨vsl, fn.ntmps, gl⟩ b base
  bd : ∀ i c, C.bd i = some c → ∃ (I : BInfo) (n1 n2 : Nat), G.BD i = some I ∧ comp G.P ⟨I.vsl, I.nt, gl⟩ true I.assign n1 = some c.1 ∧ comp G.P ⟨I.vsl, I.nt, gl⟩ true I.body n2 = some c.2 ∧
    BdOk G ⟨I.vsl, I.nt, gl⟩ I.assign n1 ∧ BdOk G ⟨I.vsl, I.nt, gl⟩ I.body n2 ∧ I.vsl.Nodup
  ext : ∀ f F, C.fn f = none → C.ext f = some F → ∀ args v, F args = some v → ∀ K avs, VRs G.P K args avs → ∃ x, (callFunc f avs.toArray).run G.P K.w = .ok (.value x) K.w ∧ VR G.P K v x ∧ ∀ l, .fn (.yield l) [] [] ∉ args

theorem memN_true {b : Nat} {l : List Nat} : memN b l = true ↔ b ∈ l := by
  induction l with
  | nil => exact ⟨fun h => (by cases h), fun h => (by cases h)⟩
  | cons x l ih =>
    show bif_ (Nat.beq b x) true (memN b l) = true ↔ _
    rw [bif_eq, List.mem_cons, ← ih]
    by_cases h : b = x
    · simp [h]
    · have : Nat.beq b x = false := by cases e : Nat.beq b x with | false => rfl | true => exact absurd (Nat.eq_of_beq_eq_true e) h
      simp [this, h]
theorem noDup_nodup {l : List Nat} (h : noDup l = true) : l.Nodup := by
  induction l with
  | nil => exact List.nodup_nil
  | cons x l ih =>
    simp only [noDup, Bool.and_eq_true, Bool.not_eq_true'] at h
    exact List.nodup_cons.2 ⟨fun hm => (by rw [memN_true.2 hm] at h; cases h.1), ih h.2⟩

/-- what compF tells -/
theorem compF_some {P : Program} {gl : Nat → Option (List AV)} {vsl : List Nat} {dfr : Bool} {base : Nat} {fn : Func} {fi : FnI} {b : Code} (hb : fn.body = some b) (h : compF P gl vsl dfr base fn = some fi) :
    vnOk fn vsl = true ∧ comp P ⟨vsl, fn.ntmps, gl⟩ false b base = some fi.body ∧ compRes P ⟨vsl, fn.ntmps, gl⟩ fn.results.toList = some fi.res ∧ fi.np = npF fn ∧ fi.nv = vsl.length - npF fn ∧
      ((nb b = 0 ∧ fn.results.toList = [] ∧ compR P ⟨vsl, fn.ntmps, gl⟩ b base = some fi.dbody) ∨ fi.dbody = fun _ _ _ _ _ => none) := by
  unfold compF at h
  rw [hb] at h
  simp only at h
  split at h
  · rename_i hv
    split at h
    · rename_i c l hc hl
      split at h
      · split at h
        · rename_i hn
          simp only [Option.map_eq_some_iff] at h
          obtain ⟨d, hd, rfl⟩ := h
          exact ⟨hv, hc, hl, rfl, rfl, .inl ⟨hn.1, hn.2, hd⟩⟩
        · cases h
      · cases h
        exact ⟨hv, hc, hl, rfl, rfl, .inr rfl⟩
    · cases h
  · cases h

theorem undef_rep {P : Program} {K : Kx} : ∀ n, VRs P K (rep [undefA] n) (List.replicate n undef) := by
  intro n
  rw [rep_eq]
  induction n with
  | zero => exact .nil
  | succ n ih => simpa [List.replicate_succ] using VRs.cons _ _ _ _ VR.undef ih

/-- the variables at a function's start -/
theorem init_slots {P : Program} {K : Kx} {fn : Func} {vsl : List Nat} (hv : vnOk fn vsl = true) {fi : FnI} (hnp : fi.np = npF fn) (hnv : fi.nv = vsl.length - npF fn) {args : List AV} {avs : List Value} {vs : List AV} (hi : initVs fi args = some vs) (ha : VRs P K args avs) :
    Slots P K vsl vs (avs.toArray ++ Array.replicate (fn.ntmps - avs.toArray.size) undef) ∧ fn.ntmps ≤ (avs.toArray ++ Array.replicate (fn.ntmps - avs.toArray.size) undef).size := by
  unfold vnOk at hv
  simp only [Bool.and_eq_true, decide_eq_true_eq, List.all_eq_true] at hv
  obtain ⟨⟨⟨⟨h1, h2⟩, h3⟩, h4⟩, _⟩ := hv
  unfold initVs at hi
  rw [bif_none, Nat.beq_eq, lenL_eq, catL_eq] at hi
  obtain ⟨hl, hi⟩ := hi
  cases hi
  have hal := ha.length
  have hrl : (rep [undefA] fi.nv).length = fi.nv := by rw [rep_eq]; simp
  refine ⟨⟨by rw [List.length_append, hrl, hl, hnp, hnv]; omega, fun i t hit => ?_⟩, by simp; omega⟩
  have hil : i < vsl.length := (List.getElem?_eq_some_iff.1 hit).1
  have ht : t < fn.ntmps := h3 t (List.mem_of_getElem? hit)
  by_cases hi : i < npF fn
  · have e : vsl[i]? = some i := by
      have : (vsl.take (npF fn))[i]? = vsl[i]? := by rw [List.getElem?_take, if_pos hi]
      rw [← this, h1]; simp [hi]
    rw [e] at hit; cases hit
    obtain ⟨v, hv⟩ : ∃ v, args[i]? = some v := ⟨args[i]'(by omega), by simp⟩
    obtain ⟨x, hx, hvx⟩ := ha.get hv
    refine ⟨v, x, ?_, ?_, hvx⟩
    · rw [List.getElem?_append_left (by omega)]; exact hv
    · have hlt : i < avs.length := by omega
      rw [Array.getElem?_append_left (by simpa using hlt)]
      simpa using hx
  · have hge : npF fn ≤ t := by
      apply Classical.byContradiction
      intro hlt
      have hlt : t < npF fn := by omega
      have e : vsl[t]? = some t := by
        have : (vsl.take (npF fn))[t]? = vsl[t]? := by rw [List.getElem?_take, if_pos hlt]
        rw [← this, h1]; simp [hlt]
      have hnd := noDup_nodup h2
      obtain ⟨q1, e1⟩ := List.getElem?_eq_some_iff.1 e
      obtain ⟨q2, e2⟩ := List.getElem?_eq_some_iff.1 hit
      have hp := List.pairwise_iff_getElem.1 hnd
      exact hp t i q1 q2 (by omega) (e1.trans e2.symm)
    have hal' : avs.length = npF fn := by omega
    refine ⟨undefA, undef, ?_, ?_, VR.undef⟩
    · rw [List.getElem?_append_right (by omega)]
      rw [rep_eq]
      have : i - args.length < fi.nv := by omega
      have key : ∀ (n j : Nat), j < n → (List.replicate n [undefA]).flatten[j]? = some undefA := by
        intro n
        induction n with
        | zero => intro j h; omega
        | succ n ih =>
          intro j h
          cases j with
          | zero => simp [List.replicate_succ]
          | succ j => simpa [List.replicate_succ] using ih j (by omega)
      exact key _ _ this
    · rw [Array.getElem?_append_right (by simpa [hal'] using hge)]
      rw [Array.getElem?_replicate, if_pos]
      simp [hal']; omega


theorem run_callFunc {P : Program} {f : FuncId} {fn : Func} {b : Code} {args : Array Value} {w : World} (hf : P.funcs[f]? = some fn) (hb : fn.body = some b) (hn : (fn.name != "runtime.NumGoroutine") = true) : (callFunc f args).run P w = .ok (.enter f args) w := by
  have hn' : (fn.name == "runtime.NumGoroutine") = false := by simpa using hn
  simp [callFunc, program, Sem.run_bind, hf, hb, hn', Sem.run]
  simpa using hn

theorem MdR.monoW {P : Program} {K K' : Kx} (hk : Klw K K') {p : Option AV} {d : Bool} {u : FrameMode} (h : MdR P K p d u) : MdR P K' p d u := by
  cases p <;> cases d <;> first
    | exact h
    | (obtain ⟨x, h1, h2⟩ := h; exact ⟨x, h1, h2.monoW hk⟩)

theorem MdR.settle {P : Program} {K : Kx} {p : Option AV} {d : Bool} {u : FrameMode} (h : MdR P K (bif_ d none p) d u) : MdR P K (bif_ d none p) false (settle u) := by
  cases d with
  | false => cases p with
    | none => have h' : u = .returning := h; subst h'; rfl
    | some v => obtain ⟨x, rfl, hx⟩ := h; exact ⟨x, rfl, hx⟩
  | true => obtain ⟨x, rfl⟩ := h; rfl

theorem MdR.run {P : Program} {K : Kx} {p : Option AV} {d : Bool} {u : FrameMode} (h : MdR P K p d u) : u ≠ .run := by
  cases p <;> cases d
  · have h' : u = .returning := h; subst h'; simp
  · obtain ⟨x, rfl⟩ := h; simp
  · obtain ⟨x, rfl, _⟩ := h; simp
  · exact h.elim

section
variable {G : Gx} {gl : Nat → Option (List AV)} {C : Ctx} {cf : CallFn} {L : Nat}

theorem unwind_ok (hC : CtxOk G gl C) (hpre : ∀ V : Vn, V.gl = gl → V.vsl.Nodup → PreOk G V cf L) (hcf : CallOk G gl cf) {K0 : Kx} {h0 : Heap} (hr0 : HR G K0 h0 []) {fn : Func} {tmps : Array Value} {R : Ending → World → Prop} {n : Nat} {vsl : List Nat} {vs : List AV} {m : Option Nat}
    (hm : ∀ m0, m = some m0 → K0.w.heap.size ≤ m0) {p' : Option AV} {h' : Heap} : ∀ (r : List Deferred) (l : Defs) (K : Kx) (h : Heap) (p : Option AV) (u : FrameMode), DRs G.P K m l r → HR G K h [] → h.wf → GlOk G.P K gl → Stp K0 h0 K h → MdR G.P K p false u →
      Slots G.P K vsl vs tmps → unwindA C cf L l p h = some (p', h') →
      (∀ K' u', Stp K0 h0 K' h' → HR G K' h' [] → h'.wf → MdR G.P K' p' false u' → Slots G.P K' vsl vs tmps → LeavesIn Fence.wide n G.P fn tmps R [] u' K'.w) → LeavesInM Fence.wide n G.P fn tmps R r u K.w
  | [], l, K, h, p, u, hd, hr, hw, hg, st, hmd, hsl, he, hk => by
    cases hd
    cases he
    exact hk K u st hr hw hmd hsl
  | d :: r, l, K, h, p, u, hd, hr, hw, hg, st, hmd, hsl, he, hk => by
    refine ⟨hmd.run, ?_⟩
    cases hd with
    | mark b _ _ h1 h2 h3 h4 h5 =>
      obtain ⟨m0, hm0, hmb⟩ := h3
      refine .inl ⟨b, _, rfl, run_takeDeferred h1, ?_⟩
      exact unwind_ok hC hpre hcf hr0 hm r l _ h p u (h5.shut h1 h4) (hr.shut h1) hw (hg.monoW (shut_le h1)) (st.shut hr0.inh h1 (Nat.le_trans (hm m0 hm0) hmb)) (hmd.monoW (shut_le h1)) (hsl.monoW (shut_le h1)) he hk
    | cons x _ l _ hx hl =>
      cases hx with
      | mk f a c as va vc vas ha hc has =>
      refine .inr ⟨fun hd => (by cases hd), .func f, vc.toArray, ?_⟩
      have he' : ob (C.fn f) (fun fi => ob (initVs fi (catL a (catL as c))) fun vs =>
        ob (fi.dbody cf L p false ⟨vs, h, []⟩) fun r => match r with
          | (e, d, s) => match s.ds with
            | [] => match e with
              | .normal | .ret => unwindA C cf L l (bif_ d none p) s.h
              | _ => none
            | _ => none) = some (p', h') := he
      simp only [ob_some] at he'
      obtain ⟨fi, hfi, vs', hvs', ⟨ex, dd, s'⟩, hbody, he'⟩ := he'
      obtain ⟨fn', b, vsl', base, dfr, hf, hb, hcomp, hbd⟩ := hC.fn f fi hfi
      obtain ⟨hvn, hcb, hcr, hnp, hnv, hdb⟩ := compF_some hb hcomp
      have hname : (fn'.name != "runtime.NumGoroutine") = true := by
        unfold vnOk at hvn; simp only [Bool.and_eq_true] at hvn; exact hvn.2
      have hnd : vsl'.Nodup := by
        unfold vnOk at hvn; simp only [Bool.and_eq_true] at hvn; exact noDup_nodup hvn.1.1.1.2
      refine ⟨f, va.toArray ++ vas.toArray ++ vc.toArray, rfl, ?_, fun _ _ => trivial, ?_⟩
      · exact run_callFunc hf hb hname
      · have hds : s'.ds = [] ∧ (ex = .normal ∨ ex = .ret) ∧ unwindA C cf L l (bif_ dd none p) s'.h = some (p', h') := by
          cases hsd : s'.ds with
          | cons x y => simp only [hsd] at he'; cases he'
          | nil =>
            simp only [hsd] at he'
            cases ex <;> simp only [reduceCtorEq] at he'
            · exact ⟨rfl, .inl rfl, he'⟩
            · exact ⟨rfl, .inr rfl, he'⟩
        obtain ⟨hds, hex, hun⟩ := hds
        rcases hdb with ⟨hnb, hres, hcR⟩ | hdb
        rotate_left
        · rw [hdb] at hbody; cases hbody
        refine callsDIn_of_wpSIn hf hb trivial fun c₀ cs hmode => ?_
        have hargs : VRs G.P K (catL a (catL as c)) (va ++ (vas ++ vc)) := by rw [catL_eq, catL_eq]; exact ha.append (has.append hc)
        obtain ⟨hsl', hnt⟩ := init_slots hvn hnp hnv hvs' hargs
        have hae : va.toArray ++ vas.toArray ++ vc.toArray = (va ++ (vas ++ vc)).toArray := by simp
        rw [hae]
        have hsr : SR G ⟨vsl', fn'.ntmps, gl⟩ none K { tmps := (va ++ (vas ++ vc)).toArray ++ Array.replicate (fn'.ntmps - (va ++ (vas ++ vc)).toArray.size) undef, defers := [] } vs' h [] :=
          ⟨hsl', hnt, hr, hw, .nil, hg⟩
        have hcmd := (compR_ok (m := none) (V := ⟨vsl', fn'.ntmps, gl⟩) (hpre ⟨vsl', fn'.ntmps, gl⟩ rfl hnd) hcf hnd b base fi.dbody hcR hnb).1
        have hc0 : c₀ = { c₀ with mode := u } := by rw [← hmode]
        rw [hc0]
        refine hcmd (n - 1) ex dd s' K _ ⟨vs', h, []⟩ p false c₀ cs u _ hbody hsr ⟨fun l hl => (by cases hl), fun m0 h => (by cases h)⟩ hmd fun e a' K' u' st' hs' hxe hmd' => ?_
        have hdef : a'.defers = [] := by
          have := hs'.dfr
          rw [hds] at this
          generalize a'.defers = q at this
          cases this with
          | nil => rfl
          | mark b _ _ _ _ h3 => obtain ⟨m0, h3, _⟩ := h3; cases h3
        have hR : LeavesInM Fence.wide n G.P fn tmps R r (settle u') K'.w :=
          unwind_ok hC hpre hcf hr0 hm r l K' s'.h (bif_ dd none p) (settle u') (hl.mono st'.tn.le) hs'.hr hs'.wf hs'.gl (st.trans hr0 st') hmd'.settle (hsl.mono st'.tn.le) hun hk
        have hresr : (results fn' a'.tmps).run G.P K'.w = .ok (.tuple #[]) K'.w := by
          have : fn'.results = #[] := by apply Array.ext'; simpa using hres
          simp [results, this, Sem.run_bind, Sem.run_pure]
        rcases hex with rfl | rfl <;> cases e <;> simp only [ExR] at hxe
        · exact ⟨hdef, u', rfl, _, hresr, hR⟩
        · exact ⟨hdef, u', rfl, _, hresr, hR⟩

end
end Hx
