/- One operation of a region. -/
import Derived.Test.YtbkihikjgoedbaaGreatHxSeq
namespace Hx
open Go

section
variable {G : Gx} {V : Vn} {m : Option Nat} {K : Kx} {a : Act} {stk vs : List AV} {ds : List (Option Nat)} {h : Heap} {dfs : Defs}

theorem comp_none {P : Program} {co : CoF} {o : Op} {k : OpK} (hc : compOp P co o = some k) :
    (∃ f, k = .a f) ∨ (∃ f, k = .e f) ∨ (∃ f args c x, k = .call f args ∧ o = .call c ∧ c.callee = .value x ∧ co x = some f ∧ coL co c.args.toList = some args) ∨
      (∃ f args c x, k = .dfr f args ∧ o = .defer c ∧ c.callee = .value x ∧ co x = some f ∧ coL co c.args.toList = some args) ∨
      (∃ f x, k = .pan f ∧ co x = some f ∧ (o = .panic x ∨ ∃ c, o = .call c ∧ c.callee = .builtin .panic ∧ c.args.toList = [x])) ∨ (k = .rcv ∧ ∃ c, o = .call c ∧ c.callee = .builtin .recover ∧ c.args.toList = []) := by
  unfold compOp at hc
  split at hc
  all_goals first
    | (simp only [Option.map_eq_some_iff] at hc; obtain ⟨_, _, rfl⟩ := hc; exact .inl ⟨_, rfl⟩)
    | (split at hc <;> first | (cases hc; done) | (cases hc; exact .inl ⟨_, rfl⟩) | (cases hc; exact .inr (.inl ⟨_, rfl⟩)))
    | (unfold cBuild at hc; repeat' split at hc
       all_goals first | (cases hc; done) | (simp only [Option.map_eq_some_iff] at hc; obtain ⟨_, _, rfl⟩ := hc; exact .inl ⟨_, rfl⟩))
    | (unfold cBuildSlice at hc; repeat' split at hc
       all_goals first | (cases hc; done) | (cases hc; exact .inl ⟨_, rfl⟩))
    | (unfold cMakeSlice at hc; repeat' split at hc
       all_goals first | (cases hc; done) | (cases hc; exact .inl ⟨_, rfl⟩))
    | (unfold cSlice at hc; repeat' split at hc
       all_goals first | (cases hc; done) | (simp only [Option.map_eq_some_iff] at hc; obtain ⟨_, _, rfl⟩ := hc; exact .inl ⟨_, rfl⟩))
    | (unfold cSlice3 at hc; repeat' split at hc
       all_goals first | (cases hc; done) | (simp only [Option.map_eq_some_iff] at hc; obtain ⟨_, _, rfl⟩ := hc; exact .inl ⟨_, rfl⟩))
    | (unfold cFieldAddr at hc; repeat' split at hc
       all_goals first | (cases hc; done) | (cases hc; exact .inl ⟨_, rfl⟩))
    | (unfold cField at hc; repeat' split at hc
       all_goals first | (cases hc; done) | (cases hc; exact .inl ⟨_, rfl⟩))
    | (unfold cIndexAddr at hc; repeat' split at hc
       all_goals first | (cases hc; done) | (simp only [Option.map_eq_some_iff] at hc; obtain ⟨_, _, rfl⟩ := hc; exact .inl ⟨_, rfl⟩))
    | (unfold cIndex at hc; repeat' split at hc
       all_goals first | (cases hc; done) | (cases hc; exact .inl ⟨_, rfl⟩))
    | (unfold cLookup at hc; repeat' split at hc
       all_goals first | (cases hc; done) | (simp only [Option.map_eq_some_iff] at hc; obtain ⟨_, _, rfl⟩ := hc; exact .inl ⟨_, rfl⟩))
    | (unfold cTypeAssert at hc; repeat' split at hc
       all_goals first | (cases hc; done) | (cases hc; exact .inl ⟨_, rfl⟩))
    | (unfold cMapUpdate at hc; repeat' split at hc
       all_goals first | (cases hc; done) | (cases hc; exact .inr (.inl ⟨_, rfl⟩)))
    | (unfold cMapEntry at hc; repeat' split at hc
       all_goals first | (cases hc; done) | (simp only [Option.map_eq_some_iff] at hc; obtain ⟨_, _, rfl⟩ := hc; exact .inr (.inl ⟨_, rfl⟩)))
    | skip
  · cases hc; exact .inl ⟨_, rfl⟩
  · -- panic
    simp only [Option.map_eq_some_iff] at hc
    obtain ⟨f, hf, rfl⟩ := hc
    exact .inr (.inr (.inr (.inr (.inl ⟨f, _, rfl, hf, .inl rfl⟩))))
  · -- defer
    rename_i c
    split at hc
    · rename_i x hx
      split at hc
      · rename_i g as hg has
        cases hc
        exact .inr (.inr (.inr (.inl ⟨_, _, c, x, rfl, rfl, hx, hg, has⟩)))
      · cases hc
    · cases hc
  · rename_i c
    split at hc
    · rename_i x hx
      split at hc
      · rename_i g as hg has
        cases hc
        exact .inr (.inr (.inl ⟨_, _, c, x, rfl, rfl, hx, hg, has⟩))
      · cases hc
    · rename_i b hb
      split at hc
      · rename_i as has
        unfold cBuiltin at hc
        split at hc
        · unfold cAppend at hc; repeat' split at hc
          all_goals first | (cases hc; done) | (cases hc; exact .inl ⟨_, rfl⟩)
        · unfold cLen at hc; repeat' split at hc
          all_goals first | (cases hc; done) | (cases hc; exact .inl ⟨_, rfl⟩)
        · cases hc; exact .inl ⟨_, rfl⟩
        · cases hc; exact .inl ⟨_, rfl⟩
        · split at hc
          · simp only [Option.map_eq_some_iff] at hc; obtain ⟨_, _, rfl⟩ := hc; exact .inr (.inl ⟨_, rfl⟩)
          · cases hc
        · repeat' split at hc
          all_goals first | (cases hc; done) | (cases hc; exact .inr (.inl ⟨_, rfl⟩))
        · cases hc
          obtain ⟨a1, r1, e1, hs1, hr1⟩ := coL_cons has
          have e3 := coL_nil hr1
          subst e3
          exact .inr (.inr (.inr (.inr (.inl ⟨_, a1, rfl, hs1, .inr ⟨c, rfl, hb, e1⟩⟩))))
        · cases hc
          exact .inr (.inr (.inr (.inr (.inr ⟨rfl, c, rfl, hb, coL_nil has⟩))))
        · cases hc
      · cases hc
    · cases hc
  · cases hc


theorem kills_ext (ks : List Nat) (h : Heap) : HExt h (h.kills ks) := by
  refine ⟨by rw [Heap.next_kills]; exact Nat.le_refl _, (Heap.low_kills ks h).1, fun b _ hb => ?_, fun b _ hb => ?_⟩
  · rw [Heap.get_kills, if_neg]
    intro hm
    have := (Heap.low_kills ks h).2 b hm
    omega
  · rw [Heap.get_kills]; split
    · rfl
    · exact hb
theorem kills_wf (ks : List Nat) {h : Heap} (hw : h.wf) : (h.kills ks).wf := fun i hi => by
  rw [Heap.next_kills] at hi
  rw [Heap.get_kills, hw i hi]; simp
theorem grows_ext {h h' : Heap} (hg : Grows h h') : HExt h h' := by
  rcases hg with rfl | ⟨x, rfl⟩
  · exact HExt.refl _
  · exact HExt.push _ _
theorem grows_wf {h h' : Heap} (hg : Grows h h') (hw : h.wf) : h'.wf := by
  rcases hg with rfl | ⟨x, rfl⟩
  · exact hw
  · exact Heap.wf_push hw _
theorem grows_sub {h h' : Heap} (hg : Grows h h') (hw : h.wf) : Sub h h' := by
  rcases hg with rfl | ⟨x, rfl⟩
  · exact Sub.refl _
  · exact Sub.push hw _
theorem grows_hr {h h' : Heap} {ks : List Nat} (hg : Grows h h') (hr : HR G K h ks) : HR G K h' ks := by
  rcases hg with rfl | ⟨x, rfl⟩
  · exact hr
  · exact hr.pushed x
theorem grows_same {h h' : Heap} (hg : Grows h h') {b : Nat} (hb : b < h.next) : h'.get b = h.get b := by
  rcases hg with rfl | ⟨x, rfl⟩
  · rfl
  · rw [Heap.get_push, if_neg (by omega)]
theorem puts_ext {h h' : Heap} (hp : Puts h h') : HExt h h' := by
  rcases hp with rfl | ⟨b, x, hb, rfl⟩
  · exact HExt.refl _
  · exact HExt.alter _ _ _ (.inl hb)
theorem puts_wf {h h' : Heap} (hp : Puts h h') (hw : h.wf) : h'.wf := by
  rcases hp with rfl | ⟨b, x, hb, rfl⟩
  · exact hw
  · intro i hi
    rw [show (h.put b x).next = h.next from Heap.next_alter _ _ _] at hi
    rw [show (h.put b x).get i = if i = b then some x else h.get i from Heap.get_alter _ _ _ _]
    split
    · rename_i e; subst e; rw [hw _ hi] at hb; cases hb
    · exact hw i hi
theorem killO_kills (h : Heap) (k : Option Nat) : h.killO k = h.kills k.toList := by cases k <;> rfl

/-- a plain operation in sequence -/
theorem astep_ok {co : CoF} (hco : OpsOk G.P K co stk vs a.eval) (hr : HR G K h []) (hwf : h.wf) {o : Oper} {f : AF} (hc : compOp G.P co o.op = some (.a f)) {v : AV} {h' : Heap} {kill : Option Nat} (hf : f stk vs h = some (v, h', kill)) :
    ∃ x K', (execOp a.eval o).run G.P K.w = .ok (.value x) K'.w ∧ VR G.P K' v x ∧ HR G K' (h'.killO kill) [] ∧ Stp K h K' (h'.killO kill) := by
  have hg := (aop_grows hc _ _ _ _ _ _ hf).1
  have hr' := grows_hr hg hr
  obtain ⟨⟨x, K1, h1, h2, h3, h4, h5⟩, _⟩ := aop_ok hco hc hf hr' hwf (fun _ => hr.fresh) (Sub.refl _) (Nat.le_refl _) (fun b _ => by simp)
  obtain ⟨h6, h7⟩ := h3.kills
  rw [killO_kills]
  simp only [List.append_nil] at h3 h4 h6 h7
  refine ⟨x, K1.end_ G (h'.kills kill.toList), h1, h2.mono h7.le, h6, ⟨?_, (grows_ext hg).trans (kills_ext _ _), fun hw => kills_wf _ (grows_wf hg hw), fun b hb => (h5 b hb).imp id fun e => by omega⟩⟩
  have same : ∀ b, K.D b → h.get b = h'.get b := fun b hb => (grows_same hg (hr.lt b hb)).symm
  have t1 : Tn (fun i => (h'.kills kill.toList).low ≤ i) h' K K1 := h4.mono fun i hi => (Heap.low_kills _ _).2 i hi
  exact (t1.heap same).trans (h7.mono fun i hi => hi.elim) fun b hb => by rw [same b hb]; exact ⟨fun _ h => h, fun h => h⟩

theorem step_ok {cf : CallFn} {F : Fence} {n : Nat} {rd : Bool} (hF : plainF F) (hrd : F.round = none ∨ rd = true) (hcf : CallOk G V.gl cf) (hv : V.vsl.Nodup) (hs : SR G V m K a vs h dfs) (ht : Stk G.P K a stk ds) {o : Oper} {k : OpK}
    (hk : compOp G.P (compX V ds) o.op = some k) (hro : (rd && isDfr o.op) = false) (hd : dstOk V o.dst = true) {r : OR} (hev : evStep cf stk vs h dfs k = some r) {next : Act → World → Prop} {Q : Exit → Act → World → Prop}
    (hval : ∀ v h' dfs', r = .val v h' dfs' → ∀ K' a', Stp K h K' h' → SR G V m K' a' (putV vs (o.dst.bind (idxN · V.vsl)) v) h' dfs' → Stk G.P K' a' (v :: stk) (o.dst :: ds) → next a' K'.w)
    (hpan : ∀ v h', r = .pan v h' → ∀ K' x, Stp K h K' h' → HR G K' h' [] → VR G.P K' v x → Q (.panic [{ v := x, recovered := false }]) a K'.w) :
    o.wpIn F n G.P a K.w next Q := by
  have hco := ops_ok hs ht
  refine ⟨fun f _ => (plainF_fn hF).1 f, ?_⟩
  have done : ∀ {v h' dfs'} {K' : Kx} {x : Value} {a' : Act}, r = .val v h' dfs' → Stp K h K' h' → HR G K' h' [] → VR G.P K' v x → a'.tmps = a.tmps → DRs G.P K' m dfs' a'.defers → next (a'.put o.dst x) K'.w := by
    intro v h' dfs' K' x a' hr st hr' hx ha hdf
    exact hval v h' dfs' hr K' _ st (put_ok hv hs st.tn.le hr' (st.wf hs.wf) hd hx ha hdf) (stk_ok hs ht st.tn.le hd hx ha)
  rcases comp_none hk with ⟨f, rfl⟩ | ⟨f, rfl⟩ | ⟨f, args, c, x, rfl, ho, hcal, hx, has⟩ | ⟨f, args, c, x, rfl, ho, hcal, hx, has⟩ | ⟨f, x, rfl, hx, ho⟩ | ⟨rfl, _⟩
  · -- plain
    simp only [evStep, ob_some, Option.some.injEq] at hev
    obtain ⟨⟨v, h', kill⟩, hf, rfl⟩ := hev
    obtain ⟨x, K', h1, h2, h3, h4⟩ := astep_ok hco hs.hr hs.wf hk hf
    rw [Oper.semAt_eq _ _ _ (fun c hc => by rw [hc] at hk; simp [compOp] at hk; split at hk <;> (try split at hk) <;> cases hk), h1]
    exact done rfl h4 h3 h2 rfl (hs.dfr.mono h4.tn.le)
  · -- turns memory
    simp only [evStep, ob_some, Option.some.injEq] at hev
    obtain ⟨⟨v, h'⟩, hf, rfl⟩ := hev
    obtain ⟨⟨nx, x, K', h1, h2, h3, h4, h5⟩, h6⟩ := eop_ok hco hk hf hs.hr
    have st : Stp K h K' h' := ⟨h4, puts_ext h6, puts_wf h6, fun b hb => .inl (h5.2 b hb)⟩
    rw [Oper.semAt_eq _ _ _ (fun c hc => by rw [hc] at hk; simp [compOp] at hk; split at hk <;> (try split at hk) <;> cases hk), h1]
    rcases h2 with rfl | ⟨rfl, rfl⟩
    · exact done rfl st h5.1 h3 rfl (hs.dfr.mono h4.le)
    · exact done rfl st h5.1 h3 rfl (hs.dfr.mono h4.le)
  · -- call
    simp only [evStep, ob_some, Option.some.injEq] at hev
    obtain ⟨g, hg, as, has', rr, hrr, rfl⟩ := hev
    have h1 := hcf g as h rr hrr K (a.eval x) (c.args.toList.map a.eval) hs.hr hs.wf hs.gl (hco _ _ _ hx hg) (coL_ok hco has has')
    rw [Oper.semAt_eq _ _ _ (fun c' hc' => by rw [ho] at hc'; cases hc')]
    have e : (execOp a.eval o).run G.P K.w = (do let d ← Deferred.ofValue (a.eval x) (c.args.toList.map a.eval).toArray; invoke d.target d.args : Sem Next).run G.P K.w := by
      have : (c.args.toList.map a.eval).toArray = c.args.map a.eval := by apply Array.ext'; simp
      rw [this]
      simp [execOp, ho, resolve, hcal]
    rw [e]
    have ret : ∀ e w', RetR G K h rr e w' → (match e, w' with
        | .returned v, w'' => next (a.put o.dst v) w''
        | .panicked chain, w'' => Q (.panic chain) a w''
        | .outgrown, _ => LetsOut Q) := by
      rintro e w' ⟨K', rfl, h2, h3, h4⟩
      obtain ⟨rt, h'⟩ := rr
      cases rt with
      | val v =>
        cases e with
        | returned y => exact done rfl h3 h2 h4 rfl (hs.dfr.mono h3.tn.le)
        | panicked ch => exact h4.elim
        | outgrown => exact h4.elim
      | pan v =>
        cases e with
        | returned y => exact h4.elim
        | panicked ch =>
          obtain ⟨y, rfl, h5⟩ := h4
          exact hpan v h' rfl K' y h3 h2 h5
        | outgrown => exact h4.elim
    generalize (do let d ← Deferred.ofValue (a.eval x) (c.args.toList.map a.eval).toArray; invoke d.target d.args : Sem Next).run G.P K.w = res at h1 ⊢
    cases res with
    | halt hh w' => exact h1.elim
    | ok nx w' =>
      cases nx with
      | value y => exact ret (.returned y) w' h1.2
      | enter f' args' =>
        refine ⟨fun hd => (by rw [(plainF_fn hF).2] at hd; cases hd), (h1 F _ hF).mono fun e w'' he => ?_⟩
        have := ret e w'' he
        cases e <;> exact this
      | round l f' tmps as' b =>
        refine ⟨fun hd => (by rw [(plainF_fn hF).2] at hd; cases hd), (h1.2 F _ hF).mono fun e w'' he => ?_⟩
        have := ret e w'' he
        cases e <;> exact this
      | _ => exact h1.elim
  · -- defer
    simp only [evStep, ob_some, Option.some.injEq] at hev
    obtain ⟨g, hg, hev⟩ := hev
    have hround : F.round = none := by
      rcases hrd with h1 | h1
      · exact h1
      · rw [h1, ho] at hro; simp [isDfr] at hro
    rw [hround, Oper.semAt_none]
    have hfv := hco _ _ _ hx hg
    split at hev
    · rename_i f0 a0 c0
      simp only [ob_some, Option.some.injEq] at hev
      obtain ⟨as, has', rfl⟩ := hev
      have hav := coL_ok hco has has'
      have e1 : (c.args.toList.map a.eval).toArray = c.args.map a.eval := by apply Array.ext'; simp
      generalize hρ : a.eval x = y at hfv
      cases hfv with
      | fn _ _ _ va vc h1 h2 =>
        have e : (execOp a.eval o).run G.P K.w = .ok (.defer { target := .fn (.func f0) vc.toArray, args := va.toArray ++ (c.args.toList.map a.eval).toArray }) K.w := by
          simp [execOp, ho, resolve, hcal, hρ, Deferred.ofValue]
        rw [e]
        exact done (a' := { a with defers := _ :: a.defers }) rfl (Stp.refl _ _) hs.hr VR.undef rfl (.cons _ _ _ _ (.mk f0 a0 c0 as va vc _ h1 h2 hav) hs.dfr)
    · cases hev
  · -- panic
    simp only [evStep, ob_some, Option.some.injEq] at hev
    obtain ⟨v, hv', v', hv2, rfl⟩ := hev
    have hx' := hco _ _ _ hx hv'
    unfold asIfc at hv2
    split at hv2
    · rename_i t u
      cases hv2
      generalize hρ : a.eval x = y at hx'
      cases hx' with
      | ifc _ _ z hz =>
        have hP := hpan _ _ rfl K (.iface t z) (Stp.refl _ _) hs.hr (.ifc _ _ _ hz)
        rw [Oper.semAt_eq _ _ _ (fun c' hc' => by rcases ho with ho | ⟨c, ho, _⟩ <;> rw [ho] at hc' <;> cases hc')]
        have e : (execOp a.eval o).run G.P K.w = .halt (.panic (.iface t z)) K.w := by
          rcases ho with ho | ⟨c, ho, hcal, hargs⟩
          · simp [execOp, ho, hρ, Instr.panic, goPanic, Sem.run_bind]
          · obtain ⟨dst, op, type, pos, after, guard⟩ := o
            simp only at ho
            subst ho
            obtain ⟨consts, hrun⟩ := run_call_builtin (P := G.P) a.eval c .panic hcal dst type pos after guard
            rw [hrun]
            have : c.args.map a.eval = #[.iface t z] := by apply Array.ext'; simp [hargs, hρ]
            rw [this]
            rfl
        rw [e]
        exact hP
    · cases hv2
  · cases hev

end

theorem compOpB_some {P : Program} {co : CoF} {o : Op} {k : OpK} (h : compOpB P co o = some k) : compOp P co o = some k ∨ k = .bad := by
  unfold compOpB at h
  cases hc : compOp P co o with
  | none => rw [hc] at h; cases h; exact .inr rfl
  | some k' => rw [hc] at h; cases h; exact .inl rfl
end Hx
