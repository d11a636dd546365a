/- Regions that draw their order: the simulation. -/
import Derived.Test.YtbkihikjgoedbaaGreatHxPre6
namespace Hx
open Go

section
variable {G : Gx} {V : Vn} {cf : CallFn} {ops : Array Oper} {b perm : List Nat} {k : Nat} {l : List Oper} {its : List IT} {T : List PS} {vs0 : List AV} {h0 : Heap} {ds : Defs} {fin : St} {m : Option Nat} {K0 : Kx} {a0 : Act} {F : Fence} {n : Nat} {Q : Exit → Act → World → Prop}

theorem comp_defer {P : Program} {co : CoF} {o : Op} {x : OpK} (hc : compOp P co o = some x) (hd : isDfr o = false) : ∀ c, o ≠ .defer c := fun c e => by rw [e] at hd; cases hd

/-- a call that returns -/
theorem call_wp {K : Kx} {h : Heap} {N : Prop} (hF : plainF F) {a : Act} {o : Oper} {c : Call} {x : Operand} {v : AV} {h1 : Heap} {next : Act → World → Prop} (ho : o.op = .call c) (hcal : c.callee = .value x)
    (h2 : CallN G K h N (.val v, h1) ((do let d ← Deferred.ofValue (a.eval x) (c.args.toList.map a.eval).toArray; invoke d.target d.args : Sem Next).run G.P K.w))
    (hnext : ∀ K' y, HR G K' h1 [] → Stp K h K' h1 → VR G.P K' v y → next (a.put o.dst y) K'.w) : o.wpIn F n G.P a K.w next Q := by
  refine ⟨fun f _ => (plainF_fn hF).1 f, ?_⟩
  rw [Oper.semAt_eq _ _ _ (fun c' hc' => by rw [ho] at hc'; cases hc')]
  have e : (execOp a.eval o).run G.P K.w = (do let d ← Deferred.ofValue (a.eval x) (c.args.toList.map a.eval).toArray; invoke d.target d.args : Sem Next).run G.P K.w := by
    have : (c.args.toList.map a.eval).toArray = c.args.map a.eval := by apply Array.ext'; simp
    rw [this]
    simp [execOp, ho, resolve, hcal]
  rw [e]
  have ret : ∀ e w', RetR G K h (.val v, h1) e w' → (match e, w' with
      | .returned v, w'' => next (a.put o.dst v) w''
      | .panicked chain, w'' => Q (.panic chain) a w''
      | .outgrown, _ => LetsOut Q) := by
    rintro e w' ⟨K', rfl, h3, h4, h5⟩
    cases e with
    | returned y => exact hnext K' y h3 h4 h5
    | panicked ch => exact h5.elim
    | outgrown => exact h5.elim
  generalize (do let d ← Deferred.ofValue (a.eval x) (c.args.toList.map a.eval).toArray; invoke d.target d.args : Sem Next).run G.P K.w = res at h2 ⊢
  cases res with
  | halt hh w' => exact h2.elim
  | ok nx w' =>
    cases nx with
    | value y => exact ret (.returned y) w' h2.2
    | enter f' args' =>
      refine ⟨fun hd => (by rw [(plainF_fn hF).2] at hd; cases hd), (h2 F _ hF).mono fun e w'' he => ?_⟩
      have := ret e w'' he
      cases e <;> exact this
    | round l f' tmps as' b =>
      refine ⟨fun hd => (by rw [(plainF_fn hF).2] at hd; cases hd), (h2.2 F _ hF).mono fun e w'' he => ?_⟩
      have := ret e w'' he
      cases e <;> exact this
    | _ => exact h2.elim

theorem value_wp (hF : plainF F) {a : Act} {o : Oper} {w w' : World} {x : Value} {next : Act → World → Prop} (hnd : ∀ c, o.op ≠ .defer c) (h : (execOp a.eval o).run G.P w = .ok (.value x) w') (hn : next (a.put o.dst x) w') : o.wpIn F n G.P a w next Q := by
  refine ⟨fun f _ => (plainF_fn hF).1 f, ?_⟩
  rw [Oper.semAt_eq _ _ _ hnd, h]
  exact hn

theorem op_step (R : Rgn G V cf ops b perm k l its T vs0 h0 ds fin m K0 a0) (hF : plainF F) {listed : Array Bool} {a : Act} {K : Kx} (C : Com G ops b perm T K0 a0 listed a K) (Z : Phz G V ops perm k l its T vs0 h0 K0 listed K) {i : Nat} (hi : i ∈ Region.ready .any ops listed)
    {next : Act → World → Prop} (hnext : ∀ a' K', Com G ops b perm T K0 a0 (listed.setIfInBounds i true) a' K' → Phz G V ops perm k l its T vs0 h0 K0 (listed.setIfInBounds i true) K' → next a' K'.w) : wpOpIn F n G.P ops Q i next a K.w := by
  obtain ⟨hilt, hni, hrd⟩ := ready_spec R C hi
  obtain ⟨p, hpi⟩ := perm_pos R hilt
  obtain ⟨o, it, s, A⟩ := R.at hpi
  have hl := R.lens
  have hplt := (List.getElem?_eq_some_iff.1 hpi).1
  have e0 : hdAt T h0 0 = h0 := by cases T <;> rfl
  have done : ∀ {K' : Kx} {x : Value}, Kle K K' → VR G.P K' s.v x → Phz G V ops perm k l its T vs0 h0 K0 (listed.setIfInBounds i true) K' → next (a.put o.dst x) K'.w := fun hk hx hz => hnext _ _ (com_put R C A hrd hk hx) hz
  unfold wpOpIn
  rw [A.oi]
  simp only
  have hw := com_guard R C A hrd
  -- where an operation of the head that is not pure may stand
  have hplace : ∀ {mm ksl}, PhA G ops perm k T h0 K0 listed K mm ksl → p < k → p ≤ mm := by
    intro mm ksl Z hpk
    apply Classical.byContradiction
    intro hn
    rcases Z.next with h | ⟨j, h1, h2, h3⟩
    · omega
    · have hj := (R.ok.pos mm j h1).bar (call_jump h2) p i (by omega) hpi
      exact h3 (hrd j hj)
  -- a step that leaves the heap alone
  have noflt : s.on = false → fltOp o = false := fun h => by
    cases hf : fltOp o with
    | false => rfl
    | true => rw [flt_on A hf] at h; cases h
  have quiet : s.on = false → s.h' = s.h → s.kill = none → ∀ {K' : Kx} {x : Value}, Kle K K' → VR G.P K' s.v x → (∀ mm ksl, PhA G ops perm k T h0 K0 listed K mm ksl → HR G K' (hdAt T h0 mm) ksl ∧ Tn (fun i => i ∈ ksl) (hdAt T h0 mm) K K' ∧ ∀ x, K'.D x → K.D x) →
      (pureOp G.P o.op = true → ∀ q, PhB G V ops perm k l its T vs0 h0 K0 listed K q → HR G K' (tlAt k T [] h0 q) [] ∧ Tn (fun i => i ∈ ([] : List Nat)) (tlAt k T [] h0 q) K K' ∧ ∀ x, K'.D x → K.D x) → (pureOp G.P o.op = false → K' = K) → next (a.put o.dst x) K'.w := by
    intro hoff hh hkl K' x hk hx hA hB hK
    cases hpo : pureOp G.P o.op with
    | true =>
      refine done hk hx ?_
      rcases Z with ⟨mm, ksl, Z⟩ | ⟨q, Z⟩
      · obtain ⟨g1, g2, g3⟩ := hA mm ksl Z
        refine .inl ⟨mm, ksl, ?_⟩
        have := pha_step R C.lsz (K' := K') A Z (by rcases Nat.lt_or_ge p mm with h | h; exact .inl h; exact .inr ⟨h, hpo⟩) (by rw [hkl]; exact g1) (by rw [hkl]; exact g2) fun x hx => .inl (g3 x hx)
        rw [hkl] at this
        exact this
      · obtain ⟨g1, g2, g3⟩ := hB hpo q Z
        exact .inr ⟨q, phb_pure R C.lsz A Z (.inl hpo) g1 g2 g3⟩
    | false =>
      have := hK hpo
      subst this
      by_cases hpk : p < k
      · rcases Z with ⟨mm, ksl, Z⟩ | ⟨q, Z⟩
        · obtain ⟨g1, g2, g3⟩ := hA mm ksl Z
          have hpm := hplace Z hpk
          by_cases he : p = mm
          · subst he
            refine done hk hx (pha_call R C.lsz A hpk Z hkl (by rw [hh]; exact HMon.refl _) (by rw [hh, (A.hd hpk).1]; exact g1) (by rw [(A.hd hpk).1]; exact g2) fun x hx => .inl (g3 x hx))
          · refine done hk hx (.inl ⟨mm, ksl, ?_⟩)
            have := pha_step R C.lsz (K' := K') A Z (.inl (by omega)) (by rw [hkl]; exact g1) (by rw [hkl]; exact g2) fun x hx => .inl (g3 x hx)
            rw [hkl] at this
            exact this
        · rcases Z.back p i (by have := Z.kq; omega) hpi (by rw [A.op]; exact hpo) with h | h
          · exact absurd h hni
          · rw [A.op, noflt hoff] at h; cases h
      · obtain ⟨K1, w1, k1, Z1⟩ := to_tail R Z A (by omega) hpo (fun q Z => by
          apply Classical.byContradiction
          intro hn
          rcases Z.back p i (by omega) hpi (by rw [A.op]; exact hpo) with h | h
          · exact hni h
          · rw [A.op, noflt hoff] at h; cases h) hrd
        rw [← w1]
        refine hnext _ K1 (com_put R C A hrd k1 (hx.mono k1)) (.inr ⟨p + 1, phb_step R C.lsz A hpo hrd Z1 ?_ ?_⟩)
        · rw [hh, (A.tl (by omega)).1]; exact Z1.hr
        · rw [hh]; exact Stp.refl _ _
  cases hon : s.on with
  | false =>
    rw [if_neg (by rw [hw, hon]; simp)]
    refine ⟨fun f _ => (plainF_fn hF).1 f, ?_⟩
    obtain ⟨g1, g2, g3⟩ := A.grd.2 hon
    exact quiet hon g2 g3 (Kle.refl K) (by rw [g1]; exact VR.undef) (fun mm ksl Z => ⟨Z.hr, Tn.refl _ _ _, fun x h => h⟩) (fun _ q Z => ⟨Z.hr, Tn.refl _ _ _, fun x h => h⟩) fun _ => rfl
  | true =>
    rw [if_pos (by rw [hw, hon])]
    have hco := com_ops R C A hni hrd
    have hcoA := (compOpB_some A.co).resolve_right (fun e => by
      by_cases hk : p < k
      · have h3 := (A.hd hk).2.1 hon
        rw [e] at h3; cases h3
      · have h3 := ((A.tl (by omega)).2.2 hon).1
        rw [e] at h3; cases h3)
    have hcomp : compOp G.P (coR (compX V (dsAt l [] p)) o.op.operands.toList) o.op = some it.op := by rw [coR_comp]; exact hcoA
    have hnd := comp_defer hcoA A.nd
    cases hpo : pureOp G.P o.op with
    | true =>
      obtain ⟨hh, hkl, hpf⟩ := pure_quiet A hpo
      obtain ⟨f, hf, hpf⟩ := hpf hon
      rw [hf] at hcomp
      rcases Z with ⟨mm, ksl, Z⟩ | ⟨q, Z⟩
      · have hwf : (hdAt T h0 mm).wf := by have := (Z.mon 0 mm (Nat.zero_le _) (Nat.le_refl _)).wf; rw [e0] at this; exact this R.hs.wf
        obtain ⟨⟨x, K', g1, g2, g3, g4, g5⟩, _⟩ := aop_ok hco hcomp (hpf (hdAt T h0 mm)) Z.hr hwf (fun h => absurd h (Nat.lt_irrefl _)) (Sub.refl _) (Nat.le_refl _) (fun b h => by cases h)
        refine value_wp hF hnd g1 (done g4.le g2 (.inl ⟨mm, ksl, ?_⟩))
        have := pha_step R C.lsz (K' := K') A Z (by rcases Nat.lt_or_ge p mm with h | h; exact .inl h; exact .inr ⟨h, hpo⟩) (by rw [hkl]; exact g3) (by rw [hkl]; exact g4) fun x hx => (g5 x hx).imp id fun h => absurd h.2 (Nat.lt_irrefl _)
        rw [hkl] at this
        exact this
      · have hwf : (tlAt k T [] h0 q).wf := Z.st.wf R.hs.wf
        obtain ⟨⟨x, K', g1, g2, g3, g4, g5⟩, _⟩ := aop_ok hco hcomp (hpf (tlAt k T [] h0 q)) Z.hr hwf (fun h => absurd h (Nat.lt_irrefl _)) (Sub.refl _) (Nat.le_refl _) (fun b h => by cases h)
        exact value_wp hF hnd g1 (done g4.le g2 (.inr ⟨q, phb_pure R C.lsz A Z (.inl hpo) g3 g4 fun x hx => (g5 x hx).elim id fun h => absurd h.2 (Nat.lt_irrefl _)⟩))
    | false =>
      by_cases hlate : ∃ q, p < q ∧ PhB G V ops perm k l its T vs0 h0 K0 listed K q
      · -- read late
        obtain ⟨q, hpq, Z⟩ := hlate
        obtain ⟨p', g1, g2, g3, f, g4, g5⟩ := Z.flt p i o s hpq hpi A.oi A.tp hni hpo
        have hcoL := com_opsP R C A hni hrd g1 g2 g3
        have hcompL : compOp G.P (coR (compX V (dsAt l [] p')) o.op.operands.toList) o.op = some (.a f) := by rw [coR_comp]; exact g4
        have hwf : (tlAt k T [] h0 q).wf := Z.st.wf R.hs.wf
        obtain ⟨⟨x, K', e1, e2, e3, e4, e5⟩, _⟩ := aop_ok hcoL hcompL g5 Z.hr hwf (fun h => absurd h (Nat.lt_irrefl _)) (Sub.refl _) (Nat.le_refl _) (fun b h => by cases h)
        exact value_wp hF hnd e1 (done e4.le e2 (.inr ⟨q, phb_pure R C.lsz A Z (.inr hpq) e3 e4 fun x hx => (e5 x hx).elim id fun h => absurd h.2 (Nat.lt_irrefl _)⟩))
      have hlate : ∀ q, PhB G V ops perm k l its T vs0 h0 K0 listed K q → q ≤ p := fun q Z => by
        apply Classical.byContradiction
        intro hn
        exact hlate ⟨q, by omega, Z⟩
      by_cases hpk : p < k
      · -- the head
        rcases Z with ⟨mm, ksl, Z⟩ | ⟨q, Z⟩
        rotate_left
        · have := hlate q Z
          have := Z.kq
          omega
        · have hpm := hplace Z hpk
          cases hcall : isCallOp o.op with
          | false =>
            have hpm' : p < mm := by
              rcases Nat.lt_or_ge p mm with h | h
              · exact h
              · have : p = mm := by omega
                subst this
                rcases Z.next with h | ⟨j, h1, h2, h3⟩
                · omega
                · rw [hpi] at h1; cases h1; rw [A.op, hcall] at h2; cases h2
            obtain ⟨f, hf, hfe⟩ := at_plain A hpk hcall hon
            rw [hf] at hcomp
            have hmp' := Z.mon (p + 1) mm (by omega) (Nat.le_refl _)
            rw [at_h' A] at hmp'
            have hwfs : s.h.wf := by
              have := (Z.mon 0 p (Nat.zero_le _) (by omega)).wf
              rw [e0] at this
              rw [(A.hd hpk).1]; exact this R.hs.wf
            have hgr := grows_mon (aop_grows hcomp _ _ _ _ _ _ hfe).1
            -- the places of other operations' blocks
            have hbefore : ∀ {q jq sq}, q < p → perm[q]? = some jq → T[q]? = some sq → sq.h'.next ≤ s.h.next := by
              intro q jq sq hq hjq htq
              obtain ⟨oq, itq, sq', Aq⟩ := R.at hjq
              have e := Aq.tp; rw [htq] at e; cases e
              rw [← at_h' Aq, (A.hd hpk).1]
              exact (Z.mon (q + 1) p (by omega) (by omega)).next
            have hafter : ∀ {q jq sq}, p < q → q < mm → perm[q]? = some jq → T[q]? = some sq → s.h'.next ≤ sq.h.next := by
              intro q jq sq hq hqm hjq htq
              obtain ⟨oq, itq, sq', Aq⟩ := R.at hjq
              have e := Aq.tp; rw [htq] at e; cases e
              rw [← at_h' A, (Aq.hd (by have := Z.mkk; omega)).1]
              exact (Z.mon (p + 1) q (by omega) (by omega)).next
            obtain ⟨⟨x, K', g1, g2, g3, g4, g5⟩, _⟩ := aop_ok hco hcomp hfe Z.hr hwfs (fun hlt hd => by
                rcases Z.dom _ hd with h | ⟨q, jq, sq, h1, h2, h3, h4, h5, h6⟩
                · have h7 := R.hs.hr.lt _ h
                  have h8 := (Z.mon 0 p (Nat.zero_le _) (by omega)).next
                  rw [e0, ← (A.hd hpk).1] at h8
                  omega
                · rcases Nat.lt_trichotomy q p with h7 | h7 | h7
                  · have := hbefore h7 h2 h4; omega
                  · subst h7; rw [hpi] at h2; cases h2; exact hni h3
                  · have := hafter h7 h1 h2 h4; omega)
              (hmp'.sub (hgr.wf hwfs)) hmp'.next (fun x hx hm => by
                obtain ⟨q, jq, sq, h1, h2, h3, h4, h5⟩ := Z.kin x hm
                have hmk := Z.mkk
                rcases Nat.lt_trichotomy q p with h7 | h7 | h7
                · exact (A.hd hpk).2.2 x hx (ksAt_mem.2 (.inr ⟨q, sq, h7, h4, h5⟩))
                · subst h7; rw [hpi] at h2; cases h2; exact hni h3
                · obtain ⟨oq, itq, sq', Aq⟩ := R.at h2
                  have e := Aq.tp; rw [h4] at e; cases e
                  exact (Aq.hd (by omega)).2.2 x h5 (ksAt_mem.2 (.inr ⟨p, s, h7, A.tp, hx⟩)))
            exact value_wp hF hnd g1 (done g4.le g2 (.inl ⟨mm, _, pha_step R C.lsz A Z (.inl hpm') g3 g4 fun x hx => (g5 x hx).imp id fun h => ⟨hpm', by omega, by omega⟩⟩))
          | true =>
            have hpe : p = mm := by
              apply Classical.byContradiction
              intro hne
              exact hni (Z.calls p i (by omega) hpi (by rw [A.op]; exact hcall))
            subst hpe
            obtain ⟨_, h2, _⟩ := A.hd hpk
            have h3 := h2 hon
            unfold evAtom at h3
            split at h3
            · rename_i f hf
              exfalso
              have hco' := hcoA
              rw [hf] at hco'
              generalize o.op = op at hcall hco'
              cases op <;> simp only [isCallOp, reduceCtorEq, Bool.false_eq_true] at hcall
              rename_i c
              obtain ⟨cal, args, ts⟩ := c
              cases cal <;> simp at hcall
              simp only [compOp] at hco'
              split at hco' <;> cases hco'
            · rename_i f args hf
              split at h3
              · rename_i hks
                rw [hf] at hcomp
                obtain ⟨c, x, ho, hcal, hx, has⟩ := comp_call hcomp
                simp only [ob_some] at h3
                obtain ⟨g, hg, as, has', h3⟩ := h3
                simp only [atomC, ob_some] at h3
                obtain ⟨⟨rt, h1⟩, hcfe, h3⟩ := h3
                cases rt with
                | pan v => cases h3
                | val v =>
                  simp only [bif_none, Nat.ble_eq, Option.some.injEq, Prod.mk.injEq] at h3
                  obtain ⟨hlow, rfl, hh, hkl⟩ := h3
                  have hkl' : ksl = [] := by
                    rw [List.eq_nil_iff_forall_not_mem]
                    intro y hy
                    obtain ⟨q, jq, sq, h4, h5, h6, h7, h8⟩ := Z.kin y hy
                    have := (ksAt_mem (T := T) (ks := []) (p := p)).2 (.inr ⟨q, sq, h4, h7, h8⟩)
                    rw [hks] at this; cases this
                  subst hkl'
                  have hrH : HR G K s.h [] := by rw [(A.hd hpk).1]; exact Z.hr
                  have hwfs : s.h.wf := by
                    have := (Z.mon 0 p (Nat.zero_le _) (Nat.le_refl _)).wf
                    rw [e0] at this
                    rw [(A.hd hpk).1]; exact this R.hs.wf
                  have hcn := R.hcf g as { s.h with low := s.h.next } _ hcfe K (a.eval x) (c.args.toList.map a.eval) (hrH.relow _) hwfs (R.hs.gl.mono C.kle) (hco _ _ _ hx hg) (coL_ok hco has has')
                  refine call_wp hF ho hcal hcn fun K' y hr' st' hy => ?_
                  have hsame : ∀ j, j < s.h.next → h1.get j = s.h.get j := fun j hj => st'.ext.same j hj (by omega)
                  have hmh : HMon s.h s.h' := by
                    rw [← hh]
                    exact ⟨st'.ext.next, hsame, fun hw => st'.wf hw, rfl⟩
                  refine done st'.tn.le hy (pha_call R C.lsz A hpk Z hkl.symm hmh (by rw [← hh]; exact hr'.relow _) ⟨st'.tn.le, fun j hj hs hn => st'.tn.unt j hj hs (by
                      have := hrH.lt j hj
                      show ¬ h1.low ≤ j; omega), fun j hj hnj => ?_⟩ fun j hj => ?_)
                  · rcases st'.tn.nb j hj hnj with h4 | ⟨u, h4, h5, h6, h7⟩
                    · exact .inl h4
                    · have := hrH.lt u h4
                      exact absurd h6 (by show ¬ h1.low ≤ u; omega)
                  · by_cases hjd : K.D j
                    · exact .inl hjd
                    · refine .inr ⟨?_, by rw [← hh]; exact hr'.lt j hj⟩
                      exact (st'.dm j hj).resolve_left hjd
              · cases h3
            · cases h3
      · -- behind it
        obtain ⟨K1, w1, k1, Z1⟩ := to_tail R Z A (by omega) hpo hlate hrd
        have C1 := C.mono k1
        have hco1 := com_ops R C1 A hni hrd
        have eh := (A.tl (by omega)).1
        have hr1 : HR G K1 s.h [] := by rw [eh]; exact Z1.hr
        have hwf1 : s.h.wf := by rw [eh]; exact Z1.st.wf R.hs.wf
        obtain ⟨hkl, htl⟩ := (A.tl (by omega)).2
        have htl := (htl hon).1
        rw [← w1]
        have done1 : ∀ {K' : Kx} {x : Value}, Stp K1 s.h K' s.h' → HR G K' s.h' [] → VR G.P K' s.v x → next (a.put o.dst x) K'.w := fun st hr hx =>
          hnext _ _ (com_put R C1 A hrd st.tn.le hx) (.inr ⟨p + 1, phb_step R C.lsz A hpo hrd Z1 hr st⟩)
        rcases comp_none hcomp with ⟨f, hf⟩ | ⟨f, hf⟩ | ⟨f, args, c, x, hf, ho, hcal, hx, has⟩ | ⟨f, args, c, x, hf, ho, _⟩ | ⟨f, x, hf, _⟩ | ⟨hf, _⟩
        · rw [hf] at hcomp htl
          simp only [evStep, ob_some, Option.some.injEq] at htl
          obtain ⟨⟨v, h', kill⟩, hfe, he⟩ := htl
          obtain ⟨x, K', g1, g2, g3, g4⟩ := astep_ok hco1 hr1 hwf1 hcomp hfe
          unfold aR at he
          simp only [OR.val.injEq] at he
          obtain ⟨rfl, he, _⟩ := he
          rw [he] at g3 g4
          exact value_wp hF hnd g1 (done1 g4 g3 g2)
        · rw [hf] at hcomp htl
          simp only [evStep, ob_some, Option.some.injEq] at htl
          obtain ⟨⟨v, h'⟩, hfe, he⟩ := htl
          obtain ⟨⟨nx, x, K', g1, g2, g3, g4, g5⟩, g6⟩ := eop_ok hco1 hcomp hfe hr1
          simp only [OR.val.injEq] at he
          obtain ⟨rfl, rfl, _⟩ := he
          have st : Stp K1 s.h K' s.h' := ⟨g4, puts_ext g6, puts_wf g6, fun b hb => .inl (g5.2 b hb)⟩
          refine ⟨fun f _ => (plainF_fn hF).1 f, ?_⟩
          rw [Oper.semAt_eq _ _ _ hnd, g1]
          rcases g2 with rfl | ⟨rfl, rfl⟩
          · exact done1 st g5.1 g3
          · exact done1 st g5.1 g3
        · rw [hf] at htl
          simp only [evStep, ob_some, Option.some.injEq] at htl
          obtain ⟨g, hg, as, has', ⟨rt, h1⟩, hcfe, he⟩ := htl
          cases rt with
          | pan v => cases he
          | val v =>
            simp only [callR, OR.val.injEq] at he
            obtain ⟨rfl, rfl, _⟩ := he
            have hcn := R.hcf g as s.h _ hcfe K1 (a.eval x) (c.args.toList.map a.eval) hr1 hwf1 (R.hs.gl.mono C1.kle) (hco1 _ _ _ hx hg) (coL_ok hco1 has has')
            exact call_wp hF ho hcal hcn fun K' y hr' st' hy => done1 st' hr' hy
        · exact absurd ho (hnd c)
        · rw [hf] at htl
          simp only [evStep, ob_some] at htl
          obtain ⟨_, _, _, _, he⟩ := htl
          cases he
        · rw [hf] at htl; cases htl

end
end Hx
