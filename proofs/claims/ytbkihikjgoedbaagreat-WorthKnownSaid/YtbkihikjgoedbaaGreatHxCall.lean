/- Calls: functions and rounds. -/
import Derived.Test.YtbkihikjgoedbaaGreatHxUnw
namespace Hx
open Go

theorem callsIn_plain {F : Fence} (hF : plainF F) {n : Nat} {P : Program} {f : FuncId} {args : Array Value} {w : World} {R : Ending → World → Prop} (h : CallsIn Fence.wide n P f args w R) : CallsIn F n P f args w R := by
  have h' : CallsIn F.plain n P f args w R := by rw [show F.plain = Fence.wide from hF]; exact h
  exact h'

theorem refless_ok {P : Program} {K K' : Kx} {v : AV} {x : Value} (hv : refless v = true) (h : VR P K v x) : VR P K' v x := by
  cases h <;> first
    | (cases hv; done)
    | constructor
theorem reflessL_ok {P : Program} {K K' : Kx} : ∀ {l : List AV} {r : List Value}, reflessL l = true → VRs P K l r → VRs P K' l r
  | [], r, _, h => by cases h; exact .nil
  | v :: l, r, hv, h => by
    cases h with
    | cons _ x _ r h1 h2 =>
      have hv' : bif_ (refless v) (reflessL l) false = true := hv
      rw [bif_eq] at hv'
      split at hv'
      · rename_i h3; exact .cons _ _ _ _ (refless_ok h3 h1) (reflessL_ok hv' h2)
      · cases hv'
theorem oneNoRef_ok {P : Program} {K K' : Kx} {v : AV} {x : Value} (hv : oneNoRef v = true) (h : VR P K v x) : VR P K' v x := by
  unfold oneNoRef at hv
  split at hv
  · cases h with | agg _ _ h => exact .agg _ _ (reflessL_ok hv h)
  · exact refless_ok hv h
theorem tupNoRef_ok {P : Program} {K K' : Kx} : ∀ {l : List AV} {r : List Value}, tupNoRef l = true → VRs P K l r → VRs P K' l r
  | [], r, _, h => by cases h; exact .nil
  | v :: l, r, hv, h => by
    cases h with
    | cons _ x _ r h1 h2 =>
      have hv' : bif_ (oneNoRef v) (tupNoRef l) false = true := hv
      rw [bif_eq] at hv'
      split at hv'
      · rename_i h3; exact .cons _ _ _ _ (oneNoRef_ok h3 h1) (tupNoRef_ok hv' h2)
      · cases hv'
theorem hasNoRef_ok {P : Program} {K K' : Kx} {v : AV} {x : Value} (hv : hasNoRef v = true) (h : VR P K v x) : VR P K' v x := by
  unfold hasNoRef at hv
  split at hv
  · cases h with | tup _ vs h => exact .tup _ _ (tupNoRef_ok hv h)
  · exact oneNoRef_ok hv h

section
variable {G : Gx} {gl : Nat → Option (List AV)} {C : Ctx} {cf : CallFn} {L : Nat}

theorem HR.relow {K : Kx} {h : Heap} {ks : List Nat} (hr : HR G K h ks) (l : Nat) : HR G K { h with low := l } ks := hr.agree hr.lt fun _ _ => rfl
theorem HR.lower {K : Kx} {h : Heap} {ks : List Nat} (hr : HR G K h ks) (l : Nat) : HR G K (h.lower l) ks := hr.agree (fun b hb => by rw [Heap.next_lower]; exact hr.lt b hb) fun b _ => Heap.get_lower _ _ _

/-- a call's heap, from the caller's view -/
theorem Stp.up {K K' : Kx} {h h' : Heap} (hr : HR G K h []) (hw : h.wf) (st : Stp K { h with low := h.next } K' h') : Stp K h K' (h'.lower h.low) := by
  refine ⟨((st.tn.mono fun i hi => ?_).heap fun b hb => rfl), ⟨?_, ?_, fun b h1 h2 => ?_, fun b h1 h2 => ?_⟩, fun _ => ?_, st.dm⟩
  · rw [Heap.low_lower]; omega
  · rw [Heap.next_lower]; exact st.ext.next
  · rw [Heap.low_lower]; omega
  · rw [Heap.low_lower] at h2
    rw [Heap.get_lower]; exact st.ext.same b h1 (by omega)
  · rw [Heap.get_lower]; exact st.ext.dead b h1 h2
  · have := st.wf hw
    intro i hi
    rw [Heap.next_lower] at hi
    rw [Heap.get_lower]; exact this i hi

/-- the caller's heap again -/
theorem Stp.drop {K K' : Kx} {h h' : Heap} (hr : HR G K h []) (st : Stp K { h with low := h.next } K' h') (hl : h.next ≤ h'.low) : HR G (K.on K'.w) h [] ∧ Stp K h (K.on K'.w) h := by
  have unt : ∀ b, K.D b → (h.get b).isSome = true → K'.w.heap[K.bl b]? = K.w.heap[K.bl b]? := fun b hb hs => st.tn.unt b hb hs (by have := hr.lt b hb; show ¬ h'.low ≤ b; omega)
  have hle : Kle K (K.on K'.w) := ⟨fun _ h => h, fun _ _ => rfl, fun _ _ => rfl, fun _ h => .inl h, st.tn.le.imm, st.tn.le.shp, st.tn.le.lps, st.tn.le.size, st.tn.le.fr⟩
  refine ⟨⟨hr.lt, fun b hb => Nat.lt_of_lt_of_le (hr.inh b hb) st.tn.le.size, hr.own, hr.old, fun b x hb hx => (hr.blk b x hb hx).mono hle hb (unt b hb (by rw [hx]; rfl)), hr.dist, hr.aold, Nat.le_trans hr.bsz st.tn.le.size⟩,
    ⟨hle, fun b hb hs _ => unt b hb hs, fun b hb hn => absurd hb hn⟩, HExt.refl _, fun h => h, fun _ h => .inl h⟩

theorem ret_ok {K K' : Kx} {h h' : Heap} (hr : HR G K h []) (hw : h.wf) (st : Stp K { h with low := h.next } K' h') (hr' : HR G K' h' []) {v : AV} {x : Value} (hv : VR G.P K' v x) : RetR G K h (retV h h' v) (.returned x) K'.w := by
  unfold retV
  rw [bif_eq]
  split
  · rename_i hc
    rw [Bool.and_eq_true, Nat.ble_eq] at hc
    obtain ⟨h1, h2⟩ := st.drop hr hc.2
    exact ⟨K.on K'.w, rfl, h1, h2, hasNoRef_ok hc.1 hv⟩
  · exact ⟨K', rfl, hr'.lower _, st.up hr hw, hv⟩

theorem callF_ok (hC : CtxOk G gl C) (hpre : ∀ V : Vn, V.gl = gl → V.vsl.Nodup → PreOk G V cf L) (hcf : CallOk G gl cf) {f : Nat} {args : List AV} {h : Heap} {r : Ret × Heap} (he : callF C cf L f args h = some r) {K : Kx} {avs : List Value} (hr : HR G K h []) (hw : h.wf)
    (hg : GlOk G.P K gl) (ha : VRs G.P K args avs) {N : Prop} (hN : N → ∃ l, .fn (.yield l) [] [] ∈ args) : CallN G K h N r ((callFunc f avs.toArray).run G.P K.w) := by
  unfold callF at he
  split at he
  · rename_i fi hfi
    simp only [ob_some] at he
    obtain ⟨vs, hvs, ⟨ex, s'⟩, hbody, he⟩ := he
    obtain ⟨fn, b, vsl, base, dfr, hf, hb, hcomp, hbd⟩ := hC.fn f fi hfi
    obtain ⟨hvn, hcb, hcr, hnp, hnv, _⟩ := compF_some hb hcomp
    have hname : (fn.name != "runtime.NumGoroutine") = true := by
      unfold vnOk at hvn; simp only [Bool.and_eq_true] at hvn; exact hvn.2
    have hnd : vsl.Nodup := by
      unfold vnOk at hvn; simp only [Bool.and_eq_true] at hvn; exact noDup_nodup hvn.1.1.1.2
    rw [run_callFunc hf hb hname]
    intro F n hF
    refine callsIn_plain hF (callsIn_of_wp_marks hf hb trivial ?_)
    obtain ⟨hsl, hnt⟩ := init_slots hvn hnp hnv hvs ha
    have hr1 := hr.relow h.next
    have hw1 : Heap.wf { h with low := h.next } := hw
    have hsr : SR G ⟨vsl, fn.ntmps, gl⟩ (some K.w.heap.size) K { tmps := avs.toArray ++ Array.replicate (fn.ntmps - avs.toArray.size) undef, defers := [] } vs { h with low := h.next } [] :=
      ⟨hsl, hnt, hr1, hw1, .nil, hg⟩
    refine comp_ok (F := Fence.wide) (V := ⟨vsl, fn.ntmps, gl⟩) (hpre ⟨vsl, fn.ntmps, gl⟩ rfl hnd) hcf hnd rfl (.inl ⟨rfl, rfl⟩) b base fi.body hcb hbd (.inr rfl) n ex s' K _ ⟨vs, { h with low := h.next }, []⟩ _ hbody hsr
      ⟨fun l hl => (by cases hl), fun m0 hm => (by cases hm; exact Nat.le_refl _)⟩ fun e a' K' st hs' hxe => ?_
    have fin : ∀ (p : Option AV) (u : FrameMode), MdR G.P K' p false u → (ob (unwindA C cf L s'.ds p s'.h) fun r => match r with
      | (none, h1) => ob (mapO (resultA s'.vs h1) fi.res) fun l => some (retV h h1 (tupV l))
      | (some v, h1) => some (.pan v, h1.lower h.low)) = some r → LeavesInM Fence.wide n G.P fn a'.tmps (RetR G K h r) a'.defers u K'.w := by
      intro p u hmd hun
      rw [ob_some] at hun
      obtain ⟨⟨p', h'⟩, hun, hres⟩ := hun
      refine unwind_ok hC hpre hcf hr1 (fun m0 hm => by cases hm; exact Nat.le_refl _) a'.defers s'.ds K' s'.h p u hs'.dfr hs'.hr hs'.wf hs'.gl st hmd hs'.slots hun fun K2 u2 st2 hr2 hw2 hmd2 hsl2 => ?_
      cases p' with
      | none =>
        have hu : u2 = .returning := hmd2
        subst hu
        simp only [ob_some, Option.some.injEq] at hres
        obtain ⟨l, hl, rfl⟩ := hres
        obtain ⟨x, h3, h4⟩ := results_run hr2 (V := ⟨vsl, fn.ntmps, gl⟩) hsl2 hcr hl
        exact ⟨x, h3, ret_ok hr hw st2 hr2 h4⟩
      | some v =>
        obtain ⟨x, rfl, hx⟩ := hmd2
        simp only [Option.some.injEq] at hres
        subst hres
        exact ⟨K2, rfl, hr2.lower _, st2.up hr hw, x, rfl, hx⟩
    cases ex with
    | normal =>
      cases e <;> simp only [ExR] at hxe
      exact fin none .returning rfl he
    | ret =>
      cases e <;> simp only [ExR] at hxe
      exact fin none .returning rfl he
    | panic v =>
      cases e <;> simp only [ExR] at hxe
      obtain ⟨x, rfl, hx⟩ := hxe
      exact fin (some v) _ ⟨x, rfl, hx⟩ he
    | exit i => cases he
    | goto i => cases he
  · rename_i hfi
    simp only [ob_some, Option.some.injEq] at he
    obtain ⟨F, hF, v, hv, rfl⟩ := he
    obtain ⟨x, h1, h2, h3⟩ := hC.ext f F hfi hF args v hv K avs ha
    rw [h1]
    exact ⟨fun hn => (let ⟨l, hl⟩ := hN hn; h3 l hl), K, rfl, hr, Stp.refl _ _, h2⟩


theorem getLp_some {h : Heap} {l : Nat} {q : LoopState × Option Jump × List AV × List Nat × Nat} (hq : getLp h l = some q) : h.get l = some (.loop q.1 q.2.1 q.2.2.1 q.2.2.2.1 q.2.2.2.2) := by
  unfold getLp at hq
  rw [ob_some] at hq
  obtain ⟨x, hx, hq⟩ := hq
  cases x <;> simp only [reduceCtorEq, Option.some.injEq] at hq
  subst hq; exact hx

theorem assign_ok {P : Program} {K : Kx} {vsl : List Nat} (hv : vsl.Nodup) : ∀ (ps : List Nat) (ts : List Nat) (args : List AV) (avs : List Value) (vs vs' : List AV) (tmps : Array Value), ps.length = ts.length → (∀ (i p : Nat), ps[i]? = some p → vsl[p]? = ts[i]?) → VRs P K args avs →
    Slots P K vsl vs tmps → assignVs ps args vs = some vs' → avs.length = ts.length ∧ Slots P K vsl vs' ((ts.zip avs).foldl (fun tmps (t, a) => tmps.setIfInBounds t a) tmps) ∧ ((ts.zip avs).foldl (fun (tmps : Array Value) (t, a) => tmps.setIfInBounds t a) tmps).size = tmps.size
  | [], ts, args, avs, vs, vs', tmps, hl, hp, ha, hs, he => by
    have : ts = [] := by cases ts with | nil => rfl | cons => simp at hl
    subst this
    cases args with
    | nil => cases he; cases ha; exact ⟨rfl, hs, rfl⟩
    | cons => cases he
  | p :: ps, ts, args, avs, vs, vs', tmps, hl, hp, ha, hs, he => by
    cases ts with
    | nil => simp at hl
    | cons t ts =>
      cases args with
      | nil => cases he
      | cons v args =>
        cases ha with
        | cons _ x _ avs hv1 ha =>
          have he' : assignVs ps args (set1 vs p v) = some vs' := he
          have hpt : vsl[p]? = some t := by simpa using hp 0 p rfl
          have hs' : Slots P K vsl (set1 vs p v) (tmps.setIfInBounds t x) := by
            rw [set1_eq]
            refine ⟨by rw [List.length_set]; exact hs.1, fun i u hi => ?_⟩
            obtain ⟨v', y, h1, h2, h3⟩ := hs.2 i u hi
            by_cases hip : i = p
            · subst hip
              rw [hpt] at hi; cases hi
              refine ⟨v, x, ?_, ?_, hv1⟩
              · rw [List.getElem?_set, if_pos rfl, if_pos (List.getElem?_eq_some_iff.1 h1).1]
              · simp [(Array.getElem?_eq_some_iff.1 h2).1]
            · refine ⟨v', y, ?_, ?_, h3⟩
              · rw [List.getElem?_set, if_neg (fun e => hip e.symm)]; exact h1
              · rw [Array.getElem?_setIfInBounds_ne]
                · exact h2
                · intro e; subst e
                  obtain ⟨q1, e1⟩ := List.getElem?_eq_some_iff.1 hpt
                  obtain ⟨q2, e2⟩ := List.getElem?_eq_some_iff.1 hi
                  have hpw := List.pairwise_iff_getElem.1 hv
                  rcases Nat.lt_trichotomy i p with h7 | h7 | h7
                  · exact hpw i p q2 q1 h7 (e2.trans e1.symm)
                  · exact hip h7
                  · exact hpw p i q1 q2 h7 (e1.trans e2.symm)
          obtain ⟨h1, h2, h3⟩ := assign_ok hv ps ts args avs _ vs' _ (by simpa using hl) (fun i q hq => by simpa using hp (i + 1) q (by simpa using hq)) ha hs' he'
          refine ⟨by simp [h1], h2, ?_⟩
          have : ((List.zip (t :: ts) (x :: avs)).foldl (fun (tmps : Array Value) (t, a) => tmps.setIfInBounds t a) tmps).size = (tmps.setIfInBounds t x).size := h3
          simpa using this

theorem callY_ok (hC : CtxOk G gl C) (hpre : ∀ V : Vn, V.gl = gl → V.vsl.Nodup → PreOk G V cf L) (hcf : CallOk G gl cf) {l : Nat} {args : List AV} {h : Heap} {r : Ret × Heap} (he : callY C cf L l args h = some r) {K : Kx} {avs : List Value} (hr : HR G K h []) (hw : h.wf)
    (hg : GlOk G.P K gl) (ha : VRs G.P K args avs) (hd : K.D l) {N : Prop} (hN : ¬ N) : CallN G K h N r ((Instr.yield (K.bl l) avs.toArray).run G.P K.w) := by
  unfold callY at he
  simp only [ob_some] at he
  obtain ⟨⟨st, pend, vs, ps, bid⟩, hq, c, hc, vs', hvs', ⟨ex, s⟩, hasg, he⟩ := he
  simp only at hc hvs' hasg he
  have hget := getLp_some hq
  obtain ⟨L0, I, g1, g2, g3, g4, g5, g6, g7, g8, g9, g10, g11⟩ := hr.blk l _ hd hget
  obtain ⟨I', n1, n2, b1, b2, b3, b4, b5, b6⟩ := hC.bd _ c hc
  simp only at g2
  rw [g2] at b1
  cases b1
  obtain ⟨a1, a2, a3⟩ := assign_ok b6 ps I.ps args avs vs vs' L0.tmps g9 g10 ha g8 hvs'
  have hsz : avs.toArray.size = L0.params.size := by rw [g5]; simpa using a1
  let tm : Array Value := (L0.params.zip avs.toArray).foldl (fun tmps (t, a) => tmps.setIfInBounds t a) L0.tmps
  have htm : tm = (I.ps.zip avs).foldl (fun tmps (t, a) => tmps.setIfInBounds t a) L0.tmps := by
    show (L0.params.zip avs.toArray).foldl _ _ = _
    rw [g5]; simp
  have hrun : (Instr.yield (K.bl l) avs.toArray).run G.P K.w = .ok (.round (K.bl l) L0.fn tm L0.assign L0.body) K.w := by
    simp only [Instr.yield, Sem.run_bind, run_getLoop g1, Result.andThen_ok, ne_eq, hsz, not_true_eq_false, if_false, Sem.run_pure]
    rfl
  rw [hrun]
  refine ⟨hN, fun F n hF => roundIn_of_wpIn ((plainF_fn hF).1 _) ?_⟩
  have hFl : plainF (F.inRound (K.bl l)) := hF
  have hsr : SR G ⟨I.vsl, I.nt, gl⟩ (some 0) K { tmps := tm, defers := [] } vs' h [] :=
    ⟨by rw [htm]; exact a2, by rw [htm]; exact Nat.le_trans g11 (Nat.le_of_eq a3.symm), hr, hw, .nil, hg⟩
  have hcx : Cx (F.inRound (K.bl l)) (some 0) K := ⟨fun l' hl => by cases hl; exact ⟨L0, g1⟩, fun m0 hm => by cases hm; exact Nat.zero_le _⟩
  rw [g6, g7]
  refine comp_ok (V := ⟨I.vsl, I.nt, gl⟩) (hpre ⟨I.vsl, I.nt, gl⟩ rfl b6) hcf b6 hFl (.inr rfl) I.assign n1 c.1 b2 b4 (.inr rfl) n ex s K _ ⟨vs', h, []⟩ _ hasg hsr hcx fun e a1 K1 st1 hs1 hxe => ?_
  unfold midY at he
  cases ex <;> simp only [reduceCtorEq] at he
  cases e <;> simp only [ExR] at hxe
  cases hsd : s.ds with
  | cons x y => simp only [hsd] at he; cases he
  | nil =>
    simp only [hsd, ob_some] at he
    obtain ⟨⟨st1', pend1, vs1, ps1, bid1⟩, hq1, he⟩ := he
    have hget1 := getLp_some hq1
    simp only at he
    cases st1' <;> simp only [reduceCtorEq, ob_some] at he
    obtain ⟨⟨ex2, s2⟩, hbody, he⟩ := he
    have hd1 : K1.D l := st1.tn.le.D l hd
    have hbl1 : K1.bl l = K.bl l := st1.tn.le.bl l hd
    obtain ⟨L1, I1, k1, k2, k3, k4, k5, k6, k7, k8, k9, k10, k11⟩ := hs1.hr.blk l _ hd1 hget1
    obtain ⟨w1, w2⟩ := hs1.hr.writeLoop (x := .loop .busy pend1 vs1 ps1 bid1) (R' := { L1 with state := .busy }) hd1 (by rw [hget1]; rfl) k1 (fun hle => by
      refine ⟨{ L1 with state := .busy }, I1, ?_, k2, rfl, k4, k5, k6, k7, k8.mono hle, k9, k10, k11⟩
      have hlt : K1.bl l < K1.w.heap.size := hs1.hr.inh _ hd1
      show (K1.w.heap.setIfInBounds _ _)[K1.bl l]? = _
      simp [hlt])
    rw [hbl1] at k1 w1 w2
    have hbr : (Instr.beginRound (K.bl l)).run G.P K1.w = .ok () { K1.w with heap := K1.w.heap.setIfInBounds (K.bl l) (.loop { L1 with state := .busy }) } := by
      have k3' : L1.state = .ready := k3
      simp [Instr.beginRound, run_getLoop k1, run_setLoop k1, Sem.run_bind, k3']
    refine ⟨_, hbr, ?_⟩
    have st2 := st1.trans hr w2
    have hs2 : SR G ⟨I.vsl, I.nt, gl⟩ (some 0) (K1.on { K1.w with heap := K1.w.heap.setIfInBounds (K.bl l) (.loop { L1 with state := .busy }) }) a1 s.vs (s.h.put l (.loop .busy pend1 vs1 ps1 bid1)) [] := by
      have h0 := hs1.dfr
      rw [hsd] at h0
      exact ⟨hs1.slots.mono w2.tn.le, hs1.nt, w1, w2.wf hs1.wf, h0.mono w2.tn.le, hs1.gl.mono w2.tn.le⟩
    have hcx2 := hcx.mono st2.tn.le
    refine comp_ok (V := ⟨I.vsl, I.nt, gl⟩) (hpre ⟨I.vsl, I.nt, gl⟩ rfl b6) hcf b6 hFl (.inr rfl) I.body n2 c.2 b3 b5 (.inr rfl) n ex2 s2 _ _ ⟨s.vs, s.h.put l (.loop .busy pend1 vs1 ps1 bid1), []⟩ _ hbody hs2 hcx2 fun e a3 K3 st3 hs3 hxe3 => ?_
    have st13 := st2.trans hr st3
    unfold endY at he
    cases hsd3 : s2.ds with
    | cons x y => simp only [hsd3] at he; cases he
    | nil =>
      simp only [hsd3, ob_some] at he
      obtain ⟨⟨st3', pend3, vs3, ps3, bid3⟩, hq3, he⟩ := he
      have hget3 := getLp_some hq3
      have hd3 : K3.D l := st13.tn.le.D l hd
      have hbl3 : K3.bl l = K.bl l := st13.tn.le.bl l hd
      obtain ⟨L3, I3, m1, m2, m3, m4, m5, m6, m7, m8, m9, m10, m11⟩ := hs3.hr.blk l _ hd3 hget3
      have fin : ∀ (j : Option Jump) (b : Bool), b = j.isNone → r = (.val (.bool b), s2.h.put l (.loop (if j.isNone then .ready else .done) j vs3 ps3 bid3)) → ∃ v w', (Instr.endRound (K.bl l) (j.map jumpC)).run G.P K3.w = .ok v w' ∧ RetR G K h r (.returned v) w' := by
        intro j b hb hj
        obtain ⟨u1, u2⟩ := hs3.hr.writeLoop (x := .loop (if j.isNone then .ready else .done) j vs3 ps3 bid3) (R' := { L3 with state := if j.isNone then .ready else .done, pending := j.map jumpC }) hd3 (by rw [hget3]; rfl) m1 (fun hle => by
          refine ⟨{ L3 with state := if j.isNone then .ready else .done, pending := j.map jumpC }, I3, ?_, m2, rfl, rfl, m5, m6, m7, m8.mono hle, m9, m10, m11⟩
          have hlt : K3.bl l < K3.w.heap.size := hs3.hr.inh _ hd3
          show (K3.w.heap.setIfInBounds _ _)[K3.bl l]? = _
          simp [hlt])
        rw [hbl3] at m1 u1 u2
        refine ⟨.bool b, { K3.w with heap := K3.w.heap.setIfInBounds (K.bl l) (.loop { L3 with state := if j.isNone then .ready else .done, pending := j.map jumpC }) }, ?_, K3.on { K3.w with heap := K3.w.heap.setIfInBounds (K.bl l) (.loop { L3 with state := if j.isNone then .ready else .done, pending := j.map jumpC }) }, rfl, ?_, ?_, ?_⟩
        · cases j <;> simp [Instr.endRound, run_getLoop m1, run_setLoop m1, Sem.run_bind, hb]
        rotate_left
        · rw [hj]; exact st13.trans hr u2
        · rw [hj]; exact .bool b
        · rw [hj]; exact u1
      cases ex2 with
      | normal =>
        cases e <;> simp only [ExR] at hxe3
        simp only [Option.some.injEq] at he
        exact fin none true rfl he.symm
      | ret =>
        cases e <;> simp only [ExR] at hxe3
        simp only [Option.some.injEq] at he
        exact fin (some .ret) false rfl he.symm
      | exit i =>
        cases e <;> simp only [ExR] at hxe3
        subst hxe3
        simp only [Option.some.injEq] at he
        exact fin (some (.exit i)) false rfl he.symm
      | goto i =>
        cases e <;> simp only [ExR] at hxe3
        subst hxe3
        simp only [Option.some.injEq] at he
        exact fin (some (.goto i)) false rfl he.symm
      | panic v => cases he

theorem evCall_ok (hC : CtxOk G gl C) (hpre : ∀ V : Vn, V.gl = gl → V.vsl.Nodup → PreOk G V cf L) (hcf : CallOk G gl cf) : CallOk G gl (evCall C cf L) := by
  intro g args h r he K fv avs hr hw hg hgv ha
  unfold evCall at he
  split at he
  · rename_i f first cap
    cases hgv with
    | fn _ _ _ va vc h1 h2 =>
      have e : (do let d ← Deferred.ofValue (.func (.func f) va.toArray vc.toArray) avs.toArray; invoke d.target d.args : Sem Next).run G.P K.w = (callFunc f (va ++ (avs ++ vc)).toArray).run G.P K.w := by
        simp [Deferred.ofValue, invoke, Sem.run_bind]
      rw [e]
      refine callF_ok hC hpre hcf he hr hw hg (by rw [catL_eq, catL_eq]; exact h1.append (ha.append h2)) ?_
      rintro ⟨_, l, hl⟩
      exact ⟨l, by rw [catL_eq, catL_eq]; simp [hl]⟩
  · rename_i l
    cases hgv with
    | yield _ hl =>
      have e : (do let d ← Deferred.ofValue (.func (.yield (K.bl l)) #[] #[]) avs.toArray; invoke d.target d.args : Sem Next).run G.P K.w = (Instr.yield (K.bl l) avs.toArray).run G.P K.w := by
        simp [Deferred.ofValue, invoke, Sem.run_bind]
      rw [e]
      exact callY_ok hC hpre hcf he hr hw hg ha hl (by rintro ⟨h1, _⟩; cases h1)
  · cases he

theorem ev_ok (hC : CtxOk G gl C) (hpre : ∀ cf, CallOk G gl cf → ∀ V : Vn, V.gl = gl → V.vsl.Nodup → PreOk G V cf L) : ∀ d, CallOk G gl (ev C L d)
  | 0 => fun g args h r he => by cases he
  | d + 1 => evCall_ok hC (hpre _ (ev_ok hC hpre d)) (ev_ok hC hpre d)

end
end Hx
