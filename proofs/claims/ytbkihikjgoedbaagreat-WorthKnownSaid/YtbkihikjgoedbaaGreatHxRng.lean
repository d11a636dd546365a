/- The small commands; a range over a function. -/
import Derived.Test.YtbkihikjgoedbaaGreatHxCode
namespace Hx
open Go

section
variable {G : Gx} {V : Vn} {m : Option Nat} {F : Fence} {cf : CallFn} {L : Nat}

theorem nop_cmd : CmdOk G V m F cf L .skip cNop := by
  intro n ex s' K a s Q he hs hcx hp
  cases he
  exact wpIn_skip (hp .normal a K (Stp.refl _ _) hs trivial)
theorem label_cmd {l : Nat} : CmdOk G V m F cf L (.label l) cNop := by
  intro n ex s' K a s Q he hs hcx hp
  cases he
  exact wpIn_label (hp .normal a K (Stp.refl _ _) hs trivial)
theorem exit_cmd {i : Nat} : CmdOk G V m F cf L (.exit i) (cExit i) := by
  intro n ex s' K a s Q he hs hcx hp
  cases he
  exact wpIn_exit (hp (.exit i) a K (Stp.refl _ _) hs rfl)
theorem ret_cmd : CmdOk G V m F cf L .ret cRet := by
  intro n ex s' K a s Q he hs hcx hp
  cases he
  exact wpIn_ret (hp .ret a K (Stp.refl _ _) hs trivial)

/-- one more block of the world, that is not followed -/
theorem HR.extra {K : Kx} {h : Heap} {ks : List Nat} (hr : HR G K h ks) {w' : World} {o : Obj} (hf : FrW K.w w') (hw : w'.heap = K.w.heap.push o) : HR G (K.on w') h ks ∧ Kle K (K.on w') ∧ ∀ E, Tn E h K (K.on w') := by
  have hget : ∀ i, i < K.w.heap.size → w'.heap[i]? = K.w.heap[i]? := fun i hi => by rw [hw, Array.getElem?_push, if_neg (by omega)]
  have hget' : ∀ i x, K.w.heap[i]? = some x → w'.heap[i]? = some x := fun i x hx => by rw [hget i (Array.getElem?_eq_some_iff.1 hx).1]; exact hx
  have hsz : w'.heap.size = K.w.heap.size + 1 := by rw [hw]; simp
  have hle : Kle K (K.on w') := ⟨fun _ h => h, fun _ _ => rfl, fun _ _ => rfl, fun _ h => .inl h, fun c hc _ => hget c hc, fun b c e fr hc => ⟨c, fr, hget' _ _ hc, rfl⟩, fun b L hL => ⟨L, hget' _ _ hL⟩, by show _ ≤ w'.heap.size; omega, hf⟩
  refine ⟨⟨hr.lt, fun b hb => by show _ < w'.heap.size; have := hr.inh b hb; rw [hsz]; exact Nat.lt_succ_of_lt this, hr.own, hr.old, fun b x hb hx => (hr.blk b x hb hx).mono hle hb (hget _ (hr.inh b hb)), hr.dist, hr.aold, by show _ ≤ w'.heap.size; have := hr.bsz; omega⟩,
    hle, fun E => ⟨hle, fun b hb _ _ => hget _ (hr.inh b hb), fun b hb hn => absurd hb hn⟩⟩

theorem run_getLoop {P : Program} {w : World} {l : Nat} {R : Loop} (h : w.heap[l]? = some (.loop R)) : (Instr.getLoop l).run P w = .ok R w := by
  simp [Instr.getLoop, getObj, Sem.run, h]
theorem run_setLoop {P : Program} {w : World} {l : Nat} {R : Loop} (h : w.heap[l]? = some (.loop R)) (o : Obj) : (setObj l o).run P w = .ok () { w with heap := w.heap.setIfInBounds l o } := by
  simp [setObj, Sem.run, h]

/-- a loop's record is turned -/
theorem HR.writeLoop {K : Kx} {h : Heap} (hr : HR G K h []) {b : Nat} {x : Blk} {R R' : Loop} (hd : K.D b) (hs : (h.get b).isSome = true) (hc : K.w.heap[K.bl b]? = some (.loop R))
    (hx : Kle K (K.on { K.w with heap := K.w.heap.setIfInBounds (K.bl b) (.loop R') }) → BR G (K.on { K.w with heap := K.w.heap.setIfInBounds (K.bl b) (.loop R') }) b x) :
    HR G (K.on { K.w with heap := K.w.heap.setIfInBounds (K.bl b) (.loop R') }) (h.put b x) [] ∧ Stp K h (K.on { K.w with heap := K.w.heap.setIfInBounds (K.bl b) (.loop R') }) (h.put b x) := by
  have hlt : K.bl b < K.w.heap.size := hr.inh b hd
  obtain ⟨h1, h2⟩ := hr.write (x := x) (w' := { K.w with heap := K.w.heap.setIfInBounds (K.bl b) (.loop R') }) (FrW.set (b := K.bl b) rfl rfl (fun c hcb => by show (K.w.heap.setIfInBounds _ _)[c]? = _; rw [Array.getElem?_setIfInBounds_ne (Ne.symm hcb)]) (by rw [hc]; show frOf (K.w.heap.setIfInBounds _ _)[K.bl b]? = _; simp [hlt, frOf])) hd hs (fun c hcb => by show (K.w.heap.setIfInBounds _ _)[c]? = _; rw [Array.getElem?_setIfInBounds_ne (Ne.symm hcb)]) (by simp)
    (fun c e fr hx => by rw [hc] at hx; cases hx) (fun L hL => ⟨R', by show (K.w.heap.setIfInBounds _ _)[K.bl b]? = _; simp [hlt]⟩) hx
  exact ⟨h1, h2, HExt.alter _ _ _ (.inl hs), fun hw => puts_wf (.inr ⟨b, x, hs, rfl⟩) hw, fun _ h => .inl h⟩

theorem jump_wp {n : Nat} {Q : Exit → Act → World → Prop} {a : Act} {w : World} (c : Jump) (h : match c with | .ret => Q .ret a w | .exit i => Q (.exit i) a w | .goto i => Q (.goto i) a w) : (jumpC c).wpIn F n G.P Q a w := by
  cases c with
  | ret => exact wpIn_ret h
  | exit i => exact wpIn_exit h
  | goto i => exact wpIn_goto h

def pendX : Option Jump → Ex
  | none => .normal
  | some c => jumpX c

theorem rng_cmd (hms : m.isSome = true) (hF : plainF F) (hcf : CallOk G V.gl cf) {f : Operand} {ps : Array Nat} {c d : Code} {x : OF} {l : List Nat} {id : Nat} (hx : compX V [] f = some x) (hl : idxsN V.vsl ps.toList = some l)
    (hid : G.BD id = some { vsl := V.vsl, ps := ps.toList, assign := c, body := d, nt := V.nt }) : CmdOk G V m F cf L (.rangeFunc f ps c d) (cRng x l id) := by
  intro n ex s' K a s Q he hs hcx hp
  have hrn := hcx.rnd
  have hm : ∃ m0, m = some m0 ∧ m0 ≤ K.w.heap.size := by
    cases m with
    | none => cases hms
    | some m0 => exact ⟨m0, rfl, hcx.big m0 rfl⟩
  have he' : ob (x [] s.vs) (fun g => evRng cf g l id s) = some (ex, s') := he
  rw [ob_some] at he'
  obtain ⟨g, hg, he'⟩ := he'
  have hgv := ops_ok hs (stk := []) (ds := []) (fun t j h => by cases h) _ _ _ hx hg
  unfold evRng at he'
  rw [bif_none, ob_some] at he'
  obtain ⟨hisf, r, hr, he'⟩ := he'
  have hl' : l.length = ps.toList.length ∧ ∀ (i p : Nat), l[i]? = some p → V.vsl[p]? = ps.toList[i]? := by
    have key : ∀ (q : List Nat) (l : List Nat), idxsN V.vsl q = some l → l.length = q.length ∧ ∀ (i p : Nat), l[i]? = some p → V.vsl[p]? = q[i]? := by
      intro q
      induction q with
      | nil => intro l h; cases h; exact ⟨rfl, fun i p h => by simp at h⟩
      | cons t q ih =>
        intro l h
        unfold idxsN at h
        split at h
        · rename_i i r hi hr'
          cases h
          obtain ⟨h1, h2⟩ := ih _ hr'
          refine ⟨by simp [h1], fun j p hj => ?_⟩
          cases j with
          | zero => simp at hj; subst hj; simpa using idxN_some hi
          | succ j => simpa using h2 j p (by simpa using hj)
        · cases h
    exact key _ _ hl
  refine wpIn_rangeFunc fun fn hfn => ?_
  -- the record
  have enter : ∃ (mark : List Deferred) (K0 : Kx) (R : Loop), (Instr.enterLoop fn a.tmps ps c d F.round).run G.P K.w = .ok (K0.w.heap.size, mark) { K0.w with heap := K0.w.heap.push (.loop R) } ∧
      R.state = .ready ∧ R.pending = none ∧ R.tmps = a.tmps ∧ R.params = ps ∧ R.assign = c ∧ R.body = d ∧ HR G K0 s.h [] ∧ Kle K K0 ∧ (∀ E, Tn E s.h K K0) ∧ DRs G.P K0 m s.ds (mark ++ a.defers) ∧ (∀ i, K0.D i → K.D i) := by
    cases hro : F.round with
    | none =>
      obtain ⟨h1, h2, h3⟩ := hs.hr.extra (w' := { K.w with heap := K.w.heap.push (.deferred (some [])) }) (FrW.push rfl rfl rfl rfl) rfl
      refine ⟨[{ target := .collected K.w.heap.size, args := #[] }], K.on { K.w with heap := K.w.heap.push (.deferred (some [])) }, { state := .ready, pending := none, fn := fn, tmps := a.tmps, params := ps, assign := c, body := d, defers := K.w.heap.size }, by simp [Instr.enterLoop, newObj, Sem.run, Kx.on]; rfl, rfl, rfl, rfl, rfl, rfl, rfl, h1, h2, h3, ?_, fun _ h => h⟩
      refine .mark _ _ _ (by show (K.w.heap.push _)[_]? = _; simp) (fun ho => ?_) hm (fun dd hdd => ?_) (hs.dfr.mono h2)
      · rcases (hs.hr.own _).1 ho with h4 | ⟨b, h4, _, h5⟩
        · have := hs.hr.aold _ h4; have := hs.hr.bsz; omega
        · have := hs.hr.inh b h4; omega
      · intro ht
        have key : ∀ {l : Defs} {r : List Deferred}, DRs G.P K m l r → dd ∈ r → False := by
          intro l r hd
          induction hd with
          | nil => intro h; cases h
          | cons x d' l r h _ ih =>
            intro h'
            rcases List.mem_cons.1 h' with rfl | h'
            · cases h; cases ht
            · exact ih h'
          | mark b l r h1 h2 h3 h4 _ ih =>
            intro h'
            rcases List.mem_cons.1 h' with rfl | h'
            · cases ht
              have := (Array.getElem?_eq_some_iff.1 h1).1
              omega
            · exact ih h'
        exact key hs.dfr hdd
    | some lr =>
      obtain ⟨R0, hR0⟩ := hrn lr hro
      exact ⟨[], K, { state := .ready, pending := none, fn := fn, tmps := a.tmps, params := ps, assign := c, body := d, defers := R0.defers }, by simp [Instr.enterLoop, run_getLoop hR0, newObj, Sem.run], rfl, rfl, rfl, rfl, rfl, rfl, hs.hr, Kle.refl K, fun E => Tn.refl _ _ _, hs.dfr, fun _ h => h⟩
  obtain ⟨mark, K0, R, hent, r1, r2, r3, r4, r5, r6, hr0, hle0, ht0, hdf0, hdm0⟩ := enter
  -- the loop's block
  let w1 : World := { K0.w with heap := K0.w.heap.push (.loop R) }
  let K1 := K0.new s.h.next w1
  let h1 := s.h.push (.loop .ready none s.vs l id)
  have hw1 : w1.heap = K0.w.heap.push (.loop R) := rfl
  have hfw : FrW K0.w w1 := FrW.push rfl rfl rfl rfl
  have hfr : ¬ K0.D s.h.next := hr0.fresh
  have hle1 : Kle K0 K1 := Kx.new_le hfw hw1 hfr
  have hbr : BR G K1 s.h.next (.loop .ready none s.vs l id) := by
    refine ⟨R, _, ?_, hid, r1, by rw [r2]; rfl, by rw [r4], r5, r6, ?_, hl'.1, fun i p hi => hl'.2 i p hi, by rw [r3]; exact hs.nt⟩
    · show w1.heap[K1.bl s.h.next]? = _
      rw [show K1.bl s.h.next = K0.w.heap.size from if_pos rfl, hw1]; simp
    · rw [r3]; exact (hs.slots.mono hle0).mono hle1
  have hr1 : HR G K1 h1 [] := (hr0.pushed (.loop .ready none s.vs l id)).add hfw hw1 hfr (by rw [Heap.next_push]; omega) (by rw [Heap.get_push, if_pos rfl]) hbr
  have st1 : Stp K s.h K1 h1 := by
    refine ⟨?_, HExt.push _ _, fun hw => Heap.wf_push hw _, fun i hi => hi.imp (hdm0 i) fun e => Nat.le_of_eq e.symm⟩
    exact (ht0 _).trans ((Kx.new_tn hfw hw1 hfr hr0.inh _ s.h)) fun b _ => ⟨fun _ h => h, fun h => h⟩
  have hwf1 : h1.wf := Heap.wf_push hs.wf _
  have hyv : VR G.P K1 (.fn (.yield s.h.next) [] []) (.func (.yield K0.w.heap.size) #[] #[]) := by
    have := VR.yield (P := G.P) (K := K1) s.h.next (.inr rfl)
    rwa [show K1.bl s.h.next = K0.w.heap.size from if_pos rfl] at this
  have hcn := hcf g _ h1 r hr K1 (a.eval f) [.func (.yield K0.w.heap.size) #[] #[]] hr1 hwf1 ((hs.gl.mono hle0).mono hle1) ((hgv.mono hle0).mono hle1) (.cons _ _ _ _ hyv .nil)
  have hrng : Ranged g [.fn (.yield s.h.next) [] []] := ⟨hisf, s.h.next, by simp⟩
  have hend : ∀ e w', RetR G K1 h1 r e w' → rangePost F n G.P K0.w.heap.size Q { a with defers := mark ++ a.defers } e w' := by
    rintro e w' ⟨K3, rfl, hr3, st3, hm3⟩
    obtain ⟨rt, h3⟩ := r
    have st13 := st1.trans hs.hr st3
    cases rt with
    | val v =>
      cases e with
      | returned y =>
        have he2 : ob (h3.get s.h.next) (fun x => match x with
          | .loop st pend vs ps b => match st with
            | .busy => none
            | _ => match pend with
              | none => some (.normal, { s with h := h3.put s.h.next (.loop .exhausted pend vs ps b) })
              | some c => some (jumpX c, { s with h := h3.put s.h.next (.loop .exhausted pend vs ps b) })
          | _ => none) = some (ex, s') := he'
        rw [ob_some] at he2
        obtain ⟨blk, hblk, he2⟩ := he2
        cases blk with
        | row cs e => cases he2
        | mp es c => cases he2
        | loop stt pend vs' ps' b' =>
          have hD3 : K3.D s.h.next := st3.tn.le.D _ (.inr rfl)
          have hbl3 : K3.bl s.h.next = K0.w.heap.size := by rw [st3.tn.le.bl _ (.inr rfl)]; exact if_pos rfl
          obtain ⟨L3, I3, g1, g2, g3, g4, g5, g6, g7, g8, g9, g10⟩ := hr3.blk s.h.next _ hD3 hblk
          have hst : stt ≠ .busy ∧ ex = pendX pend ∧ s' = { s with h := h3.put s.h.next (.loop .exhausted pend vs' ps' b') } := by
            cases stt <;> simp only [reduceCtorEq] at he2 <;> cases pend <;> simp only [Option.some.injEq, Prod.mk.injEq] at he2 <;> exact ⟨by simp, he2.1.symm, he2.2.symm⟩
          obtain ⟨hst, rfl, rfl⟩ := hst
          obtain ⟨k1, k2⟩ := hr3.writeLoop (x := .loop .exhausted pend vs' ps' b') (R' := { L3 with state := .exhausted }) hD3 (by rw [hblk]; rfl) g1 (fun hle => by
            refine ⟨{ L3 with state := .exhausted }, I3, ?_, g2, rfl, g4, g5, g6, g7, g8.mono hle, g9, g10⟩
            have hlt : K3.bl s.h.next < K3.w.heap.size := hr3.inh _ hD3
            show (K3.w.heap.setIfInBounds _ _)[K3.bl s.h.next]? = _
            simp [hlt])
          rw [hbl3] at g1
          refine ⟨pend.map jumpC, { K3.w with heap := K3.w.heap.setIfInBounds K0.w.heap.size (.loop { L3 with state := .exhausted }) }, ?_, ?_⟩
          · have hb : ¬ (L3.state = LoopState.busy) := by rw [g3]; exact hst
            rw [← g4]
            simp [Instr.endLoop, run_getLoop g1, hb, run_setLoop g1]
          · rw [hbl3] at k1 k2
            have st14 := st13.trans hs.hr k2
            have sr : SR G V m (K3.on { K3.w with heap := K3.w.heap.setIfInBounds K0.w.heap.size (.loop { L3 with state := .exhausted }) }) { a with defers := mark ++ a.defers } s.vs (h3.put s.h.next (.loop .exhausted pend vs' ps' b')) s.ds :=
              ⟨hs.slots.mono st14.tn.le, hs.nt, k1, st14.wf hs.wf, hdf0.mono ((hle1.trans st3.tn.le).trans k2.tn.le), hs.gl.mono st14.tn.le⟩
            cases pend with
            | none =>
              exact hp .normal _ _ st14 sr trivial
            | some c =>
              cases c with
              | ret => exact wpIn_ret (hp .ret _ _ st14 sr trivial)
              | exit i => exact wpIn_exit (hp (.exit i) _ _ st14 sr rfl)
              | goto i => exact wpIn_goto (hp (.goto i) _ _ st14 sr rfl)
      | panicked ch => exact hm3.elim
      | outgrown => exact hm3.elim
    | pan v =>
      cases e with
      | returned y => exact hm3.elim
      | panicked ch =>
        obtain ⟨y, rfl, hy⟩ := hm3
        simp only [Option.some.injEq, Prod.mk.injEq] at he'
        obtain ⟨rfl, rfl⟩ := he'
        exact hp _ { a with defers := mark ++ a.defers } K3 st13 ⟨hs.slots.mono st13.tn.le, hs.nt, hr3, st13.wf hs.wf, hdf0.mono (hle1.trans st3.tn.le), hs.gl.mono st13.tn.le⟩ ⟨y, rfl, hy⟩
      | outgrown => exact hm3.elim
  cases g <;> simp only [isFn, Bool.false_eq_true] at hisf
  rename_i gf ga gc
  cases gf <;> simp only [Bool.false_eq_true] at hisf
  rename_i gf
  generalize hρ : a.eval f = z at hgv hcn
  cases hgv with
  | fn _ _ _ va vc hva hvc =>
    have hres : (resolve a.eval (rangeCall f K0.w.heap.size) 0).run G.P w1 = .ok { target := .fn (.func gf) vc.toArray, args := va.toArray ++ #[.func (.yield K0.w.heap.size) #[] #[]] } w1 := by
      have hy : ∀ v, a.eval (.const v) = v := fun v => rfl
      simp [resolve, rangeCall, hρ, Deferred.ofValue, hy]
    have hinv : ((do let d ← Deferred.ofValue (.func (.func gf) va.toArray vc.toArray) [Value.func (.yield K0.w.heap.size) #[] #[]].toArray; invoke d.target d.args : Sem Next).run G.P K1.w) = (invoke (.fn (.func gf) vc.toArray) (va.toArray ++ #[.func (.yield K0.w.heap.size) #[] #[]])).run G.P w1 := by
      simp [Deferred.ofValue]; rfl
    rw [hinv] at hcn
    generalize hres2 : (invoke (.fn (.func gf) vc.toArray) (va.toArray ++ #[.func (.yield K0.w.heap.size) #[] #[]])).run G.P w1 = res at hcn
    cases res with
    | halt hh w' => exact hcn.elim
    | ok nx w' =>
      cases nx with
      | value y => exact absurd hrng hcn.1
      | round l f' tmps as' b => exact absurd hrng hcn.1
      | enter f' args' =>
        exact ⟨K0.w.heap.size, mark, w1, _, w1, f', args', w', hent, hres, fun f' _ => (plainF_fn hF).1 f', hres2, fun hd => (by rw [(plainF_fn hF).2] at hd; cases hd), (hcn F _ hF).mono hend⟩
      | _ => exact hcn.elim

end
end Hx
