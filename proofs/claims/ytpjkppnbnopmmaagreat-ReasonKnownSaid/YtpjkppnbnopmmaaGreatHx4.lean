/- The machine (part 4). -/
import Derived.Test.YtpjkppnbnopmmaaGreatHx3
import Derived.RecoverIn
import Derived.RangeFuncLeaves
import Derived.ScopeJumps
/- The small commands; a range over a function. -/
namespace Hx
open Go

section
variable {G : Gx} {V : Vn} {m : Option Nat} {F : Fence} {cf : CallFn} {L : Nat}

theorem nop_cmd : CmdOk G V m F cf L .skip cNop := by
  intro n ex s' K a s Q he hs hcx hp
  cases he
  exact wpIn_skip (hp .normal a K (Stp.refl _ _) hs trivial)
theorem label_cmd {l : Nat} : CmdOk G V m F cf L (.label l) cNop := by
  intro n ex s' K a s Q he hs hcx hp
  cases he
  exact wpIn_label (hp .normal a K (Stp.refl _ _) hs trivial)
theorem exit_cmd {i : Nat} : CmdOk G V m F cf L (.exit i) (cExit i) := by
  intro n ex s' K a s Q he hs hcx hp
  cases he
  exact wpIn_exit (hp (.exit i) a K (Stp.refl _ _) hs rfl)
theorem ret_cmd : CmdOk G V m F cf L .ret cRet := by
  intro n ex s' K a s Q he hs hcx hp
  cases he
  exact wpIn_ret (hp .ret a K (Stp.refl _ _) hs trivial)

/-- one more block of the world, that is not followed -/
theorem HR.extra {K : Kx} {h : Heap} {ks : List Nat} (hr : HR G K h ks) {w' : World} {o : Obj} (hf : FrW K.w w') (hw : w'.heap = K.w.heap.push o) : HR G (K.on w') h ks ∧ Kle K (K.on w') ∧ ∀ E, Tn E h K (K.on w') := by
  have hget : ∀ i, i < K.w.heap.size → w'.heap[i]? = K.w.heap[i]? := fun i hi => by rw [hw, Array.getElem?_push, if_neg (by omega)]
  have hget' : ∀ i x, K.w.heap[i]? = some x → w'.heap[i]? = some x := fun i x hx => by rw [hget i (Array.getElem?_eq_some_iff.1 hx).1]; exact hx
  have hsz : w'.heap.size = K.w.heap.size + 1 := by rw [hw]; simp
  have hle : Kle K (K.on w') := ⟨fun _ h => h, fun _ _ => rfl, fun _ _ => rfl, fun _ h => .inl h, fun c hc _ => hget c hc, fun b c e fr hc => ⟨c, fr, hget' _ _ hc, rfl⟩, fun b L hL => ⟨L, hget' _ _ hL⟩, by show _ ≤ w'.heap.size; omega, hf⟩
  refine ⟨⟨hr.lt, fun b hb => by show _ < w'.heap.size; have := hr.inh b hb; rw [hsz]; exact Nat.lt_succ_of_lt this, hr.own, hr.old, fun b x hb hx => (hr.blk b x hb hx).mono hle hb (hget _ (hr.inh b hb)), hr.dist, hr.aold, by show _ ≤ w'.heap.size; have := hr.bsz; omega⟩,
    hle, fun E => ⟨hle, fun b hb _ _ => hget _ (hr.inh b hb), fun b hb hn => absurd hb hn⟩⟩

theorem run_getLoop {P : Program} {w : World} {l : Nat} {R : Loop} (h : w.heap[l]? = some (.loop R)) : (Instr.getLoop l).run P w = .ok R w := by
  simp [Instr.getLoop, getObj, Sem.run, h]
theorem run_setLoop {P : Program} {w : World} {l : Nat} {R : Loop} (h : w.heap[l]? = some (.loop R)) (o : Obj) : (setObj l o).run P w = .ok () { w with heap := w.heap.setIfInBounds l o } := by
  simp [setObj, Sem.run, h]

/-- a loop's record is turned -/
theorem HR.writeLoop {K : Kx} {h : Heap} (hr : HR G K h []) {b : Nat} {x : Blk} {R R' : Loop} (hd : K.D b) (hs : (h.get b).isSome = true) (hc : K.w.heap[K.bl b]? = some (.loop R))
    (hx : Kle K (K.on { K.w with heap := K.w.heap.setIfInBounds (K.bl b) (.loop R') }) → BR G (K.on { K.w with heap := K.w.heap.setIfInBounds (K.bl b) (.loop R') }) b x) :
    HR G (K.on { K.w with heap := K.w.heap.setIfInBounds (K.bl b) (.loop R') }) (h.put b x) [] ∧ Stp K h (K.on { K.w with heap := K.w.heap.setIfInBounds (K.bl b) (.loop R') }) (h.put b x) := by
  have hlt : K.bl b < K.w.heap.size := hr.inh b hd
  obtain ⟨h1, h2⟩ := hr.write (x := x) (w' := { K.w with heap := K.w.heap.setIfInBounds (K.bl b) (.loop R') }) (FrW.set (b := K.bl b) rfl rfl (fun c hcb => by show (K.w.heap.setIfInBounds _ _)[c]? = _; rw [Array.getElem?_setIfInBounds_ne (Ne.symm hcb)]) (by rw [hc]; show frOf (K.w.heap.setIfInBounds _ _)[K.bl b]? = _; simp [hlt, frOf])) hd hs (fun c hcb => by show (K.w.heap.setIfInBounds _ _)[c]? = _; rw [Array.getElem?_setIfInBounds_ne (Ne.symm hcb)]) (by simp)
    (fun c e fr hx => by rw [hc] at hx; cases hx) (fun L hL => ⟨R', by show (K.w.heap.setIfInBounds _ _)[K.bl b]? = _; simp [hlt]⟩) hx
  exact ⟨h1, h2, HExt.alter _ _ _ (.inl hs), fun hw => puts_wf (.inr ⟨b, x, hs, rfl⟩) hw, fun _ h => .inl h⟩

theorem jump_wp {n : Nat} {Q : Exit → Act → World → Prop} {a : Act} {w : World} (c : Jump) (h : match c with | .ret => Q .ret a w | .exit i => Q (.exit i) a w | .goto i => Q (.goto i) a w) : (jumpC c).wpIn F n G.P Q a w := by
  cases c with
  | ret => exact wpIn_ret h
  | exit i => exact wpIn_exit h
  | goto i => exact wpIn_goto h

def pendX : Option Jump → Ex
  | none => .normal
  | some c => jumpX c

theorem rng_cmd (hms : m.isSome = true) (hF : plainF F) (hcf : CallOk G V.gl cf) {f : Operand} {ps : Array Nat} {c d : Code} {x : OF} {l : List Nat} {id : Nat} (hx : compX V [] f = some x) (hl : idxsN V.vsl ps.toList = some l)
    (hid : G.BD id = some { vsl := V.vsl, ps := ps.toList, assign := c, body := d, nt := V.nt }) : CmdOk G V m F cf L (.rangeFunc f ps c d) (cRng x l id) := by
  intro n ex s' K a s Q he hs hcx hp
  have hrn := hcx.rnd
  have hm : ∃ m0, m = some m0 ∧ m0 ≤ K.w.heap.size := by
    cases m with
    | none => cases hms
    | some m0 => exact ⟨m0, rfl, hcx.big m0 rfl⟩
  have he' : ob (x [] s.vs) (fun g => evRng cf g l id s) = some (ex, s') := he
  rw [ob_some] at he'
  obtain ⟨g, hg, he'⟩ := he'
  have hgv := ops_ok hs (stk := []) (ds := []) (fun t j h => by cases h) _ _ _ hx hg
  unfold evRng at he'
  rw [bif_none, ob_some] at he'
  obtain ⟨hisf, r, hr, he'⟩ := he'
  have hl' : l.length = ps.toList.length ∧ ∀ (i p : Nat), l[i]? = some p → V.vsl[p]? = ps.toList[i]? := by
    have key : ∀ (q : List Nat) (l : List Nat), idxsN V.vsl q = some l → l.length = q.length ∧ ∀ (i p : Nat), l[i]? = some p → V.vsl[p]? = q[i]? := by
      intro q
      induction q with
      | nil => intro l h; cases h; exact ⟨rfl, fun i p h => by simp at h⟩
      | cons t q ih =>
        intro l h
        unfold idxsN at h
        split at h
        · rename_i i r hi hr'
          cases h
          obtain ⟨h1, h2⟩ := ih _ hr'
          refine ⟨by simp [h1], fun j p hj => ?_⟩
          cases j with
          | zero => simp at hj; subst hj; simpa using idxN_some hi
          | succ j => simpa using h2 j p (by simpa using hj)
        · cases h
    exact key _ _ hl
  refine wpIn_rangeFunc fun fn hfn => ?_
  -- the record
  have enter : ∃ (mark : List Deferred) (K0 : Kx) (R : Loop), (Instr.enterLoop fn a.tmps ps c d F.round).run G.P K.w = .ok (K0.w.heap.size, mark) { K0.w with heap := K0.w.heap.push (.loop R) } ∧
      R.state = .ready ∧ R.pending = none ∧ R.tmps = a.tmps ∧ R.params = ps ∧ R.assign = c ∧ R.body = d ∧ HR G K0 s.h [] ∧ Kle K K0 ∧ (∀ E, Tn E s.h K K0) ∧ DRs G.P K0 m s.ds (mark ++ a.defers) ∧ (∀ i, K0.D i → K.D i) := by
    cases hro : F.round with
    | none =>
      obtain ⟨h1, h2, h3⟩ := hs.hr.extra (w' := { K.w with heap := K.w.heap.push (.deferred (some [])) }) (FrW.push rfl rfl rfl rfl) rfl
      refine ⟨[{ target := .collected K.w.heap.size, args := #[] }], K.on { K.w with heap := K.w.heap.push (.deferred (some [])) }, { state := .ready, pending := none, fn := fn, tmps := a.tmps, params := ps, assign := c, body := d, defers := K.w.heap.size }, by simp [Instr.enterLoop, newObj, Sem.run, Kx.on]; rfl, rfl, rfl, rfl, rfl, rfl, rfl, h1, h2, h3, ?_, fun _ h => h⟩
      refine .mark _ _ _ (by show (K.w.heap.push _)[_]? = _; simp) (fun ho => ?_) hm (fun dd hdd => ?_) (hs.dfr.mono h2)
      · rcases (hs.hr.own _).1 ho with h4 | ⟨b, h4, _, h5⟩
        · have := hs.hr.aold _ h4; have := hs.hr.bsz; omega
        · have := hs.hr.inh b h4; omega
      · intro ht
        have key : ∀ {l : Defs} {r : List Deferred}, DRs G.P K m l r → dd ∈ r → False := by
          intro l r hd
          induction hd with
          | nil => intro h; cases h
          | cons x d' l r h _ ih =>
            intro h'
            rcases List.mem_cons.1 h' with rfl | h'
            · cases h; cases ht
            · exact ih h'
          | mark b l r h1 h2 h3 h4 _ ih =>
            intro h'
            rcases List.mem_cons.1 h' with rfl | h'
            · cases ht
              have := (Array.getElem?_eq_some_iff.1 h1).1
              omega
            · exact ih h'
        exact key hs.dfr hdd
    | some lr =>
      obtain ⟨R0, hR0⟩ := hrn lr hro
      exact ⟨[], K, { state := .ready, pending := none, fn := fn, tmps := a.tmps, params := ps, assign := c, body := d, defers := R0.defers }, by simp [Instr.enterLoop, run_getLoop hR0, newObj, Sem.run], rfl, rfl, rfl, rfl, rfl, rfl, hs.hr, Kle.refl K, fun E => Tn.refl _ _ _, hs.dfr, fun _ h => h⟩
  obtain ⟨mark, K0, R, hent, r1, r2, r3, r4, r5, r6, hr0, hle0, ht0, hdf0, hdm0⟩ := enter
  -- the loop's block
  let w1 : World := { K0.w with heap := K0.w.heap.push (.loop R) }
  let K1 := K0.new s.h.next w1
  let h1 := s.h.push (.loop .ready none s.vs l id)
  have hw1 : w1.heap = K0.w.heap.push (.loop R) := rfl
  have hfw : FrW K0.w w1 := FrW.push rfl rfl rfl rfl
  have hfr : ¬ K0.D s.h.next := hr0.fresh
  have hle1 : Kle K0 K1 := Kx.new_le hfw hw1 hfr
  have hbr : BR G K1 s.h.next (.loop .ready none s.vs l id) := by
    refine ⟨R, _, ?_, hid, r1, by rw [r2]; rfl, by rw [r4], r5, r6, ?_, hl'.1, fun i p hi => hl'.2 i p hi, by rw [r3]; exact hs.nt⟩
    · show w1.heap[K1.bl s.h.next]? = _
      rw [show K1.bl s.h.next = K0.w.heap.size from if_pos rfl, hw1]; simp
    · rw [r3]; exact (hs.slots.mono hle0).mono hle1
  have hr1 : HR G K1 h1 [] := (hr0.pushed (.loop .ready none s.vs l id)).add hfw hw1 hfr (by rw [Heap.next_push]; omega) (by rw [Heap.get_push, if_pos rfl]) hbr
  have st1 : Stp K s.h K1 h1 := by
    refine ⟨?_, HExt.push _ _, fun hw => Heap.wf_push hw _, fun i hi => hi.imp (hdm0 i) fun e => Nat.le_of_eq e.symm⟩
    exact (ht0 _).trans ((Kx.new_tn hfw hw1 hfr hr0.inh _ s.h)) fun b _ => ⟨fun _ h => h, fun h => h⟩
  have hwf1 : h1.wf := Heap.wf_push hs.wf _
  have hyv : VR G.P K1 (.fn (.yield s.h.next) [] []) (.func (.yield K0.w.heap.size) #[] #[]) := by
    have := VR.yield (P := G.P) (K := K1) s.h.next (.inr rfl)
    rwa [show K1.bl s.h.next = K0.w.heap.size from if_pos rfl] at this
  have hcn := hcf g _ h1 r hr K1 (a.eval f) [.func (.yield K0.w.heap.size) #[] #[]] hr1 hwf1 ((hs.gl.mono hle0).mono hle1) ((hgv.mono hle0).mono hle1) (.cons _ _ _ _ hyv .nil)
  have hrng : Ranged g [.fn (.yield s.h.next) [] []] := ⟨hisf, s.h.next, by simp⟩
  have hend : ∀ e w', RetR G K1 h1 r e w' → rangePost F n G.P K0.w.heap.size Q { a with defers := mark ++ a.defers } e w' := by
    rintro e w' ⟨K3, rfl, hr3, st3, hm3⟩
    obtain ⟨rt, h3⟩ := r
    have st13 := st1.trans hs.hr st3
    cases rt with
    | val v =>
      cases e with
      | returned y =>
        have he2 : ob (h3.get s.h.next) (fun x => match x with
          | .loop st pend vs ps b => match st with
            | .busy => none
            | _ => match pend with
              | none => some (.normal, { s with h := h3.put s.h.next (.loop .exhausted pend vs ps b) })
              | some c => some (jumpX c, { s with h := h3.put s.h.next (.loop .exhausted pend vs ps b) })
          | _ => none) = some (ex, s') := he'
        rw [ob_some] at he2
        obtain ⟨blk, hblk, he2⟩ := he2
        cases blk with
        | row cs e => cases he2
        | mp es c => cases he2
        | loop stt pend vs' ps' b' =>
          have hD3 : K3.D s.h.next := st3.tn.le.D _ (.inr rfl)
          have hbl3 : K3.bl s.h.next = K0.w.heap.size := by rw [st3.tn.le.bl _ (.inr rfl)]; exact if_pos rfl
          obtain ⟨L3, I3, g1, g2, g3, g4, g5, g6, g7, g8, g9, g10⟩ := hr3.blk s.h.next _ hD3 hblk
          have hst : stt ≠ .busy ∧ ex = pendX pend ∧ s' = { s with h := h3.put s.h.next (.loop .exhausted pend vs' ps' b') } := by
            cases stt <;> simp only [reduceCtorEq] at he2 <;> cases pend <;> simp only [Option.some.injEq, Prod.mk.injEq] at he2 <;> exact ⟨by simp, he2.1.symm, he2.2.symm⟩
          obtain ⟨hst, rfl, rfl⟩ := hst
          obtain ⟨k1, k2⟩ := hr3.writeLoop (x := .loop .exhausted pend vs' ps' b') (R' := { L3 with state := .exhausted }) hD3 (by rw [hblk]; rfl) g1 (fun hle => by
            refine ⟨{ L3 with state := .exhausted }, I3, ?_, g2, rfl, g4, g5, g6, g7, g8.mono hle, g9, g10⟩
            have hlt : K3.bl s.h.next < K3.w.heap.size := hr3.inh _ hD3
            show (K3.w.heap.setIfInBounds _ _)[K3.bl s.h.next]? = _
            simp [hlt])
          rw [hbl3] at g1
          refine ⟨pend.map jumpC, { K3.w with heap := K3.w.heap.setIfInBounds K0.w.heap.size (.loop { L3 with state := .exhausted }) }, ?_, ?_⟩
          · have hb : ¬ (L3.state = LoopState.busy) := by rw [g3]; exact hst
            rw [← g4]
            simp [Instr.endLoop, run_getLoop g1, hb, run_setLoop g1]
          · rw [hbl3] at k1 k2
            have st14 := st13.trans hs.hr k2
            have sr : SR G V m (K3.on { K3.w with heap := K3.w.heap.setIfInBounds K0.w.heap.size (.loop { L3 with state := .exhausted }) }) { a with defers := mark ++ a.defers } s.vs (h3.put s.h.next (.loop .exhausted pend vs' ps' b')) s.ds :=
              ⟨hs.slots.mono st14.tn.le, hs.nt, k1, st14.wf hs.wf, hdf0.mono ((hle1.trans st3.tn.le).trans k2.tn.le), hs.gl.mono st14.tn.le⟩
            cases pend with
            | none =>
              exact hp .normal _ _ st14 sr trivial
            | some c =>
              cases c with
              | ret => exact wpIn_ret (hp .ret _ _ st14 sr trivial)
              | exit i => exact wpIn_exit (hp (.exit i) _ _ st14 sr rfl)
              | goto i => exact wpIn_goto (hp (.goto i) _ _ st14 sr rfl)
      | panicked ch => exact hm3.elim
      | outgrown => exact hm3.elim
    | pan v =>
      cases e with
      | returned y => exact hm3.elim
      | panicked ch =>
        obtain ⟨y, rfl, hy⟩ := hm3
        simp only [Option.some.injEq, Prod.mk.injEq] at he'
        obtain ⟨rfl, rfl⟩ := he'
        exact hp _ { a with defers := mark ++ a.defers } K3 st13 ⟨hs.slots.mono st13.tn.le, hs.nt, hr3, st13.wf hs.wf, hdf0.mono (hle1.trans st3.tn.le), hs.gl.mono st13.tn.le⟩ ⟨y, rfl, hy⟩
      | outgrown => exact hm3.elim
  cases g <;> simp only [isFn, Bool.false_eq_true] at hisf
  rename_i gf ga gc
  cases gf <;> simp only [Bool.false_eq_true] at hisf
  rename_i gf
  generalize hρ : a.eval f = z at hgv hcn
  cases hgv with
  | fn _ _ _ va vc hva hvc =>
    have hres : (resolve a.eval (rangeCall f K0.w.heap.size) 0).run G.P w1 = .ok { target := .fn (.func gf) vc.toArray, args := va.toArray ++ #[.func (.yield K0.w.heap.size) #[] #[]] } w1 := by
      have hy : ∀ v, a.eval (.const v) = v := fun v => rfl
      simp [resolve, hρ, Deferred.ofValue, hy]
    have hinv : ((do let d ← Deferred.ofValue (.func (.func gf) va.toArray vc.toArray) [Value.func (.yield K0.w.heap.size) #[] #[]].toArray; invoke d.target d.args : Sem Next).run G.P K1.w) = (invoke (.fn (.func gf) vc.toArray) (va.toArray ++ #[.func (.yield K0.w.heap.size) #[] #[]])).run G.P w1 := by
      simp [Deferred.ofValue]; rfl
    rw [hinv] at hcn
    generalize hres2 : (invoke (.fn (.func gf) vc.toArray) (va.toArray ++ #[.func (.yield K0.w.heap.size) #[] #[]])).run G.P w1 = res at hcn
    cases res with
    | halt hh w' => exact hcn.elim
    | ok nx w' =>
      cases nx with
      | value y => exact absurd hrng hcn.1
      | round l f' tmps as' b => exact absurd hrng hcn.1
      | enter f' args' =>
        exact ⟨K0.w.heap.size, mark, w1, _, w1, f', args', w', hent, hres, fun f' _ => (plainF_fn hF).1 f', hres2, fun hd => (by rw [(plainF_fn hF).2] at hd; cases hd), (hcn F _ hF).mono hend⟩
      | _ => exact hcn.elim

end
end Hx

/- Code with recover: the bodies of deferred functions. -/
namespace Hx
open Go

/-- the panic that a deferred function may recover -/
def MdR (P : Program) (K : Kx) : Option AV → Bool → FrameMode → Prop
  | some v, false, u => ∃ x, u = .panicking [{ v := x, recovered := false }] ∧ VR P K v x
  | none, false, u => u = .returning
  | none, true, u => ∃ x, u = .panicking [{ v := x, recovered := true }]
  | some _, true, _ => False
theorem MdR.mono {P : Program} {K K' : Kx} (hk : Kle K K') {p : Option AV} {d : Bool} {u : FrameMode} (h : MdR P K p d u) : MdR P K' p d u := by
  cases p <;> cases d <;> first
    | exact h
    | (obtain ⟨x, h1, h2⟩ := h; exact ⟨x, h1, h2.mono hk⟩)

def PostS (G : Gx) (V : Vn) (m : Option Nat) (K : Kx) (h : Heap) (ex : Ex) (s' : St) (p : Option AV) (d' : Bool) (c₀ : Frame) (cs : List Frame) (Q : Exit → Act → List Frame → World → Prop) : Prop :=
  ∀ e a' K' u', Stp K h K' s'.h → SR G V m K' a' s'.vs s'.h s'.ds → ExR G.P K' ex e → MdR G.P K' (bif_ d' none p) d' u' → Q e a' ({ c₀ with mode := u' } :: cs) K'.w

def CmdROk (G : Gx) (V : Vn) (m : Option Nat) (cf : CallFn) (L : Nat) (c : Code) (cmd : CmdR) : Prop :=
  ∀ n ex d' s' K a s p d c₀ cs u Q, cmd cf L p d s = some (ex, d', s') → SR G V m K a s.vs s.h s.ds → Cx Fence.wide m K → MdR G.P K p d u → PostS G V m K s.h ex s' p d' c₀ cs Q →
    c.wpSIn Fence.wide n G.P Q a ({ c₀ with mode := u } :: cs) K.w

section
variable {G : Gx} {V : Vn} {m : Option Nat} {cf : CallFn} {L : Nat}

theorem seqR_d : ∀ (its : List IT) {p : Option AV} {stk vs : List AV} {h : Heap} {dfs : Defs} {ex : Ex} {d' : Bool} {s' : St}, evSeqR its p true stk vs h dfs = some (ex, d', s') → d' = true
  | [], p, stk, vs, h, dfs, ex, d', s', he => by cases he; rfl
  | o :: its, p, stk, vs, h, dfs, ex, d', s', he => by
    have he' : ob (guardOk o.grd stk vs) (fun g => bif_ g
        (match o.op with
         | .rcv => match p with
           | some v => evSeqR its none true (v :: stk) (putV vs o.wr v) h dfs
           | none => evSeqR its none true (.nili :: stk) (putV vs o.wr .nili) h dfs
         | .a f => ob (f stk vs h) fun r => evSeqR its p true (r.1 :: stk) (putV vs o.wr r.1) (r.2.1.killO r.2.2) dfs
         | .e f => ob (f stk vs h) fun r => evSeqR its p true (r.1 :: stk) (putV vs o.wr r.1) r.2 dfs
         | _ => none)
        (evSeqR its p true (undefA :: stk) (putV vs o.wr undefA) h dfs)) = some (ex, d', s') := he
    rw [ob_some] at he'
    obtain ⟨g, _, he'⟩ := he'
    rw [bif_eq] at he'
    split at he'
    · split at he'
      · split at he' <;> exact seqR_d its he'
      · rw [ob_some] at he'; obtain ⟨r, _, he'⟩ := he'; exact seqR_d its he'
      · rw [ob_some] at he'; obtain ⟨r, _, he'⟩ := he'; exact seqR_d its he'
      · cases he'
    · exact seqR_d its he'

theorem comp_rcv {P : Program} {co : CoF} {o : Op} (hc : compOp P co o = some .rcv) : ∃ c, o = .call c ∧ c.callee = .builtin .recover ∧ c.args.toList = [] := by
  rcases comp_none hc with ⟨f, h⟩ | ⟨f, h⟩ | ⟨f, args, c, x, h, _⟩ | ⟨f, args, c, x, h, _⟩ | ⟨f, x, h, _⟩ | ⟨_, h⟩
  · cases h
  · cases h
  · cases h
  · cases h
  · cases h
  · exact h

theorem seqR_ok (hv : V.vsl.Nodup) {all : Array Oper} {n : Nat} {ex : Ex} {d' : Bool} {s' : St} {c₀ : Frame} {cs : List Frame} {Q : Exit → Act → List Frame → World → Prop} :
    ∀ (l : List Oper) (i0 : Nat) (its : List IT) (ds : List (Option Nat)) (stk vs : List AV) (h : Heap) (dfs : Defs) (K : Kx) (a : Act) (p : Option AV) (d : Bool) (u : FrameMode), compIts G.P V true all l ds = some its → (∀ j o, l[j]? = some o → all[i0 + j]? = some o) →
      evSeqR its p d stk vs h dfs = some (ex, d', s') → SR G V m K a vs h dfs → Stk G.P K a stk ds → MdR G.P K p d u → PostS G V m K h ex s' p d' c₀ cs Q →
      wpOpsSIn Fence.wide n G.P all Q (List.range' i0 l.length) a ({ c₀ with mode := u } :: cs) K.w
  | [], i0, its, ds, stk, vs, h, dfs, K, a, p, d, u, hc, _, he, hs, _, hm, hp => by
    cases hc
    cases he
    refine hp .normal a K u (Stp.refl _ _) hs trivial ?_
    cases d' with
    | false => exact hm
    | true => cases p with
      | none => exact hm
      | some v => exact hm.elim
  | o :: l, i0, its, ds, stk, vs, h, dfs, K, a, p, d, u, hc, hget, he, hs, ht, hm, hp => by
    unfold compIts at hc
    split at hc
    · cases hc
    · rename_i hcond
      rw [Bool.not_eq_true, Bool.or_eq_false_iff, Bool.not_eq_false'] at hcond
      split at hc
      · rename_i k g its' hk hg hl
        cases hc
        have ho : all[i0]? = some o := by simpa using hget 0 o rfl
        have he' : ob (guardOk g stk vs) (fun b => bif_ b
          (match k with
           | .rcv => match p with
             | some v => evSeqR its' none true (v :: stk) (putV vs (o.dst.bind (idxN · V.vsl)) v) h dfs
             | none => evSeqR its' none d (.nili :: stk) (putV vs (o.dst.bind (idxN · V.vsl)) .nili) h dfs
           | .a f => ob (f stk vs h) fun r => evSeqR its' p d (r.1 :: stk) (putV vs (o.dst.bind (idxN · V.vsl)) r.1) (r.2.1.killO r.2.2) dfs
           | .e f => ob (f stk vs h) fun r => evSeqR its' p d (r.1 :: stk) (putV vs (o.dst.bind (idxN · V.vsl)) r.1) r.2 dfs
           | _ => none)
          (evSeqR its' p d (undefA :: stk) (putV vs (o.dst.bind (idxN · V.vsl)) undefA) h dfs)) = some (ex, d', s') := he
        rw [ob_some] at he'
        obtain ⟨b, hb, he'⟩ := he'
        have hw := guard_ok ht hg hb o rfl
        have hget' : ∀ j o', l[j]? = some o' → all[i0 + 1 + j]? = some o' := fun j o' h => by
          have := hget (j + 1) o' (by simpa using h)
          rwa [show i0 + (j + 1) = i0 + 1 + j by omega] at this
        rw [List.length_cons, List.range'_succ]
        simp only [wpOpsSIn, ho]
        refine ⟨fun f _ => trivial, ?_⟩
        have hco := ops_ok hs ht
        cases b with
        | false =>
          rw [if_neg (by rw [hw]; simp)]
          exact seqR_ok hv l (i0 + 1) its' _ _ _ _ _ K (a.put o.dst undef) p d u hl hget' he' (put_ok hv hs (Kle.refl K) hs.hr hs.wf hcond.2 VR.undef rfl hs.dfr) (stk_ok hs ht (Kle.refl K) hcond.2 VR.undef rfl) hm hp
        | true =>
          rw [if_pos hw]
          have he2 := he'
          simp only [bif_eq, if_true] at he2
          have hk := (compOpB_some hk).resolve_right (fun e => by subst e; cases he2)
          split at he2
          · -- recover
            obtain ⟨c, hcall, hcal, hargs⟩ := comp_rcv hk
            have hrun : (execOp a.eval o).run G.P K.w = .ok .recover K.w := by
              obtain ⟨dst, op, type, pos, after, guard⟩ := o
              simp only at hcall
              subst hcall
              obtain ⟨consts, hrun⟩ := run_call_builtin (P := G.P) a.eval c .recover hcal dst type pos after guard
              rw [hrun]; rfl
            rw [hrun]
            simp only
            split at he2
            · rename_i v
              cases d with
              | true => exact hm.elim
              | false =>
                obtain ⟨x, rfl, hx⟩ := hm
                have hrec : recoverD ({ c₀ with mode := .panicking [{ v := x, recovered := false }] } :: cs) = some (x, { c₀ with mode := .panicking [{ v := x, recovered := true }] } :: cs) := rfl
                rw [hrec]
                have hd' := seqR_d _ he2
                subst hd'
                exact seqR_ok hv l (i0 + 1) its' _ _ _ _ _ K (a.put o.dst x) none true (.panicking [{ v := x, recovered := true }]) hl hget' he2 (put_ok hv hs (Kle.refl K) hs.hr hs.wf hcond.2 hx rfl hs.dfr) (stk_ok hs ht (Kle.refl K) hcond.2 hx rfl)
                  ⟨x, rfl⟩ hp
            · have hrec : recoverD ({ c₀ with mode := u } :: cs) = none := by
                cases d with
                | false => have hm' : u = .returning := hm; subst hm'; rfl
                | true => obtain ⟨x, rfl⟩ := hm; rfl
              rw [hrec]
              exact seqR_ok hv l (i0 + 1) its' _ _ _ _ _ K (a.put o.dst .nilIface) none d u hl hget' he2 (put_ok hv hs (Kle.refl K) hs.hr hs.wf hcond.2 VR.nili rfl hs.dfr) (stk_ok hs ht (Kle.refl K) hcond.2 VR.nili rfl) hm hp
          · -- plain
            rw [ob_some] at he2
            obtain ⟨⟨v, h1, kill⟩, hf, he2⟩ := he2
            obtain ⟨x, K', g1, g2, g3, g4⟩ := astep_ok hco hs.hr hs.wf hk hf
            rw [g1]
            exact seqR_ok hv l (i0 + 1) its' _ _ _ _ _ K' (a.put o.dst x) p d u hl hget' he2 (put_ok hv hs g4.tn.le g3 (g4.wf hs.wf) hcond.2 g2 rfl (hs.dfr.mono g4.tn.le)) (stk_ok hs ht g4.tn.le hcond.2 g2 rfl) (hm.mono g4.tn.le)
              (fun e a' K'' u' st' hs' hx hm' => hp e a' K'' u' (g4.trans hs.hr st') hs' hx hm')
          · -- turns memory
            rw [ob_some] at he2
            obtain ⟨⟨v, h1⟩, hf, he2⟩ := he2
            obtain ⟨⟨nx, x, K', g1, g2, g3, g4, g5⟩, g6⟩ := eop_ok hco hk hf hs.hr
            have st : Stp K h K' h1 := ⟨g4, puts_ext g6, puts_wf g6, fun b hb => .inl (g5.2 b hb)⟩
            rw [g1]
            have go := seqR_ok (n := n) hv l (i0 + 1) its' _ _ _ _ _ K' (a.put o.dst x) p d u hl hget' he2 (put_ok hv hs st.tn.le g5.1 (st.wf hs.wf) hcond.2 g3 rfl (hs.dfr.mono st.tn.le)) (stk_ok hs ht st.tn.le hcond.2 g3 rfl) (hm.mono st.tn.le)
              (fun e a' K'' u' st' hs' hx hm' => hp e a' K'' u' (st.trans hs.hr st') hs' hx hm')
            rcases g2 with rfl | ⟨rfl, rfl⟩
            · exact go
            · exact go
          · cases he2
      · cases hc

theorem opsR_cmd (hv : V.vsl.Nodup) {id : Nat} {ops : Array Oper} {its : List IT} (hc : compIts G.P V true ops ops.toList [] = some its) : CmdROk G V m cf L (.region id ops false) (rOps its) := by
  intro n ex d' s' K a s p d c₀ cs u Q he hs hcx hm hp
  refine wpSIn_region ?_
  rw [List.range_eq_range']
  have := seqR_ok (n := n) (Q := Q) hv ops.toList 0 its [] [] s.vs s.h s.ds K a p d u hc (fun j o h => by simpa using h) he hs (fun t j h => by cases h) hm hp
  simpa using this

theorem rCmd_cmd {c : Code} {x : Cmd} (hx : CmdOk G V m Fence.wide cf L c x) : CmdROk G V m cf L c (rCmd x) := by
  intro n ex d' s' K a s p d c₀ cs u Q he hs hcx hm hp
  have he' : ob (x cf L s) (fun r => some (r.1, d, r.2)) = some (ex, d', s') := he
  rw [ob_some] at he'
  obtain ⟨⟨ex1, s1⟩, h1, h2⟩ := he'
  simp only [Option.some.injEq, Prod.mk.injEq] at h2
  obtain ⟨rfl, rfl, rfl⟩ := h2
  refine wpSIn_of_wpIn rfl (hx n ex1 s1 K a s _ h1 hs hcx fun e a' K' st hs' hxe => hp e a' K' u st hs' hxe ?_)
  have := hm.mono st.tn.le
  cases d with
  | false => exact this
  | true => cases p with
    | none => exact this
    | some v => exact this.elim

/-- what has been recovered stays so -/
def CmdRd (x : CmdR) : Prop := ∀ cf L p s ex d' s', x cf L p true s = some (ex, d', s') → d' = true
theorem opsR_d (its : List IT) : CmdRd (rOps its) := fun _cf _L _p _s _ex _d' _s' he => seqR_d its he
theorem rCmd_d (x : Cmd) : CmdRd (rCmd x) := fun cf L p s ex d' s' he => by
  have he' : ob (x cf L s) (fun r => some (r.1, true, r.2)) = some (ex, d', s') := he
  rw [ob_some] at he'
  obtain ⟨r, _, h⟩ := he'
  cases h; rfl
theorem seqR_dd {x y : CmdR} (hx : CmdRd x) (hy : CmdRd y) : CmdRd (rSeq x y) := fun cf L p s ex d' s' he => by
  have he' : ob (x cf L p true s) (fun r => match r with
    | (.normal, d', s) => y cf L (bif_ d' none p) d' s
    | r => some r) = some (ex, d', s') := he
  rw [ob_some] at he'
  obtain ⟨⟨ex1, d1, s1⟩, h1, h2⟩ := he'
  have := hx _ _ _ _ _ _ _ h1
  subst this
  cases ex1 with
  | normal => exact hy _ _ _ _ _ _ _ h2
  | _ => simp only [Option.some.injEq, Prod.mk.injEq] at h2; exact h2.2.1.symm
theorem cndR_d {f : OF} {x y : CmdR} (hx : CmdRd x) (hy : CmdRd y) : CmdRd (rCnd f x y) := fun cf L p s ex d' s' he => by
  have he' : ob (f [] s.vs) (fun v => match v with
    | .bool t => bif_ t (x cf L p true s) (y cf L p true s)
    | _ => none) = some (ex, d', s') := he
  rw [ob_some] at he'
  obtain ⟨v, hv, he'⟩ := he'
  cases v <;> simp only [reduceCtorEq] at he'
  · rename_i t
    cases t
    · exact hy _ _ _ _ _ _ _ he'
    · exact hx _ _ _ _ _ _ _ he'

theorem seqR_cmd {c e : Code} {x y : CmdR} (hyd : CmdRd y) (hx : CmdROk G V m cf L c x) (hy : CmdROk G V m cf L e y) : CmdROk G V m cf L (.seq c e) (rSeq x y) := by
  intro n ex d' s' K a s p d c₀ cs u Q he hs hcx hm hp
  have he' : ob (x cf L p d s) (fun r => match r with
    | (.normal, d', s) => y cf L (bif_ d' none p) d' s
    | r => some r) = some (ex, d', s') := he
  rw [ob_some] at he'
  obtain ⟨⟨ex1, d1, s1⟩, h1, h2⟩ := he'
  refine wpSIn_seq (hx n ex1 d1 s1 K a s p d c₀ cs u _ h1 hs hcx hm fun e a' K' u' st hs' hxe hm' => ?_)
  cases ex1 with
  | normal =>
    cases e <;> simp only [ExR] at hxe
    refine hy n ex d' s' K' a' s1 _ d1 c₀ cs u' Q h2 hs' (hcx.mono st.tn.le) hm' fun e a'' K'' u'' st' hs'' hx' hm'' => hp e a'' K'' u'' (st.trans hs.hr st') hs'' hx' ?_
    cases d' with
    | true => exact hm''
    | false =>
      cases d1 with
      | false => exact hm''
      | true =>
        have := hyd _ _ _ _ _ _ _ h2
        cases this
  | _ =>
    simp only [Option.some.injEq, Prod.mk.injEq] at h2
    obtain ⟨rfl, rfl, rfl⟩ := h2
    have hq := hp e a' K' u' st hs' hxe hm'
    cases e <;> simp only [ExR] at hxe <;> exact hq

theorem cndR_cmd {o : Operand} {f : OF} {c e : Code} {x y : CmdR} (hf : compX V [] o = some f) (hx : CmdROk G V m cf L c x) (hy : CmdROk G V m cf L e y) : CmdROk G V m cf L (.cond o c e) (rCnd f x y) := by
  intro n ex d' s' K a s p d c₀ cs u Q he hs hcx hm hp
  have he' : ob (f [] s.vs) (fun v => match v with
    | .bool t => bif_ t (x cf L p d s) (y cf L p d s)
    | _ => none) = some (ex, d', s') := he
  rw [ob_some] at he'
  obtain ⟨v, hv, he'⟩ := he'
  have hvr := ops_ok hs (stk := []) (ds := []) (fun t j h => by cases h) _ _ _ hf hv
  split at he'
  · rename_i t
    generalize hρ : a.eval o = z at hvr
    cases hvr
    refine wpSIn_cond hρ ?_
    rw [bif_eq] at he'
    cases t with
    | true => exact hx n ex d' s' K a s p d c₀ cs u Q he' hs hcx hm hp
    | false => exact hy n ex d' s' K a s p d c₀ cs u Q he' hs hcx hm hp
  · cases he'

end
end Hx

/- How a function is left: results, deferred calls, marks. -/
namespace Hx
open Go

section
variable {G : Gx} {K : Kx}

def resV (tmps : Array Value) (r : ResultVar) : Sem Value :=
  match r with
  | .tmp t => pure (tmps.getD t undef)
  | .cell a t => do loadVar t (← asAddr (tmps.getD a undef))

theorem results_ok {V : Vn} {h : Heap} {ks : List Nat} (hr : HR G K h ks) {vs : List AV} {tmps : Array Value} (hs : Slots G.P K V.vsl vs tmps) : ∀ {rs : List ResultVar} {l : List IRes} {vals : List AV}, compRes G.P V rs = some l → mapO (resultA vs h) l = some vals →
    ∃ xs : List Value, (rs.mapM (resV tmps)).run G.P K.w = .ok xs K.w ∧ VRs G.P K vals xs
  | [], l, vals, hc, hm => by
    cases hc; cases hm
    exact ⟨[], rfl, .nil⟩
  | r :: rs, l, vals, hc, hm => by
    have slot : ∀ {i t : Nat} {v : AV}, idxN t V.vsl = some i → getL vs i = some v → VR G.P K v (tmps.getD t undef) := by
      intro i t v hi hv
      obtain ⟨v', x, h1, h2, h3⟩ := hs.2 i t (idxN_some hi)
      rw [getL_eq, h1] at hv
      cases hv
      rw [Array.getD_eq_getD_getElem?, h2]; exact h3
    cases r with
    | tmp t =>
      simp only [compRes] at hc
      split at hc
      · rename_i i l' hi hl
        cases hc
        have hm' : ob (getL vs i) (fun y => ob (mapO (resultA vs h) l') fun ys => some (y :: ys)) = some vals := hm
        simp only [ob_some, Option.some.injEq] at hm'
        obtain ⟨v, hv, vals', hv2, rfl⟩ := hm'
        obtain ⟨xs, h1, h2⟩ := results_ok hr hs hl hv2
        exact ⟨_ :: xs, by simp [List.mapM_cons, h1, resV], .cons _ _ _ _ (slot hi hv) h2⟩
      · cases hc
    | cell a t =>
      simp only [compRes] at hc
      split at hc
      · rename_i i n g l' hi hn hg hl
        cases hc
        have hm' : ob (ob (getL vs i) fun p => ob (loadN h n p) fun cs => pack g cs) (fun y => ob (mapO (resultA vs h) l') fun ys => some (y :: ys)) = some vals := hm
        simp only [ob_some, Option.some.injEq] at hm'
        obtain ⟨v, ⟨p, hp, cs, hcs, hpk⟩, vals', hv2, rfl⟩ := hm'
        obtain ⟨xs, h1, h2⟩ := results_ok hr hs hl hv2
        have hpv := slot hi hp
        obtain ⟨y, h3, h4⟩ := load_ok hr hn hg hpv hcs hpk
        obtain ⟨b, o, cvs, h5, _⟩ := loadN_ok hr hpv hcs
        rw [h5] at h3
        refine ⟨y :: xs, ?_, .cons _ _ _ _ h4 h2⟩
        simp only [Instr.loadAt, Instr.sureAddr] at h3
        have h5' : (tmps[a]?.getD undef) = .pointer (some ⟨b, o, none⟩) := by rw [← Array.getD_eq_getD_getElem?]; exact h5
        have h3' : (loadVar t ⟨b, o, none⟩).run G.P K.w = .ok y K.w := by simpa using h3
        simp [List.mapM_cons, h1, h5', asAddr, resV, h3']
      · cases hc


theorem results_run {V : Vn} {h : Heap} {ks : List Nat} (hr : HR G K h ks) {vs : List AV} {tmps : Array Value} (hs : Slots G.P K V.vsl vs tmps) {fn : Func} {l : List IRes} {vals : List AV} (hc : compRes G.P V fn.results.toList = some l) (hm : mapO (resultA vs h) l = some vals) :
    ∃ x, (results fn tmps).run G.P K.w = .ok x K.w ∧ VR G.P K (tupV vals) x := by
  obtain ⟨xs, h1, h2⟩ := results_ok hr hs hc hm
  have e : (results fn tmps) = (do let vs ← fn.results.mapM (resV tmps); pure (if h : vs.size = 1 then vs[0] else .tuple vs)) := rfl
  have h3 : (fn.results.mapM (resV tmps)).run G.P K.w = .ok xs.toArray K.w := by
    rw [Array.mapM_eq_mapM_toList]
    simp [h1]
  have hl := h2.length
  refine ⟨if h : xs.toArray.size = 1 then xs.toArray[0] else .tuple xs.toArray, by rw [e]; simp only [Sem.run_bind, h3, Result.andThen_ok, Sem.run_pure], ?_⟩
  unfold tupV
  split
  · cases h2 with
    | cons _ x _ r hv hr' => cases hr'; simpa using hv
  · rename_i hne
    rw [dif_neg]
    · exact .tup _ _ h2
    · intro h1'
      have : vals.length = 1 := by rw [← hl]; simpa using h1'
      match vals, this with
      | [v], _ => exact hne v rfl

/-- a mark is taken: the block of deferred calls is shut -/
theorem shut_le {b : Nat} (hb : K.w.heap[b]? = some (.deferred (some []))) : Klw K (K.on { K.w with heap := K.w.heap.setIfInBounds b (.deferred none) }) := by
  have ne : ∀ c, c ≠ b → (K.w.heap.setIfInBounds b (.deferred none))[c]? = K.w.heap[c]? := fun c hc => Array.getElem?_setIfInBounds_ne (Ne.symm hc)
  refine ⟨fun _ h => h, fun _ _ => rfl, fun _ _ => rfl, fun _ h => .inl h, fun c _ _ => ?_, fun c cs e fr hc => ⟨cs, fr, ?_, rfl⟩, by show _ ≤ (K.w.heap.setIfInBounds b (.deferred none)).size; simp⟩
  · by_cases h : c = b
    · subst h; exact .inr ⟨_, hb⟩
    · exact .inl (ne c h)
  · have : c ≠ b := fun e => by rw [e, hb] at hc; cases hc
    exact (ne c this).trans hc

theorem HR.shut {h : Heap} (hr : HR G K h []) {b : Nat} (hb : K.w.heap[b]? = some (.deferred (some []))) : HR G (K.on { K.w with heap := K.w.heap.setIfInBounds b (.deferred none) }) h [] := by
  have ne : ∀ c, c ≠ b → (K.w.heap.setIfInBounds b (.deferred none))[c]? = K.w.heap[c]? := fun c hc => Array.getElem?_setIfInBounds_ne (Ne.symm hc)
  refine ⟨hr.lt, fun i hi => by show K.bl i < (K.w.heap.setIfInBounds b (.deferred none)).size; have := hr.inh i hi; simpa using this, hr.own, hr.old, fun i x hi hx => ?_, hr.dist, hr.aold, by show _ ≤ (K.w.heap.setIfInBounds b (.deferred none)).size; have := hr.bsz; simpa using this⟩
  have h0 := hr.blk i x hi hx
  have : K.bl i ≠ b := fun e => by
    cases x with
    | row cs e' => obtain ⟨c, _, h1, _⟩ := h0; rw [e, hb] at h1; cases h1
    | mp es n => obtain ⟨c, h1, _⟩ := h0; rw [e, hb] at h1; cases h1
    | loop st pd vs ps bid => obtain ⟨L, I, h1, _⟩ := h0; rw [e, hb] at h1; cases h1
  exact h0.monoW (shut_le hb) hi (ne _ this)

theorem DR.monoW {P : Program} {K K' : Kx} (hk : Klw K K') {x : AV × List AV} {d : Deferred} (h : DR P K x d) : DR P K' x d := by
  cases h with
  | mk f a c as va vc vas h1 h2 h3 => exact .mk f a c as va vc vas (h1.monoW hk) (h2.monoW hk) (h3.monoW hk)
theorem GlOk.monoW {P : Program} {K K' : Kx} {gl : Nat → Option (List AV)} (hk : Klw K K') (h : GlOk P K gl) : GlOk P K' gl := fun g cs hg =>
  let ⟨cvs, h1, h2, h3, h4⟩ := h g cs hg
  ⟨cvs, h1.monoW hk, hk.at h3 h4 h2, hk.nown h3 h4, Nat.lt_of_lt_of_le h4 hk.size⟩

theorem DRs.shut {m : Option Nat} {b : Nat} (hb : K.w.heap[b]? = some (.deferred (some []))) {l : Defs} {r : List Deferred} (h : DRs G.P K m l r) (hd : ∀ d, d ∈ r → d.target ≠ .collected b) :
    DRs G.P (K.on { K.w with heap := K.w.heap.setIfInBounds b (.deferred none) }) m l r := by
  induction h with
  | nil => exact .nil
  | cons x d l r h _ ih => exact .cons x d l r (h.monoW (shut_le hb)) (ih fun d hd' => hd d (List.mem_cons_of_mem _ hd'))
  | mark c l r h1 h2 h3 h4 _ ih =>
    have hne : c ≠ b := fun e => hd _ List.mem_cons_self (by rw [e])
    refine .mark c l r ?_ h2 h3 h4 (ih fun d hd' => hd d (List.mem_cons_of_mem _ hd'))
    show (K.w.heap.setIfInBounds b (.deferred none))[c]? = _
    rw [Array.getElem?_setIfInBounds_ne (Ne.symm hne)]; exact h1

theorem Stp.shut {K0 : Kx} {h0 h : Heap} (st : Stp K0 h0 K h) (hr0 : ∀ i, K0.D i → K0.bl i < K0.w.heap.size) {b : Nat} (hb : K.w.heap[b]? = some (.deferred (some []))) (hge : K0.w.heap.size ≤ b) :
    Stp K0 h0 (K.on { K.w with heap := K.w.heap.setIfInBounds b (.deferred none) }) h := by
  have ne : ∀ c, c ≠ b → (K.w.heap.setIfInBounds b (.deferred none))[c]? = K.w.heap[c]? := fun c hc => Array.getElem?_setIfInBounds_ne (Ne.symm hc)
  refine ⟨⟨⟨st.tn.le.D, st.tn.le.bl, st.tn.le.sh, st.tn.le.own, fun c hc ho => ?_, fun c cs e fr hc => ?_, fun c L hc => ?_, ?_, st.tn.le.fr.trans (FrW.set (b := b) rfl rfl ne (by rw [hb]; show frOf (K.w.heap.setIfInBounds _ _)[b]? = _; simp [(Array.getElem?_eq_some_iff.1 hb).1, frOf]))⟩, fun i hi hl hn => ?_, st.tn.nb⟩, st.ext, st.wf, st.dm⟩
  · exact (ne c (by omega)).trans (st.tn.le.imm c hc ho)
  · obtain ⟨c', fr', h1, h2⟩ := st.tn.le.shp c cs e fr hc
    have := (Array.getElem?_eq_some_iff.1 hc).1
    exact ⟨c', fr', (ne c (by omega)).trans h1, h2⟩
  · obtain ⟨L', h1⟩ := st.tn.le.lps c L hc
    have := (Array.getElem?_eq_some_iff.1 hc).1
    exact ⟨L', (ne c (by omega)).trans h1⟩
  · show _ ≤ (K.w.heap.setIfInBounds b (.deferred none)).size
    have := st.tn.le.size; simpa using this
  · have := hr0 i hi
    exact (ne _ (by omega)).trans (st.tn.unt i hi hl hn)

theorem run_takeDeferred {P : Program} {w : World} {b : Nat} (hb : w.heap[b]? = some (.deferred (some []))) : (Instr.takeDeferred b).run P w = .ok [] { w with heap := w.heap.setIfInBounds b (.deferred none) } := by
  simp [Instr.takeDeferred, getObj, setObj, Sem.run, hb]

end
end Hx

/- All code. -/
namespace Hx
open Go

section
variable {G : Gx} {V : Vn} {m : Option Nat} {F : Fence} {cf : CallFn} {L : Nat}

/-- the bodies of this code's ranges over functions, from n on -/
def BdOk (G : Gx) (V : Vn) (c : Code) (n : Nat) : Prop := ∀ i r, bodyAt c i = some r → G.BD (n + i) = some { vsl := V.vsl, ps := r.ps.toList, assign := r.assign, body := r.body, nt := V.nt }

/-- regions that draw their order -/
def PreOk (G : Gx) (V : Vn) (cf : CallFn) (L : Nat) : Prop := ∀ (m : Option Nat) (F : Fence) (id : Nat) (ops : Array Oper) (x : Cmd), plainF F → compPre G.P V ops = some x → CmdOk G V m F cf L (.region id ops true) x

theorem bodyAt_lt : ∀ (c : Code) (i : Nat) (r : RB), bodyAt c i = some r → i < nb c
  | .seq a b, i, r, h | .cond _ a b, i, r, h => by
    simp only [bodyAt] at h
    simp only [nb]
    split at h
    · omega
    · have := bodyAt_lt b _ _ h; omega
  | .block _ b, i, r, h | .loop b, i, r, h | .scope b, i, r, h => by
    simp only [bodyAt] at h
    simp only [nb]
    exact bodyAt_lt b _ _ h
  | .rangeFunc _ ps a b, i, r, h => by
    simp only [bodyAt] at h
    simp only [nb]
    split at h
    · omega
    · split at h
      · omega
      · have := bodyAt_lt b _ _ h; omega
  | .skip, i, r, h | .region .., i, r, h | .exit _, i, r, h | .label _, i, r, h | .goto _, i, r, h | .ret, i, r, h | .refuse _, i, r, h => by simp [bodyAt] at h

theorem BdOk.left {a b : Code} {n : Nat} (h : BdOk G V (.seq a b) n) : BdOk G V a n ∧ BdOk G V b (n + nb a) := by
  refine ⟨fun i r hi => h i r ?_, fun i r hi => ?_⟩
  · simp only [bodyAt]; rw [if_pos (bodyAt_lt _ _ _ hi)]; exact hi
  · have := h (nb a + i) r (by simp only [bodyAt]; rw [if_neg (by omega), Nat.add_sub_cancel_left]; exact hi)
    rwa [← Nat.add_assoc] at this

theorem scope_cmd {c : Code} {x : Cmd} (hF : F = Fence.wide) (hx : CmdOk G V m F cf L c x) : CmdOk G V m F cf L (.scope c) (cScope x) := by
  subst hF
  intro n ex s' K a s Q he hs hcx hp
  have he' : ob (x cf L s) noGoto = some (ex, s') := he
  rw [ob_some] at he'
  obtain ⟨⟨ex1, s1⟩, h1, h2⟩ := he'
  rw [wpIn_wide]
  refine wp_scope_straight ?_
  rw [← wpIn_wide (n := n)]
  refine hx n ex1 s1 K a s _ h1 hs hcx fun e a' K' st hs' hxe => ?_
  cases ex1 with
  | goto i => cases h2
  | _ =>
    simp only [noGoto, Option.some.injEq, Prod.mk.injEq] at h2
    obtain ⟨rfl, rfl⟩ := h2
    have := hp e a' K' st hs' hxe
    cases e <;> simp only [ExR] at hxe <;> exact this

theorem least_of {p : Nat → Prop} : ∀ (n : Nat), p n → ∃ k, p k ∧ ∀ j, p j → k ≤ j := by
  intro n
  induction n using Nat.strongRecOn with
  | _ n ih =>
    intro hn
    by_cases h : ∃ j, j < n ∧ p j
    · obtain ⟨j, hj, hpj⟩ := h; exact ih j hj hpj
    · exact ⟨n, hn, fun j hj => Nat.le_of_not_lt fun hl => h ⟨j, hl, hj⟩⟩
theorem wp_scope_run {P : Program} {a : Act} {w : World} {Q : Exit → Act → World → Prop} {c rest : Code} (l : Nat) (T : Nat → Act → World → Prop) (hf : findLabel c l = some rest)
    (first : c.wp P (Exit.jump l (fun a w => ∃ k, T k a w) Q) a w)
    (pass : ∀ k a w, T k a w → rest.wp P (Exit.jump l (fun a' w' => ∃ k', k' < k ∧ T k' a' w') Q) a w) : (Code.scope c).wp P Q a w := by
  classical
  have hl : ∀ a w, (∃ k, T k a w) → ∃ k, T k a w ∧ ∀ j, T j a w → k ≤ j := fun a w ⟨k, hk⟩ => least_of k hk
  refine wp_scope_jumps l (fun a w => ∃ k, T k a w) (fun a w => if h : ∃ k, T k a w then Classical.choose (hl a w h) else 0) hf first fun a w hJ => ?_
  have hs := Classical.choose_spec (hl a w hJ)
  intro b k cs
  obtain ⟨e, a', w', hq, harr⟩ := pass _ a w hs.1 b k cs
  refine ⟨e, a', w', ?_, harr⟩
  cases e with
  | goto i =>
    obtain ⟨h1, k', h2, h3⟩ := hq
    refine ⟨h1, ⟨k', h3⟩, ?_⟩
    rw [dif_pos hJ, dif_pos ⟨k', h3⟩]
    exact Nat.lt_of_le_of_lt ((Classical.choose_spec (hl a' w' ⟨k', h3⟩)).2 k' h3) h2
  | _ => exact hq
theorem scopeJ_cmd {c rest : Code} {x y : Cmd} {l : Nat} (hF : F = Fence.wide) (hf : findLabel c l = some rest) (hx : CmdOk G V m F cf L c x) (hy : CmdOk G V m F cf L rest y) : CmdOk G V m F cf L (.scope c) (cScopeJ l x y) := by
  subst hF
  intro n ex s' K a s Q he hs hcx hp
  let T : Nat → Act → World → Prop := fun k a1 w1 => ∃ K1 s1, w1 = K1.w ∧ jumpN l (y cf L) k (y cf L s1) = some (ex, s') ∧ SR G V m K1 a1 s1.vs s1.h s1.ds ∧ Cx Fence.wide m K1 ∧ Post G V m K1 s1.h ex s' Q
  have body : ∀ (d : Code) (z : Cmd), CmdOk G V m Fence.wide cf L d z → ∀ (k : Nat) (K0 : Kx) (a0 : Act) (s0 : St), jumpN l (y cf L) (k + 1) (z cf L s0) = some (ex, s') → SR G V m K0 a0 s0.vs s0.h s0.ds → Cx Fence.wide m K0 → Post G V m K0 s0.h ex s' Q →
      d.wp G.P (Exit.jump l (fun a w => T k a w) Q) a0 K0.w := by
    intro d z hz k K0 a0 s0 he0 hs0 hcx0 hp0
    have he1 : ob (z cf L s0) (fun r => match r with
      | (.goto i, s) => bif_ (Nat.beq i l) (jumpN l (y cf L) k (y cf L s)) none
      | r => some r) = some (ex, s') := he0
    rw [ob_some] at he1
    obtain ⟨⟨ex1, s1⟩, h1, h2⟩ := he1
    rw [← wpIn_wide (n := n)]
    refine hz n ex1 s1 K0 a0 s0 _ h1 hs0 hcx0 fun e a' K' st hs' hxe => ?_
    cases ex1 with
    | goto i =>
      have h2' : bif_ (Nat.beq i l) (jumpN l (y cf L) k (y cf L s1)) none = some (ex, s') := h2
      rw [bif_none] at h2'
      cases e <;> simp only [ExR] at hxe
      subst hxe
      exact ⟨Nat.eq_of_beq_eq_true h2'.1, K', s1, rfl, h2'.2, hs', hcx0.mono st.tn.le, hp0.step hs0.hr st⟩
    | _ =>
      simp only [Option.some.injEq, Prod.mk.injEq] at h2
      obtain ⟨rfl, rfl⟩ := h2
      have hq := hp0 e a' K' st hs' hxe
      cases e <;> simp only [ExR] at hxe <;> exact hq
  have up : ∀ k, jumpN l (y cf L) k (x cf L s) = some (ex, s') → ∃ k', k = k' + 1 := fun k hk => by
    cases k with
    | zero => cases hk
    | succ k => exact ⟨k, rfl⟩
  rw [wpIn_wide]
  refine wp_scope_run l T hf ?_ ?_
  · have he' : jumpN l (y cf L) L (x cf L s) = some (ex, s') := he
    obtain ⟨k, hk⟩ := up _ he'
    have := body c x hx k K a s (by rw [← hk]; exact he') hs hcx hp
    intro b kk cs
    obtain ⟨e, a', w', hq, harr⟩ := this b kk cs
    refine ⟨e, a', w', ?_, harr⟩
    cases e with
    | goto i => exact ⟨hq.1, k, hq.2⟩
    | _ => exact hq
  · rintro k a1 w1 ⟨K1, s1, rfl, h1, h2, h3, h4⟩
    cases k with
    | zero => cases h1
    | succ k =>
      have := body rest y hy k K1 a1 s1 h1 h2 h3 h4
      intro b kk cs
      obtain ⟨e, a', w', hq, harr⟩ := this b kk cs
      refine ⟨e, a', w', ?_, harr⟩
      cases e with
      | goto i => exact ⟨hq.1, k, Nat.lt_succ_self _, hq.2⟩
      | _ => exact hq
theorem goto_cmd {l : Nat} : CmdOk G V m F cf L (.goto l) (cGoto l) := by
  intro n ex s' K a s Q he hs _ hp
  cases he
  exact wpIn_goto (hp (.goto l) a K (Stp.refl _ _) hs rfl)

theorem comp_ok (hpre : PreOk G V cf L) (hcf : CallOk G V.gl cf) (hv : V.vsl.Nodup) (hF : plainF F) {rd : Bool} (hrd : (F.round = none ∧ rd = false) ∨ rd = true) : ∀ (c : Code) (n : Nat) (x : Cmd), comp G.P V rd c n = some x → BdOk G V c n → (nb c = 0 ∨ m.isSome = true) → CmdOk G V m F cf L c x
  | .skip, n, x, hc, _, _ => by cases hc; exact nop_cmd
  | .label _, n, x, hc, _, _ => by cases hc; exact label_cmd
  | .region id ops draw, n, x, hc, _, _ => by
    simp only [comp] at hc
    cases draw with
    | true => exact hpre m F id ops x hF hc
    | false =>
      simp only [Bool.false_eq_true, if_false, Option.map_eq_some_iff] at hc
      obtain ⟨its, hi, rfl⟩ := hc
      exact ops_cmd hF (hrd.imp (fun h => h.1) fun h => h) hcf hv hi
  | .seq a b, n, x, hc, hb, hm => by
    simp only [comp] at hc
    split at hc
    · rename_i y z hy hz
      cases hc
      simp only [nb] at hm
      exact seq_cmd (comp_ok hpre hcf hv hF hrd a n y hy hb.left.1 (hm.imp (fun h => by omega) id)) (comp_ok hpre hcf hv hF hrd b _ z hz hb.left.2 (hm.imp (fun h => by omega) id))
    · cases hc
  | .cond o a b, n, x, hc, hb, hm => by
    simp only [comp] at hc
    split at hc
    · rename_i f y z hf hy hz
      cases hc
      simp only [nb] at hm
      have hb' : BdOk G V (.seq a b) n := fun i r h => hb i r h
      exact cnd_cmd hf (comp_ok hpre hcf hv hF hrd a n y hy hb'.left.1 (hm.imp (fun h => by omega) id)) (comp_ok hpre hcf hv hF hrd b _ z hz hb'.left.2 (hm.imp (fun h => by omega) id))
    · cases hc
  | .block id b, n, x, hc, hb, hm => by
    simp only [comp, Option.map_eq_some_iff] at hc
    obtain ⟨y, hy, rfl⟩ := hc
    exact blk_cmd (comp_ok hpre hcf hv hF hrd b n y hy (fun i r h => hb i r h) hm)
  | .loop b, n, x, hc, hb, hm => by
    simp only [comp, Option.map_eq_some_iff] at hc
    obtain ⟨y, hy, rfl⟩ := hc
    exact loop_cmd hF (comp_ok hpre hcf hv hF hrd b n y hy (fun i r h => hb i r h) hm)
  | .exit i, n, x, hc, _, _ => by cases hc; exact exit_cmd
  | .ret, n, x, hc, _, _ => by cases hc; exact ret_cmd
  | .scope b, n, x, hc, hb, hm => by
    simp only [comp] at hc
    split at hc
    · cases hc
    · rename_i hcond
      simp only [Option.map_eq_some_iff] at hc
      obtain ⟨y, hy, rfl⟩ := hc
      have hrd' : rd = false := by simp at hcond; exact hcond.2
      have hFw : F = Fence.wide := by
        rcases hrd with h | h
        · have h1 : F.plain = Fence.wide := hF
          have h2 : F.plain = F := by cases F; simp [Fence.plain] at h ⊢; exact h.1.symm
          rw [← h2]; exact h1
        · rw [hrd'] at h; cases h
      exact scope_cmd hFw (comp_ok hpre hcf hv hF hrd b n y hy (fun i r h => hb i r h) hm)
  | .rangeFunc f ps a b, n, x, hc, hb, hm => by
    simp only [comp] at hc
    split at hc
    · rename_i y l z1 z2 hy hl hz1 hz2
      cases hc
      have hms : m.isSome = true := hm.resolve_left (by simp [nb])
      exact rng_cmd hms hF hcf hy hl (by have := hb 0 ⟨ps, a, b⟩ (by simp [bodyAt]); simpa using this)
    · cases hc
  | .goto _, n, x, hc, _, _ => by cases hc; exact goto_cmd
  | .refuse _, n, x, hc, _, _ => by cases hc


theorem rest_at : ∀ (c : Code) (l : Nat) (rest : Code), findLabel c l = some rest → nb rest ≤ nb c ∧ ∀ i, bodyAt rest i = bodyAt c (i + (nb c - nb rest))
  | .seq a b, l, rest, h => by
    simp only [findLabel] at h
    split at h
    · rename_i r hr
      cases h
      obtain ⟨h1, h2⟩ := rest_at a l r hr
      refine ⟨by simp only [nb]; omega, fun i => ?_⟩
      have e : nb (.seq a b) - nb (.seq r b) = nb a - nb r := by simp only [nb]; omega
      rw [e]
      simp only [bodyAt]
      by_cases hi : i < nb r
      · rw [if_pos hi, if_pos (by omega), h2]
      · rw [if_neg hi, if_neg (by omega)]
        congr 1; omega
    · obtain ⟨h1, h2⟩ := rest_at b l rest h
      refine ⟨by simp only [nb]; omega, fun i => ?_⟩
      have e : nb (.seq a b) - nb rest = nb a + (nb b - nb rest) := by simp only [nb]; omega
      rw [e]
      simp only [bodyAt]
      rw [if_neg (by omega), h2]
      congr 1; omega
  | .label l', l, rest, h => by
    simp only [findLabel] at h
    split at h
    · cases h
      exact ⟨Nat.le_refl _, fun i => by simp [bodyAt]⟩
    · cases h
  | .cond .., l, rest, h | .block .., l, rest, h | .loop _, l, rest, h | .scope _, l, rest, h | .rangeFunc .., l, rest, h
  | .skip, l, rest, h | .region .., l, rest, h | .exit _, l, rest, h | .goto _, l, rest, h | .ret, l, rest, h | .refuse _, l, rest, h => by simp [findLabel] at h
theorem compT_ok (hpre : PreOk G V cf L) (hcf : CallOk G V.gl cf) (hv : V.vsl.Nodup) (hF : F = Fence.wide) (hFp : plainF F) : ∀ (c : Code) (n : Nat) (x : Cmd), compT G.P V c n = some x → BdOk G V c n → (nb c = 0 ∨ m.isSome = true) → CmdOk G V m F cf L c x := by
  have hrn : F.round = none := by subst hF; rfl
  have plain : ∀ (c : Code) (n : Nat) (x : Cmd), comp G.P V false c n = some x → BdOk G V c n → (nb c = 0 ∨ m.isSome = true) → CmdOk G V m F cf L c x :=
    fun c n x h hb hm => comp_ok hpre hcf hv hFp (.inl ⟨hrn, rfl⟩) c n x h hb hm
  intro c
  induction c with
  | seq a b iha ihb =>
    intro n x hc hb hm
    simp only [compT] at hc
    split at hc
    · rename_i y z hy hz
      cases hc
      simp only [nb] at hm
      exact seq_cmd (iha n y hy hb.left.1 (hm.imp (fun h => by omega) id)) (ihb _ z hz hb.left.2 (hm.imp (fun h => by omega) id))
    · cases hc
  | block id b ih =>
    intro n x hc hb hm
    simp only [compT, Option.map_eq_some_iff] at hc
    obtain ⟨y, hy, rfl⟩ := hc
    exact blk_cmd (ih n y hy (fun i r h => hb i r h) hm)
  | scope b _ =>
    intro n x hc hb hm
    simp only [compT] at hc
    split at hc
    · unfold compJ at hc
      split at hc
      · rename_i l hl
        split at hc
        · rename_i rest hr
          split at hc
          · rename_i y z hy hz
            cases hc
            obtain ⟨h1, h2⟩ := rest_at b l rest hr
            simp only [nb] at hm
            exact scopeJ_cmd hF hr (plain b n y hy (fun i r h => hb i r h) hm) (plain rest _ z hz (fun i r h => by
              rw [h2] at h
              have := hb _ _ h
              rw [Nat.add_assoc, Nat.add_comm (nb b - nb rest) i]; exact this) (hm.imp (fun h => by omega) id))
          · cases hc
        · cases hc
      · cases hc
    · exact plain _ n x hc hb hm
  | _ =>
    intro n x hc hb hm
    simp only [compT] at hc
    exact plain _ n x hc hb hm
theorem compB_ok (hpre : PreOk G V cf L) (hcf : CallOk G V.gl cf) (hv : V.vsl.Nodup) (hF : F = Fence.wide) (b : Code) (n : Nat) (x : Cmd) (hc : compB G.P V b n = some x) (hb : BdOk G V b n) (hm : nb b = 0 ∨ m.isSome = true) : CmdOk G V m F cf L b x := by
  have hFp : plainF F := by subst hF; rfl
  unfold compB at hc
  split at hc
  · exact compT_ok hpre hcf hv hF hFp b n x hc hb hm
  · exact comp_ok hpre hcf hv hFp (.inl ⟨by subst hF; rfl, rfl⟩) b n x hc hb hm

theorem compR_ok (hpre : PreOk G V cf L) (hcf : CallOk G V.gl cf) (hv : V.vsl.Nodup) : ∀ (c : Code) (n : Nat) (x : CmdR), compR G.P V c n = some x → nb c = 0 → CmdROk G V m cf L c x ∧ CmdRd x := by
  have plain : ∀ (c : Code) (n : Nat) (x : CmdR), (comp G.P V false c n).map rCmd = some x → nb c = 0 → CmdROk G V m cf L c x ∧ CmdRd x := by
    intro c n x h hb
    rw [Option.map_eq_some_iff] at h
    obtain ⟨y, hy, rfl⟩ := h
    refine ⟨rCmd_cmd (comp_ok (F := Fence.wide) hpre hcf hv rfl (.inl ⟨rfl, rfl⟩) c n y hy (fun i r hi => ?_) (.inl hb)), rCmd_d y⟩
    have := bodyAt_lt _ _ _ hi
    omega
  intro c
  induction c with
  | region id ops draw =>
    intro n x h hb
    simp only [compR] at h
    split at h
    · split at h
      · cases h
      · rename_i hd
        rw [Option.map_eq_some_iff] at h
        obtain ⟨its, hi, rfl⟩ := h
        have : draw = false := by simpa using hd
        subst this
        exact ⟨opsR_cmd hv hi, opsR_d its⟩
    · exact plain _ n x h hb
  | seq a b iha ihb =>
    intro n x h hb
    simp only [compR] at h
    simp only [nb] at hb
    split at h
    · split at h
      · rename_i y z hy hz
        cases h
        obtain ⟨h1, h2⟩ := iha n y hy (by omega)
        obtain ⟨h3, h4⟩ := ihb _ z hz (by omega)
        exact ⟨seqR_cmd h4 h1 h3, seqR_dd h2 h4⟩
      · cases h
    · exact plain _ n x h (by simp only [nb]; omega)
  | cond o a b iha ihb =>
    intro n x h hb
    simp only [compR] at h
    simp only [nb] at hb
    split at h
    · split at h
      · rename_i f y z hf hy hz
        cases h
        obtain ⟨h1, h2⟩ := iha n y hy (by omega)
        obtain ⟨h3, h4⟩ := ihb _ z hz (by omega)
        exact ⟨cndR_cmd hf h1 h3, cndR_d h2 h4⟩
      · cases h
    · exact plain _ n x h (by simp only [nb]; omega)
  | _ =>
    intro n x h hb
    simp only [compR] at h
    split at h
    · cases h
    · exact plain _ n x h hb

end
end Hx

/- The deferred calls and the marks, where a function is left. -/
namespace Hx
open Go

/-- the machine's functions are the program's -/
structure CtxOk (G : Gx) (gl : Nat → Option (List AV)) (C : Ctx) : Prop where
  fn : ∀ f fi, C.fn f = some fi → ∃ (fn : Func) (b : Code) (vsl : List Nat) (base : Nat) (dfr : Bool), G.P.funcs[f]? = some fn ∧ fn.body = some b ∧ compF G.P gl vsl dfr base fn = some fi ∧ BdOk G ⟨vsl, fn.ntmps, gl⟩ b base
  bd : ∀ i c, C.bd i = some c → ∃ (I : BInfo) (n1 n2 : Nat), G.BD i = some I ∧ comp G.P ⟨I.vsl, I.nt, gl⟩ true I.assign n1 = some c.1 ∧ comp G.P ⟨I.vsl, I.nt, gl⟩ true I.body n2 = some c.2 ∧
    BdOk G ⟨I.vsl, I.nt, gl⟩ I.assign n1 ∧ BdOk G ⟨I.vsl, I.nt, gl⟩ I.body n2 ∧ I.vsl.Nodup
  ext : ∀ f F, C.fn f = none → C.ext f = some F → ∀ args v, F args = some v → ∀ K avs, VRs G.P K args avs → ∃ x, (callFunc f avs.toArray).run G.P K.w = .ok (.value x) K.w ∧ VR G.P K v x ∧ ∀ l, .fn (.yield l) [] [] ∉ args

theorem memN_true {b : Nat} {l : List Nat} : memN b l = true ↔ b ∈ l := by
  induction l with
  | nil => exact ⟨fun h => (by cases h), fun h => (by cases h)⟩
  | cons x l ih =>
    show bif_ (Nat.beq b x) true (memN b l) = true ↔ _
    rw [bif_eq, List.mem_cons, ← ih]
    by_cases h : b = x
    · simp [h]
    · have : Nat.beq b x = false := by cases e : Nat.beq b x with | false => rfl | true => exact absurd (Nat.eq_of_beq_eq_true e) h
      simp [this, h]
theorem noDup_nodup {l : List Nat} (h : noDup l = true) : l.Nodup := by
  induction l with
  | nil => exact List.nodup_nil
  | cons x l ih =>
    simp only [noDup, Bool.and_eq_true, Bool.not_eq_true'] at h
    exact List.nodup_cons.2 ⟨fun hm => (by rw [memN_true.2 hm] at h; cases h.1), ih h.2⟩

/-- what compF tells -/
theorem compF_some {P : Program} {gl : Nat → Option (List AV)} {vsl : List Nat} {dfr : Bool} {base : Nat} {fn : Func} {fi : FnI} {b : Code} (hb : fn.body = some b) (h : compF P gl vsl dfr base fn = some fi) :
    vnOk fn vsl = true ∧ compB P ⟨vsl, fn.ntmps, gl⟩ b base = some fi.body ∧ compRes P ⟨vsl, fn.ntmps, gl⟩ fn.results.toList = some fi.res ∧ fi.np = npF fn ∧ fi.nv = vsl.length - npF fn ∧
      ((nb b = 0 ∧ fn.results.toList = [] ∧ compR P ⟨vsl, fn.ntmps, gl⟩ b base = some fi.dbody) ∨ fi.dbody = fun _ _ _ _ _ => none) := by
  unfold compF at h
  rw [hb] at h
  simp only at h
  split at h
  · rename_i hv
    split at h
    · rename_i c l hc hl
      split at h
      · split at h
        · rename_i hn
          simp only [Option.map_eq_some_iff] at h
          obtain ⟨d, hd, rfl⟩ := h
          exact ⟨hv, hc, hl, rfl, rfl, .inl ⟨hn.1, hn.2, hd⟩⟩
        · cases h
      · cases h
        exact ⟨hv, hc, hl, rfl, rfl, .inr rfl⟩
    · cases h
  · cases h

theorem undef_rep {P : Program} {K : Kx} : ∀ n, VRs P K (rep [undefA] n) (List.replicate n undef) := by
  intro n
  rw [rep_eq]
  induction n with
  | zero => exact .nil
  | succ n ih => simpa [List.replicate_succ] using VRs.cons _ _ _ _ VR.undef ih

/-- the variables at a function's start -/
theorem init_slots {P : Program} {K : Kx} {fn : Func} {vsl : List Nat} (hv : vnOk fn vsl = true) {fi : FnI} (hnp : fi.np = npF fn) (hnv : fi.nv = vsl.length - npF fn) {args : List AV} {avs : List Value} {vs : List AV} (hi : initVs fi args = some vs) (ha : VRs P K args avs) :
    Slots P K vsl vs (avs.toArray ++ Array.replicate (fn.ntmps - avs.toArray.size) undef) ∧ fn.ntmps ≤ (avs.toArray ++ Array.replicate (fn.ntmps - avs.toArray.size) undef).size := by
  unfold vnOk at hv
  simp only [Bool.and_eq_true, decide_eq_true_eq, List.all_eq_true] at hv
  obtain ⟨⟨⟨⟨h1, h2⟩, h3⟩, h4⟩, _⟩ := hv
  unfold initVs at hi
  rw [bif_none, Nat.beq_eq, lenL_eq, catL_eq] at hi
  obtain ⟨hl, hi⟩ := hi
  cases hi
  have hal := ha.length
  have hrl : (rep [undefA] fi.nv).length = fi.nv := by rw [rep_eq]; simp
  refine ⟨⟨by rw [List.length_append, hrl, hl, hnp, hnv]; omega, fun i t hit => ?_⟩, by simp; omega⟩
  have hil : i < vsl.length := (List.getElem?_eq_some_iff.1 hit).1
  have ht : t < fn.ntmps := h3 t (List.mem_of_getElem? hit)
  by_cases hi : i < npF fn
  · have e : vsl[i]? = some i := by
      have : (vsl.take (npF fn))[i]? = vsl[i]? := by rw [List.getElem?_take, if_pos hi]
      rw [← this, h1]; simp [hi]
    rw [e] at hit; cases hit
    obtain ⟨v, hv⟩ : ∃ v, args[i]? = some v := ⟨args[i]'(by omega), by simp⟩
    obtain ⟨x, hx, hvx⟩ := ha.get hv
    refine ⟨v, x, ?_, ?_, hvx⟩
    · rw [List.getElem?_append_left (by omega)]; exact hv
    · have hlt : i < avs.length := by omega
      rw [Array.getElem?_append_left (by simpa using hlt)]
      simpa using hx
  · have hge : npF fn ≤ t := by
      apply Classical.byContradiction
      intro hlt
      have hlt : t < npF fn := by omega
      have e : vsl[t]? = some t := by
        have : (vsl.take (npF fn))[t]? = vsl[t]? := by rw [List.getElem?_take, if_pos hlt]
        rw [← this, h1]; simp [hlt]
      have hnd := noDup_nodup h2
      obtain ⟨q1, e1⟩ := List.getElem?_eq_some_iff.1 e
      obtain ⟨q2, e2⟩ := List.getElem?_eq_some_iff.1 hit
      have hp := List.pairwise_iff_getElem.1 hnd
      exact hp t i q1 q2 (by omega) (e1.trans e2.symm)
    have hal' : avs.length = npF fn := by omega
    refine ⟨undefA, undef, ?_, ?_, VR.undef⟩
    · rw [List.getElem?_append_right (by omega)]
      rw [rep_eq]
      have : i - args.length < fi.nv := by omega
      have key : ∀ (n j : Nat), j < n → (List.replicate n [undefA]).flatten[j]? = some undefA := by
        intro n
        induction n with
        | zero => intro j h; omega
        | succ n ih =>
          intro j h
          cases j with
          | zero => simp [List.replicate_succ]
          | succ j => simpa [List.replicate_succ] using ih j (by omega)
      exact key _ _ this
    · rw [Array.getElem?_append_right (by simpa [hal'] using hge)]
      rw [Array.getElem?_replicate, if_pos]
      simp [hal']; omega


theorem run_callFunc {P : Program} {f : FuncId} {fn : Func} {b : Code} {args : Array Value} {w : World} (hf : P.funcs[f]? = some fn) (hb : fn.body = some b) (hn : (fn.name != "runtime.NumGoroutine") = true) : (callFunc f args).run P w = .ok (.enter f args) w := by
  have hn' : (fn.name == "runtime.NumGoroutine") = false := by simpa using hn
  simp [callFunc, program, Sem.run_bind, hf, hb, Sem.run]
  simpa using hn

theorem MdR.monoW {P : Program} {K K' : Kx} (hk : Klw K K') {p : Option AV} {d : Bool} {u : FrameMode} (h : MdR P K p d u) : MdR P K' p d u := by
  cases p <;> cases d <;> first
    | exact h
    | (obtain ⟨x, h1, h2⟩ := h; exact ⟨x, h1, h2.monoW hk⟩)

theorem MdR.settle {P : Program} {K : Kx} {p : Option AV} {d : Bool} {u : FrameMode} (h : MdR P K (bif_ d none p) d u) : MdR P K (bif_ d none p) false (settle u) := by
  cases d with
  | false => cases p with
    | none => have h' : u = .returning := h; subst h'; rfl
    | some v => obtain ⟨x, rfl, hx⟩ := h; exact ⟨x, rfl, hx⟩
  | true => obtain ⟨x, rfl⟩ := h; rfl

theorem MdR.run {P : Program} {K : Kx} {p : Option AV} {d : Bool} {u : FrameMode} (h : MdR P K p d u) : u ≠ .run := by
  cases p <;> cases d
  · have h' : u = .returning := h; subst h'; simp
  · obtain ⟨x, rfl⟩ := h; simp
  · obtain ⟨x, rfl, _⟩ := h; simp
  · exact h.elim

section
variable {G : Gx} {gl : Nat → Option (List AV)} {C : Ctx} {cf : CallFn} {L : Nat}

theorem unwind_ok (hC : CtxOk G gl C) (hpre : ∀ V : Vn, V.gl = gl → V.vsl.Nodup → PreOk G V cf L) (hcf : CallOk G gl cf) {K0 : Kx} {h0 : Heap} (hr0 : HR G K0 h0 []) {fn : Func} {tmps : Array Value} {R : Ending → World → Prop} {n : Nat} {vsl : List Nat} {vs : List AV} {m : Option Nat}
    (hm : ∀ m0, m = some m0 → K0.w.heap.size ≤ m0) {p' : Option AV} {h' : Heap} : ∀ (r : List Deferred) (l : Defs) (K : Kx) (h : Heap) (p : Option AV) (u : FrameMode), DRs G.P K m l r → HR G K h [] → h.wf → GlOk G.P K gl → Stp K0 h0 K h → MdR G.P K p false u →
      Slots G.P K vsl vs tmps → unwindA C cf L l p h = some (p', h') →
      (∀ K' u', Stp K0 h0 K' h' → HR G K' h' [] → h'.wf → MdR G.P K' p' false u' → Slots G.P K' vsl vs tmps → LeavesIn Fence.wide n G.P fn tmps R [] u' K'.w) → LeavesInM Fence.wide n G.P fn tmps R r u K.w
  | [], l, K, h, p, u, hd, hr, hw, hg, st, hmd, hsl, he, hk => by
    cases hd
    cases he
    exact hk K u st hr hw hmd hsl
  | d :: r, l, K, h, p, u, hd, hr, hw, hg, st, hmd, hsl, he, hk => by
    refine ⟨hmd.run, ?_⟩
    cases hd with
    | mark b _ _ h1 h2 h3 h4 h5 =>
      obtain ⟨m0, hm0, hmb⟩ := h3
      refine .inl ⟨b, _, rfl, run_takeDeferred h1, ?_⟩
      exact unwind_ok hC hpre hcf hr0 hm r l _ h p u (h5.shut h1 h4) (hr.shut h1) hw (hg.monoW (shut_le h1)) (st.shut hr0.inh h1 (Nat.le_trans (hm m0 hm0) hmb)) (hmd.monoW (shut_le h1)) (hsl.monoW (shut_le h1)) he hk
    | cons x _ l _ hx hl =>
      cases hx with
      | mk f a c as va vc vas ha hc has =>
      refine .inr ⟨fun hd => (by cases hd), .func f, vc.toArray, ?_⟩
      have he' : ob (C.fn f) (fun fi => ob (initVs fi (catL a (catL as c))) fun vs =>
        ob (fi.dbody cf L p false ⟨vs, h, []⟩) fun r => match r with
          | (e, d, s) => match s.ds with
            | [] => match e with
              | .normal | .ret => unwindA C cf L l (bif_ d none p) s.h
              | _ => none
            | _ => none) = some (p', h') := he
      simp only [ob_some] at he'
      obtain ⟨fi, hfi, vs', hvs', ⟨ex, dd, s'⟩, hbody, he'⟩ := he'
      obtain ⟨fn', b, vsl', base, dfr, hf, hb, hcomp, hbd⟩ := hC.fn f fi hfi
      obtain ⟨hvn, hcb, hcr, hnp, hnv, hdb⟩ := compF_some hb hcomp
      have hname : (fn'.name != "runtime.NumGoroutine") = true := by
        unfold vnOk at hvn; simp only [Bool.and_eq_true] at hvn; exact hvn.2
      have hnd : vsl'.Nodup := by
        unfold vnOk at hvn; simp only [Bool.and_eq_true] at hvn; exact noDup_nodup hvn.1.1.1.2
      refine ⟨f, va.toArray ++ vas.toArray ++ vc.toArray, rfl, ?_, fun _ _ => trivial, ?_⟩
      · exact run_callFunc hf hb hname
      · have hds : s'.ds = [] ∧ (ex = .normal ∨ ex = .ret) ∧ unwindA C cf L l (bif_ dd none p) s'.h = some (p', h') := by
          cases hsd : s'.ds with
          | cons x y => simp only [hsd] at he'; cases he'
          | nil =>
            simp only [hsd] at he'
            cases ex <;> simp only [reduceCtorEq] at he'
            · exact ⟨rfl, .inl rfl, he'⟩
            · exact ⟨rfl, .inr rfl, he'⟩
        obtain ⟨hds, hex, hun⟩ := hds
        rcases hdb with ⟨hnb, hres, hcR⟩ | hdb
        rotate_left
        · rw [hdb] at hbody; cases hbody
        refine callsDIn_of_wpSIn hf hb trivial fun c₀ cs hmode => ?_
        have hargs : VRs G.P K (catL a (catL as c)) (va ++ (vas ++ vc)) := by rw [catL_eq, catL_eq]; exact ha.append (has.append hc)
        obtain ⟨hsl', hnt⟩ := init_slots hvn hnp hnv hvs' hargs
        have hae : va.toArray ++ vas.toArray ++ vc.toArray = (va ++ (vas ++ vc)).toArray := by simp
        rw [hae]
        have hsr : SR G ⟨vsl', fn'.ntmps, gl⟩ none K { tmps := (va ++ (vas ++ vc)).toArray ++ Array.replicate (fn'.ntmps - (va ++ (vas ++ vc)).toArray.size) undef, defers := [] } vs' h [] :=
          ⟨hsl', hnt, hr, hw, .nil, hg⟩
        have hcmd := (compR_ok (m := none) (V := ⟨vsl', fn'.ntmps, gl⟩) (hpre ⟨vsl', fn'.ntmps, gl⟩ rfl hnd) hcf hnd b base fi.dbody hcR hnb).1
        have hc0 : c₀ = { c₀ with mode := u } := by rw [← hmode]
        rw [hc0]
        refine hcmd (n - 1) ex dd s' K _ ⟨vs', h, []⟩ p false c₀ cs u _ hbody hsr ⟨fun l hl => (by cases hl), fun m0 h => (by cases h)⟩ hmd fun e a' K' u' st' hs' hxe hmd' => ?_
        have hdef : a'.defers = [] := by
          have := hs'.dfr
          rw [hds] at this
          generalize a'.defers = q at this
          cases this with
          | nil => rfl
          | mark b _ _ _ _ h3 => obtain ⟨m0, h3, _⟩ := h3; cases h3
        have hR : LeavesInM Fence.wide n G.P fn tmps R r (settle u') K'.w :=
          unwind_ok hC hpre hcf hr0 hm r l K' s'.h (bif_ dd none p) (settle u') (hl.mono st'.tn.le) hs'.hr hs'.wf hs'.gl (st.trans hr0 st') hmd'.settle (hsl.mono st'.tn.le) hun hk
        have hresr : (results fn' a'.tmps).run G.P K'.w = .ok (.tuple #[]) K'.w := by
          have : fn'.results = #[] := by apply Array.ext'; simpa using hres
          simp [results, this, Sem.run_pure]
        rcases hex with rfl | rfl <;> cases e <;> simp only [ExR] at hxe
        · exact ⟨hdef, u', rfl, _, hresr, hR⟩
        · exact ⟨hdef, u', rfl, _, hresr, hR⟩

end
end Hx

/- Calls: functions and rounds. -/
namespace Hx
open Go

theorem callsIn_plain {F : Fence} (hF : plainF F) {n : Nat} {P : Program} {f : FuncId} {args : Array Value} {w : World} {R : Ending → World → Prop} (h : CallsIn Fence.wide n P f args w R) : CallsIn F n P f args w R := by
  have h' : CallsIn F.plain n P f args w R := by rw [show F.plain = Fence.wide from hF]; exact h
  exact h'

theorem refless_ok {P : Program} {K K' : Kx} {v : AV} {x : Value} (hv : refless v = true) (h : VR P K v x) : VR P K' v x := by
  cases h <;> first
    | (cases hv; done)
    | constructor
theorem reflessL_ok {P : Program} {K K' : Kx} : ∀ {l : List AV} {r : List Value}, reflessL l = true → VRs P K l r → VRs P K' l r
  | [], r, _, h => by cases h; exact .nil
  | v :: l, r, hv, h => by
    cases h with
    | cons _ x _ r h1 h2 =>
      have hv' : bif_ (refless v) (reflessL l) false = true := hv
      rw [bif_eq] at hv'
      split at hv'
      · rename_i h3; exact .cons _ _ _ _ (refless_ok h3 h1) (reflessL_ok hv' h2)
      · cases hv'
theorem oneNoRef_ok {P : Program} {K K' : Kx} {v : AV} {x : Value} (hv : oneNoRef v = true) (h : VR P K v x) : VR P K' v x := by
  unfold oneNoRef at hv
  split at hv
  · cases h with | agg _ _ h => exact .agg _ _ (reflessL_ok hv h)
  · exact refless_ok hv h
theorem tupNoRef_ok {P : Program} {K K' : Kx} : ∀ {l : List AV} {r : List Value}, tupNoRef l = true → VRs P K l r → VRs P K' l r
  | [], r, _, h => by cases h; exact .nil
  | v :: l, r, hv, h => by
    cases h with
    | cons _ x _ r h1 h2 =>
      have hv' : bif_ (oneNoRef v) (tupNoRef l) false = true := hv
      rw [bif_eq] at hv'
      split at hv'
      · rename_i h3; exact .cons _ _ _ _ (oneNoRef_ok h3 h1) (tupNoRef_ok hv' h2)
      · cases hv'
theorem hasNoRef_ok {P : Program} {K K' : Kx} {v : AV} {x : Value} (hv : hasNoRef v = true) (h : VR P K v x) : VR P K' v x := by
  unfold hasNoRef at hv
  split at hv
  · cases h with | tup _ vs h => exact .tup _ _ (tupNoRef_ok hv h)
  · exact oneNoRef_ok hv h

section
variable {G : Gx} {gl : Nat → Option (List AV)} {C : Ctx} {cf : CallFn} {L : Nat}

theorem HR.relow {K : Kx} {h : Heap} {ks : List Nat} (hr : HR G K h ks) (l : Nat) : HR G K { h with low := l } ks := hr.agree hr.lt fun _ _ => rfl
theorem HR.lower {K : Kx} {h : Heap} {ks : List Nat} (hr : HR G K h ks) (l : Nat) : HR G K (h.lower l) ks := hr.agree (fun b hb => by rw [Heap.next_lower]; exact hr.lt b hb) fun b _ => Heap.get_lower _ _ _

/-- a call's heap, from the caller's view -/
theorem Stp.up {K K' : Kx} {h h' : Heap} (_hr : HR G K h []) (hw : h.wf) (st : Stp K { h with low := h.next } K' h') : Stp K h K' (h'.lower h.low) := by
  refine ⟨((st.tn.mono fun i hi => ?_).heap fun b hb => rfl), ⟨?_, ?_, fun b h1 h2 => ?_, fun b h1 h2 => ?_⟩, fun _ => ?_, st.dm⟩
  · rw [Heap.low_lower]; omega
  · rw [Heap.next_lower]; exact st.ext.next
  · rw [Heap.low_lower]; omega
  · rw [Heap.low_lower] at h2
    rw [Heap.get_lower]; exact st.ext.same b h1 (by omega)
  · rw [Heap.get_lower]; exact st.ext.dead b h1 h2
  · have := st.wf hw
    intro i hi
    rw [Heap.next_lower] at hi
    rw [Heap.get_lower]; exact this i hi

/-- the caller's heap again -/
theorem Stp.drop {K K' : Kx} {h h' : Heap} (hr : HR G K h []) (st : Stp K { h with low := h.next } K' h') (hl : h.next ≤ h'.low) : HR G (K.on K'.w) h [] ∧ Stp K h (K.on K'.w) h := by
  have unt : ∀ b, K.D b → (h.get b).isSome = true → K'.w.heap[K.bl b]? = K.w.heap[K.bl b]? := fun b hb hs => st.tn.unt b hb hs (by have := hr.lt b hb; show ¬ h'.low ≤ b; omega)
  have hle : Kle K (K.on K'.w) := ⟨fun _ h => h, fun _ _ => rfl, fun _ _ => rfl, fun _ h => .inl h, st.tn.le.imm, st.tn.le.shp, st.tn.le.lps, st.tn.le.size, st.tn.le.fr⟩
  refine ⟨⟨hr.lt, fun b hb => Nat.lt_of_lt_of_le (hr.inh b hb) st.tn.le.size, hr.own, hr.old, fun b x hb hx => (hr.blk b x hb hx).mono hle hb (unt b hb (by rw [hx]; rfl)), hr.dist, hr.aold, Nat.le_trans hr.bsz st.tn.le.size⟩,
    ⟨hle, fun b hb hs _ => unt b hb hs, fun b hb hn => absurd hb hn⟩, HExt.refl _, fun h => h, fun _ h => .inl h⟩

theorem ret_ok {K K' : Kx} {h h' : Heap} (hr : HR G K h []) (hw : h.wf) (st : Stp K { h with low := h.next } K' h') (hr' : HR G K' h' []) {v : AV} {x : Value} (hv : VR G.P K' v x) : RetR G K h (retV h h' v) (.returned x) K'.w := by
  unfold retV
  rw [bif_eq]
  split
  · rename_i hc
    rw [Bool.and_eq_true, Nat.ble_eq] at hc
    obtain ⟨h1, h2⟩ := st.drop hr hc.2
    exact ⟨K.on K'.w, rfl, h1, h2, hasNoRef_ok hc.1 hv⟩
  · exact ⟨K', rfl, hr'.lower _, st.up hr hw, hv⟩

theorem callF_ok (hC : CtxOk G gl C) (hpre : ∀ V : Vn, V.gl = gl → V.vsl.Nodup → PreOk G V cf L) (hcf : CallOk G gl cf) {f : Nat} {args : List AV} {h : Heap} {r : Ret × Heap} (he : callF C cf L f args h = some r) {K : Kx} {avs : List Value} (hr : HR G K h []) (hw : h.wf)
    (hg : GlOk G.P K gl) (ha : VRs G.P K args avs) {N : Prop} (hN : N → ∃ l, .fn (.yield l) [] [] ∈ args) : CallN G K h N r ((callFunc f avs.toArray).run G.P K.w) := by
  unfold callF at he
  split at he
  · rename_i fi hfi
    simp only [ob_some] at he
    obtain ⟨vs, hvs, ⟨ex, s'⟩, hbody, he⟩ := he
    obtain ⟨fn, b, vsl, base, dfr, hf, hb, hcomp, hbd⟩ := hC.fn f fi hfi
    obtain ⟨hvn, hcb, hcr, hnp, hnv, _⟩ := compF_some hb hcomp
    have hname : (fn.name != "runtime.NumGoroutine") = true := by
      unfold vnOk at hvn; simp only [Bool.and_eq_true] at hvn; exact hvn.2
    have hnd : vsl.Nodup := by
      unfold vnOk at hvn; simp only [Bool.and_eq_true] at hvn; exact noDup_nodup hvn.1.1.1.2
    rw [run_callFunc hf hb hname]
    intro F n hF
    refine callsIn_plain hF (callsIn_of_wp_marks hf hb trivial ?_)
    obtain ⟨hsl, hnt⟩ := init_slots hvn hnp hnv hvs ha
    have hr1 := hr.relow h.next
    have hw1 : Heap.wf { h with low := h.next } := hw
    have hsr : SR G ⟨vsl, fn.ntmps, gl⟩ (some K.w.heap.size) K { tmps := avs.toArray ++ Array.replicate (fn.ntmps - avs.toArray.size) undef, defers := [] } vs { h with low := h.next } [] :=
      ⟨hsl, hnt, hr1, hw1, .nil, hg⟩
    refine compB_ok (F := Fence.wide) (V := ⟨vsl, fn.ntmps, gl⟩) (hpre ⟨vsl, fn.ntmps, gl⟩ rfl hnd) hcf hnd rfl b base fi.body hcb hbd (.inr rfl) n ex s' K _ ⟨vs, { h with low := h.next }, []⟩ _ hbody hsr
      ⟨fun l hl => (by cases hl), fun m0 hm => (by cases hm; exact Nat.le_refl _)⟩ fun e a' K' st hs' hxe => ?_
    have fin : ∀ (p : Option AV) (u : FrameMode), MdR G.P K' p false u → (ob (unwindA C cf L s'.ds p s'.h) fun r => match r with
      | (none, h1) => ob (mapO (resultA s'.vs h1) fi.res) fun l => some (retV h h1 (tupV l))
      | (some v, h1) => some (.pan v, h1.lower h.low)) = some r → LeavesInM Fence.wide n G.P fn a'.tmps (RetR G K h r) a'.defers u K'.w := by
      intro p u hmd hun
      rw [ob_some] at hun
      obtain ⟨⟨p', h'⟩, hun, hres⟩ := hun
      refine unwind_ok hC hpre hcf hr1 (fun m0 hm => by cases hm; exact Nat.le_refl _) a'.defers s'.ds K' s'.h p u hs'.dfr hs'.hr hs'.wf hs'.gl st hmd hs'.slots hun fun K2 u2 st2 hr2 hw2 hmd2 hsl2 => ?_
      cases p' with
      | none =>
        have hu : u2 = .returning := hmd2
        subst hu
        simp only [ob_some, Option.some.injEq] at hres
        obtain ⟨l, hl, rfl⟩ := hres
        obtain ⟨x, h3, h4⟩ := results_run hr2 (V := ⟨vsl, fn.ntmps, gl⟩) hsl2 hcr hl
        exact ⟨x, h3, ret_ok hr hw st2 hr2 h4⟩
      | some v =>
        obtain ⟨x, rfl, hx⟩ := hmd2
        simp only [Option.some.injEq] at hres
        subst hres
        exact ⟨K2, rfl, hr2.lower _, st2.up hr hw, x, rfl, hx⟩
    cases ex with
    | normal =>
      cases e <;> simp only [ExR] at hxe
      exact fin none .returning rfl he
    | ret =>
      cases e <;> simp only [ExR] at hxe
      exact fin none .returning rfl he
    | panic v =>
      cases e <;> simp only [ExR] at hxe
      obtain ⟨x, rfl, hx⟩ := hxe
      exact fin (some v) _ ⟨x, rfl, hx⟩ he
    | exit i => cases he
    | goto i => cases he
  · rename_i hfi
    simp only [ob_some, Option.some.injEq] at he
    obtain ⟨F, hF, v, hv, rfl⟩ := he
    obtain ⟨x, h1, h2, h3⟩ := hC.ext f F hfi hF args v hv K avs ha
    rw [h1]
    exact ⟨fun hn => (let ⟨l, hl⟩ := hN hn; h3 l hl), K, rfl, hr, Stp.refl _ _, h2⟩


theorem getLp_some {h : Heap} {l : Nat} {q : LoopState × Option Jump × List AV × List Nat × Nat} (hq : getLp h l = some q) : h.get l = some (.loop q.1 q.2.1 q.2.2.1 q.2.2.2.1 q.2.2.2.2) := by
  unfold getLp at hq
  rw [ob_some] at hq
  obtain ⟨x, hx, hq⟩ := hq
  cases x <;> simp only [reduceCtorEq, Option.some.injEq] at hq
  subst hq; exact hx

theorem assign_ok {P : Program} {K : Kx} {vsl : List Nat} (hv : vsl.Nodup) : ∀ (ps : List Nat) (ts : List Nat) (args : List AV) (avs : List Value) (vs vs' : List AV) (tmps : Array Value), ps.length = ts.length → (∀ (i p : Nat), ps[i]? = some p → vsl[p]? = ts[i]?) → VRs P K args avs →
    Slots P K vsl vs tmps → assignVs ps args vs = some vs' → avs.length = ts.length ∧ Slots P K vsl vs' ((ts.zip avs).foldl (fun tmps (t, a) => tmps.setIfInBounds t a) tmps) ∧ ((ts.zip avs).foldl (fun (tmps : Array Value) (t, a) => tmps.setIfInBounds t a) tmps).size = tmps.size
  | [], ts, args, avs, vs, vs', tmps, hl, hp, ha, hs, he => by
    have : ts = [] := by cases ts with | nil => rfl | cons => simp at hl
    subst this
    cases args with
    | nil => cases he; cases ha; exact ⟨rfl, hs, rfl⟩
    | cons => cases he
  | p :: ps, ts, args, avs, vs, vs', tmps, hl, hp, ha, hs, he => by
    cases ts with
    | nil => simp at hl
    | cons t ts =>
      cases args with
      | nil => cases he
      | cons v args =>
        cases ha with
        | cons _ x _ avs hv1 ha =>
          have he' : assignVs ps args (set1 vs p v) = some vs' := he
          have hpt : vsl[p]? = some t := by simpa using hp 0 p rfl
          have hs' : Slots P K vsl (set1 vs p v) (tmps.setIfInBounds t x) := by
            rw [set1_eq]
            refine ⟨by rw [List.length_set]; exact hs.1, fun i u hi => ?_⟩
            obtain ⟨v', y, h1, h2, h3⟩ := hs.2 i u hi
            by_cases hip : i = p
            · subst hip
              rw [hpt] at hi; cases hi
              refine ⟨v, x, ?_, ?_, hv1⟩
              · rw [List.getElem?_set, if_pos rfl, if_pos (List.getElem?_eq_some_iff.1 h1).1]
              · simp [(Array.getElem?_eq_some_iff.1 h2).1]
            · refine ⟨v', y, ?_, ?_, h3⟩
              · rw [List.getElem?_set, if_neg (fun e => hip e.symm)]; exact h1
              · rw [Array.getElem?_setIfInBounds_ne]
                · exact h2
                · intro e; subst e
                  obtain ⟨q1, e1⟩ := List.getElem?_eq_some_iff.1 hpt
                  obtain ⟨q2, e2⟩ := List.getElem?_eq_some_iff.1 hi
                  have hpw := List.pairwise_iff_getElem.1 hv
                  rcases Nat.lt_trichotomy i p with h7 | h7 | h7
                  · exact hpw i p q2 q1 h7 (e2.trans e1.symm)
                  · exact hip h7
                  · exact hpw p i q1 q2 h7 (e1.trans e2.symm)
          obtain ⟨h1, h2, h3⟩ := assign_ok hv ps ts args avs _ vs' _ (by simpa using hl) (fun i q hq => by simpa using hp (i + 1) q (by simpa using hq)) ha hs' he'
          refine ⟨by simp [h1], h2, ?_⟩
          have : ((List.zip (t :: ts) (x :: avs)).foldl (fun (tmps : Array Value) (t, a) => tmps.setIfInBounds t a) tmps).size = (tmps.setIfInBounds t x).size := h3
          simpa using this

theorem callY_ok (hC : CtxOk G gl C) (hpre : ∀ V : Vn, V.gl = gl → V.vsl.Nodup → PreOk G V cf L) (hcf : CallOk G gl cf) {l : Nat} {args : List AV} {h : Heap} {r : Ret × Heap} (he : callY C cf L l args h = some r) {K : Kx} {avs : List Value} (hr : HR G K h []) (hw : h.wf)
    (hg : GlOk G.P K gl) (ha : VRs G.P K args avs) (hd : K.D l) {N : Prop} (hN : ¬ N) : CallN G K h N r ((Instr.yield (K.bl l) avs.toArray).run G.P K.w) := by
  unfold callY at he
  simp only [ob_some] at he
  obtain ⟨⟨st, pend, vs, ps, bid⟩, hq, c, hc, vs', hvs', ⟨ex, s⟩, hasg, he⟩ := he
  simp only at hc hvs' hasg he
  have hget := getLp_some hq
  obtain ⟨L0, I, g1, g2, g3, g4, g5, g6, g7, g8, g9, g10, g11⟩ := hr.blk l _ hd hget
  obtain ⟨I', n1, n2, b1, b2, b3, b4, b5, b6⟩ := hC.bd _ c hc
  simp only at g2
  rw [g2] at b1
  cases b1
  obtain ⟨a1, a2, a3⟩ := assign_ok b6 ps I.ps args avs vs vs' L0.tmps g9 g10 ha g8 hvs'
  have hsz : avs.toArray.size = L0.params.size := by rw [g5]; simpa using a1
  let tm : Array Value := (L0.params.zip avs.toArray).foldl (fun tmps (t, a) => tmps.setIfInBounds t a) L0.tmps
  have htm : tm = (I.ps.zip avs).foldl (fun tmps (t, a) => tmps.setIfInBounds t a) L0.tmps := by
    show (L0.params.zip avs.toArray).foldl _ _ = _
    rw [g5]; simp
  have hrun : (Instr.yield (K.bl l) avs.toArray).run G.P K.w = .ok (.round (K.bl l) L0.fn tm L0.assign L0.body) K.w := by
    simp only [Instr.yield, Sem.run_bind, run_getLoop g1, Result.andThen_ok, ne_eq, hsz, not_true_eq_false, if_false, Sem.run_pure]
    rfl
  rw [hrun]
  refine ⟨hN, fun F n hF => roundIn_of_wpIn ((plainF_fn hF).1 _) ?_⟩
  have hFl : plainF (F.inRound (K.bl l)) := hF
  have hsr : SR G ⟨I.vsl, I.nt, gl⟩ (some 0) K { tmps := tm, defers := [] } vs' h [] :=
    ⟨by rw [htm]; exact a2, by rw [htm]; exact Nat.le_trans g11 (Nat.le_of_eq a3.symm), hr, hw, .nil, hg⟩
  have hcx : Cx (F.inRound (K.bl l)) (some 0) K := ⟨fun l' hl => by cases hl; exact ⟨L0, g1⟩, fun m0 hm => by cases hm; exact Nat.zero_le _⟩
  rw [g6, g7]
  refine comp_ok (V := ⟨I.vsl, I.nt, gl⟩) (hpre ⟨I.vsl, I.nt, gl⟩ rfl b6) hcf b6 hFl (.inr rfl) I.assign n1 c.1 b2 b4 (.inr rfl) n ex s K _ ⟨vs', h, []⟩ _ hasg hsr hcx fun e a1 K1 st1 hs1 hxe => ?_
  unfold midY at he
  cases ex <;> simp only [reduceCtorEq] at he
  cases e <;> simp only [ExR] at hxe
  cases hsd : s.ds with
  | cons x y => simp only [hsd] at he; cases he
  | nil =>
    simp only [hsd, ob_some] at he
    obtain ⟨⟨st1', pend1, vs1, ps1, bid1⟩, hq1, he⟩ := he
    have hget1 := getLp_some hq1
    simp only at he
    cases st1' <;> simp only [reduceCtorEq, ob_some] at he
    obtain ⟨⟨ex2, s2⟩, hbody, he⟩ := he
    have hd1 : K1.D l := st1.tn.le.D l hd
    have hbl1 : K1.bl l = K.bl l := st1.tn.le.bl l hd
    obtain ⟨L1, I1, k1, k2, k3, k4, k5, k6, k7, k8, k9, k10, k11⟩ := hs1.hr.blk l _ hd1 hget1
    obtain ⟨w1, w2⟩ := hs1.hr.writeLoop (x := .loop .busy pend1 vs1 ps1 bid1) (R' := { L1 with state := .busy }) hd1 (by rw [hget1]; rfl) k1 (fun hle => by
      refine ⟨{ L1 with state := .busy }, I1, ?_, k2, rfl, k4, k5, k6, k7, k8.mono hle, k9, k10, k11⟩
      have hlt : K1.bl l < K1.w.heap.size := hs1.hr.inh _ hd1
      show (K1.w.heap.setIfInBounds _ _)[K1.bl l]? = _
      simp [hlt])
    rw [hbl1] at k1 w1 w2
    have hbr : (Instr.beginRound (K.bl l)).run G.P K1.w = .ok () { K1.w with heap := K1.w.heap.setIfInBounds (K.bl l) (.loop { L1 with state := .busy }) } := by
      have k3' : L1.state = .ready := k3
      simp [Instr.beginRound, run_getLoop k1, run_setLoop k1, Sem.run_bind, k3']
    refine ⟨_, hbr, ?_⟩
    have st2 := st1.trans hr w2
    have hs2 : SR G ⟨I.vsl, I.nt, gl⟩ (some 0) (K1.on { K1.w with heap := K1.w.heap.setIfInBounds (K.bl l) (.loop { L1 with state := .busy }) }) a1 s.vs (s.h.put l (.loop .busy pend1 vs1 ps1 bid1)) [] := by
      have h0 := hs1.dfr
      rw [hsd] at h0
      exact ⟨hs1.slots.mono w2.tn.le, hs1.nt, w1, w2.wf hs1.wf, h0.mono w2.tn.le, hs1.gl.mono w2.tn.le⟩
    have hcx2 := hcx.mono st2.tn.le
    refine comp_ok (V := ⟨I.vsl, I.nt, gl⟩) (hpre ⟨I.vsl, I.nt, gl⟩ rfl b6) hcf b6 hFl (.inr rfl) I.body n2 c.2 b3 b5 (.inr rfl) n ex2 s2 _ _ ⟨s.vs, s.h.put l (.loop .busy pend1 vs1 ps1 bid1), []⟩ _ hbody hs2 hcx2 fun e a3 K3 st3 hs3 hxe3 => ?_
    have st13 := st2.trans hr st3
    unfold endY at he
    cases hsd3 : s2.ds with
    | cons x y => simp only [hsd3] at he; cases he
    | nil =>
      simp only [hsd3, ob_some] at he
      obtain ⟨⟨st3', pend3, vs3, ps3, bid3⟩, hq3, he⟩ := he
      have hget3 := getLp_some hq3
      have hd3 : K3.D l := st13.tn.le.D l hd
      have hbl3 : K3.bl l = K.bl l := st13.tn.le.bl l hd
      obtain ⟨L3, I3, m1, m2, m3, m4, m5, m6, m7, m8, m9, m10, m11⟩ := hs3.hr.blk l _ hd3 hget3
      have fin : ∀ (j : Option Jump) (b : Bool), b = j.isNone → r = (.val (.bool b), s2.h.put l (.loop (if j.isNone then .ready else .done) j vs3 ps3 bid3)) → ∃ v w', (Instr.endRound (K.bl l) (j.map jumpC)).run G.P K3.w = .ok v w' ∧ RetR G K h r (.returned v) w' := by
        intro j b hb hj
        obtain ⟨u1, u2⟩ := hs3.hr.writeLoop (x := .loop (if j.isNone then .ready else .done) j vs3 ps3 bid3) (R' := { L3 with state := if j.isNone then .ready else .done, pending := j.map jumpC }) hd3 (by rw [hget3]; rfl) m1 (fun hle => by
          refine ⟨{ L3 with state := if j.isNone then .ready else .done, pending := j.map jumpC }, I3, ?_, m2, rfl, rfl, m5, m6, m7, m8.mono hle, m9, m10, m11⟩
          have hlt : K3.bl l < K3.w.heap.size := hs3.hr.inh _ hd3
          show (K3.w.heap.setIfInBounds _ _)[K3.bl l]? = _
          simp [hlt])
        rw [hbl3] at m1 u1 u2
        refine ⟨.bool b, { K3.w with heap := K3.w.heap.setIfInBounds (K.bl l) (.loop { L3 with state := if j.isNone then .ready else .done, pending := j.map jumpC }) }, ?_, K3.on { K3.w with heap := K3.w.heap.setIfInBounds (K.bl l) (.loop { L3 with state := if j.isNone then .ready else .done, pending := j.map jumpC }) }, rfl, ?_, ?_, ?_⟩
        · cases j <;> simp [Instr.endRound, run_getLoop m1, run_setLoop m1, Sem.run_bind, hb]
        rotate_left
        · rw [hj]; exact st13.trans hr u2
        · rw [hj]; exact .bool b
        · rw [hj]; exact u1
      cases ex2 with
      | normal =>
        cases e <;> simp only [ExR] at hxe3
        simp only [Option.some.injEq] at he
        exact fin none true rfl he.symm
      | ret =>
        cases e <;> simp only [ExR] at hxe3
        simp only [Option.some.injEq] at he
        exact fin (some .ret) false rfl he.symm
      | exit i =>
        cases e <;> simp only [ExR] at hxe3
        subst hxe3
        simp only [Option.some.injEq] at he
        exact fin (some (.exit i)) false rfl he.symm
      | goto i =>
        cases e <;> simp only [ExR] at hxe3
        subst hxe3
        simp only [Option.some.injEq] at he
        exact fin (some (.goto i)) false rfl he.symm
      | panic v => cases he

theorem evCall_ok (hC : CtxOk G gl C) (hpre : ∀ V : Vn, V.gl = gl → V.vsl.Nodup → PreOk G V cf L) (hcf : CallOk G gl cf) : CallOk G gl (evCall C cf L) := by
  intro g args h r he K fv avs hr hw hg hgv ha
  unfold evCall at he
  split at he
  · rename_i f first cap
    cases hgv with
    | fn _ _ _ va vc h1 h2 =>
      have e : (do let d ← Deferred.ofValue (.func (.func f) va.toArray vc.toArray) avs.toArray; invoke d.target d.args : Sem Next).run G.P K.w = (callFunc f (va ++ (avs ++ vc)).toArray).run G.P K.w := by
        simp [Deferred.ofValue, invoke]
      rw [e]
      refine callF_ok hC hpre hcf he hr hw hg (by rw [catL_eq, catL_eq]; exact h1.append (ha.append h2)) ?_
      rintro ⟨_, l, hl⟩
      exact ⟨l, by rw [catL_eq, catL_eq]; simp [hl]⟩
  · rename_i l
    cases hgv with
    | yield _ hl =>
      have e : (do let d ← Deferred.ofValue (.func (.yield (K.bl l)) #[] #[]) avs.toArray; invoke d.target d.args : Sem Next).run G.P K.w = (Instr.yield (K.bl l) avs.toArray).run G.P K.w := by
        simp [Deferred.ofValue, invoke]
      rw [e]
      exact callY_ok hC hpre hcf he hr hw hg ha hl (by rintro ⟨h1, _⟩; cases h1)
  · cases he

theorem ev_ok (hC : CtxOk G gl C) (hpre : ∀ cf, CallOk G gl cf → ∀ V : Vn, V.gl = gl → V.vsl.Nodup → PreOk G V cf L) : ∀ d, CallOk G gl (ev C L d)
  | 0 => fun g args h r he => by cases he
  | d + 1 => evCall_ok hC (hpre _ (ev_ok hC hpre d)) (ev_ok hC hpre d)

end
end Hx

