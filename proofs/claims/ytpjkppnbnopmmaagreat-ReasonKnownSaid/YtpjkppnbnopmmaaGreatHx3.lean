/- The machine (part 3). -/
import Derived.Test.YtpjkppnbnopmmaaGreatHx2
import Derived.RangeFuncIn
import Derived.Scope
/- Compiled operations: what the machine computes is what the model computes. -/
namespace Hx
open Go

/-- 'AP', for an operation -/
def AN (G : Gx) (K : Kx) (H : Heap) (s : Sem Next) (v : AV) (ks' : List Nat) (n m : Nat) : Prop :=
  ∃ x K', s.run G.P K.w = .ok (.value x) K'.w ∧ VR G.P K' v x ∧ HR G K' H ks' ∧ Tn (fun i => i ∈ ks') H K K' ∧ ∀ i, K'.D i → K.D i ∨ (i = n ∧ n < m)

/-- how values of operands stand to the machine's -/
def OpsOk (P : Program) (K : Kx) (co : CoF) (stk vs : List AV) (ρ : Operand → Value) : Prop := ∀ x f v, co x = some f → f stk vs = some v → VR P K v (ρ x)

section
variable {G : Gx} {K : Kx} {H : Heap} {ks : List Nat}

theorem AP.an {s : Sem Value} {t : Sem Next} {v : AV} {ks' : List Nat} {n m : Nat} (h : AP G K H s v ks' n m) (ht : ∀ w, t.run G.P w = (s.run G.P w).andThen fun x w => .ok (.value x) w) : AN G K H t v ks' n m := by
  obtain ⟨x, K', h1, h2⟩ := h
  exact ⟨x, K', by rw [ht, h1]; rfl, h2⟩

theorem rO_some {h : Heap} {x : Option AV} {r : AV × Heap × Option Nat} : rO h x = some r ↔ x = some r.1 ∧ r.2.1 = h ∧ r.2.2 = none := by
  unfold rO
  rw [ob_some]
  constructor
  · rintro ⟨a, rfl, h⟩; cases h; exact ⟨rfl, rfl, rfl⟩
  · rintro ⟨h1, h2, h3⟩; obtain ⟨a, b, c⟩ := r; simp at h1 h2 h3; subst h2 h3; exact ⟨a, h1, rfl⟩

theorem coL_ok {co : CoF} {stk vs : List AV} {ρ : Operand → Value} (hco : OpsOk G.P K co stk vs ρ) : ∀ {l : List Operand} {fs : List OF} {as : List AV}, coL co l = some fs → mapF fs stk vs = some as → VRs G.P K as (l.map ρ)
  | [], fs, as, hl, hf => by cases hl; cases hf; exact .nil
  | x :: l, fs, as, hl, hf => by
    unfold coL at hl
    split at hl
    · rename_i y r hy hr
      cases hl
      have hf' : ob (y stk vs) (fun v => ob (mapF r stk vs) fun ys => some (v :: ys)) = some as := hf
      simp only [ob_some, Option.some.injEq] at hf'
      obtain ⟨v, h1, as', h2, rfl⟩ := hf'
      exact .cons _ _ _ _ (hco _ _ _ hy h1) (coL_ok hco hr h2)
    · cases hl

theorem loadN_sub {h : Heap} (hs : Sub h H) {n : Nat} {v : AV} {l : List AV} (hc : loadN h n v = some l) : loadN H n v = some l := by
  cases v <;> simp only [loadN, reduceCtorEq, ob_some] at hc ⊢
  case ptr b o => obtain ⟨r, h2, h3⟩ := hc; exact ⟨r, getRow_some.2 (hs _ _ (getRow_some.1 h2)), h3⟩
  case iptr => exact hc
theorem slaA_sub {h : Heap} (hs : Sub h H) {e sz n : Nat} {v r : AV} {l u : Nat} (hc : slaA h e sz n v l u = some r) : slaA H e sz n v l u = some r := by
  simp only [slaA, bif_none] at hc ⊢
  refine ⟨hc.1, ?_⟩
  have hc := hc.2
  cases v <;> simp only [reduceCtorEq, ob_some] at hc ⊢
  case ptr b o => obtain ⟨r, h2, h3⟩ := hc; exact ⟨r, getRow_some.2 (hs _ _ (getRow_some.1 h2)), h3⟩
  case iptr => exact hc
theorem lookA_sub {h : Heap} (hs : Sub h H) {c : EqC} {z : AV} {ok : Bool} {m k r : AV} (hc : lookA h c z ok m k = some r) : lookA H c z ok m k = some r := by
  simp only [lookA, ob_some] at hc ⊢
  obtain ⟨es, h1, h2⟩ := hc
  refine ⟨es, ?_, h2⟩
  cases m <;> simp only [reduceCtorEq, ob_some] at h1 ⊢
  case nilm => exact h1
  case mp b => obtain ⟨r, h3, h4⟩ := h1; exact ⟨r, getMap_some.2 (hs _ _ (getMap_some.1 h3)), h4⟩
theorem lenmA_sub {h : Heap} (hs : Sub h H) {m r : AV} (hc : lenmA h m = some r) : lenmA H m = some r := by
  cases m <;> simp only [lenmA, reduceCtorEq, ob_some] at hc ⊢
  case nilm => exact hc
  case mp b => obtain ⟨r, h3, h4⟩ := hc; exact ⟨r, getMap_some.2 (hs _ _ (getMap_some.1 h3)), h4⟩

theorem bound_ok {co : CoF} {stk vs : List AV} {ρ : Operand → Value} (hco : OpsOk G.P K co stk vs ρ) {x : Option Operand} {f : Option OF} {d l : Nat} (hc : coO co x = some f) (hb : boundA d f stk vs = some l) : BoundV d (x.map ρ) l := by
  cases x with
  | none => cases hc; cases hb; exact .inl ⟨rfl, rfl⟩
  | some x =>
    simp only [coO, Option.map_eq_some_iff] at hc
    obtain ⟨g, hg, rfl⟩ := hc
    have hb' : ob (g stk vs) natOf = some l := hb
    rw [ob_some] at hb'
    obtain ⟨v, h1, h2⟩ := hb'
    obtain ⟨k, hk⟩ := natOf_ok (hco _ _ _ hg h1) h2
    exact .inr ⟨k, by simp [hk]⟩

theorem run_vbind {P : Program} (s : Sem Value) (w : World) : (do pure (Next.value (← s)) : Sem Next).run P w = (s.run P w).andThen fun x w => .ok (.value x) w := by
  simp []

theorem coL_nil {co : CoF} {l : List Operand} (h : coL co l = some []) : l = [] := by
  cases l with
  | nil => rfl
  | cons x l => unfold coL at h; split at h <;> cases h
theorem coL_cons {co : CoF} {l : List Operand} {f : OF} {fs : List OF} (h : coL co l = some (f :: fs)) : ∃ x r, l = x :: r ∧ co x = some f ∧ coL co r = some fs := by
  cases l with
  | nil => cases h
  | cons x l =>
    unfold coL at h
    split at h
    · rename_i y r hy hr; cases h; exact ⟨x, l, rfl, hy, hr⟩
    · cases h

theorem run_call_builtin {P : Program} (ρ : Operand → Value) (c : Call) (b : Builtin) (hb : c.callee = .builtin b) (dst : Option Tmp) (type : TypeId) (pos : String) (after : Array Edge) (g : Option (Nat × Bool)) :
    ∃ cs, ∀ w, (execOp ρ { dst := dst, op := .call c, type := type, pos := pos, after := after, guard := g }).run P w = (builtin b c.argTypes type cs (c.args.map ρ)).run P w :=
  ⟨_, fun w => by simp only [execOp, resolve, hb, Sem.run_bind, Sem.run_pure, Result.andThen_ok, invoke]; rfl⟩

theorem aop_ok {h h' : Heap} {kill : Option Nat} {co : CoF} {stk vs : List AV} {ρ : Operand → Value} (hco : OpsOk G.P K co stk vs ρ) {o : Oper} {f : AF} {v : AV} (hc : compOp G.P co o.op = some (.a f)) (hf : f stk vs h = some (v, h', kill))
    (hr : HR G K H ks) (hwf : h.wf) (hn0 : h.next < h'.next → ¬ K.D h.next) (hs : Sub h' H) (hl : h'.next ≤ H.next) (hk : ∀ b, kill = some b → b ∉ ks) :
    AN G K H (execOp ρ o) v (kill.toList ++ ks) h.next h'.next ∧ (h' = h ∨ ∃ blk, h' = h.push blk) := by
  obtain ⟨dst, op, type, pos, after, guard⟩ := o
  simp only at hc
  have hyp : h' = h → kill = none → ∀ (s : Sem Value) (t : Sem Next), YP G.P K s v → (∀ w, t.run G.P w = (s.run G.P w).andThen fun x w => .ok (.value x) w) → AN G K H t v (kill.toList ++ ks) h.next h'.next ∧ (h' = h ∨ ∃ blk, h' = h.push blk) := by
    rintro rfl rfl s t hy ht
    exact ⟨(YP.ap hr hy _ _).an ht, .inl rfl⟩
  have hval : h' = h → kill = none → ∀ (t : Sem Next) (x : Value), (∀ w, t.run G.P w = .ok (.value x) w) → VR G.P K v x → AN G K H t v (kill.toList ++ ks) h.next h'.next ∧ (h' = h ∨ ∃ blk, h' = h.push blk) := by
    rintro rfl rfl t x ht hv
    exact ⟨⟨x, K, ht _, hv, hr, Tn.refl _ _ _, fun i h => .inl h⟩, .inl rfl⟩
  have hnp : ∀ blk, h' = h.push blk → ¬ K.D h.next := fun blk e => hn0 (by rw [e, Heap.next_push]; omega)
  have hnew : ∀ blk, h' = h.push blk → kill = none → ∀ (s : Sem Value) (t : Sem Next), NewP G K h.next s v blk → (∀ w, t.run G.P w = (s.run G.P w).andThen fun x w => .ok (.value x) w) → AN G K H t v (kill.toList ++ ks) h.next h'.next ∧ (h' = h ∨ ∃ blk, h' = h.push blk) := by
    rintro blk rfl rfl s t hy ht
    exact ⟨(NewP.ap (by rw [Heap.next_push]; omega) hr (hnp _ rfl) (by rw [Heap.next_push] at hl; omega) (hs _ _ (by rw [Heap.get_push, if_pos rfl])) hy).an ht, .inr ⟨_, rfl⟩⟩
  unfold compOp at hc
  split at hc
  · -- move
    simp only [Option.map_eq_some_iff, OpK.a.injEq] at hc
    obtain ⟨x, hx, rfl⟩ := hc
    obtain ⟨h1, h2, h3⟩ := rO_some.1 hf
    exact hval h2 h3 _ _ (fun w => rfl) (hco _ _ _ hx h1)
  · simp only [Option.map_eq_some_iff, OpK.a.injEq] at hc
    obtain ⟨x, hx, rfl⟩ := hc
    obtain ⟨h1, h2, h3⟩ := rO_some.1 hf
    exact hval h2 h3 _ _ (fun w => rfl) (hco _ _ _ hx h1)
  · -- pick
    split at hc
    · rename_i c a b hc1 ha hb
      cases hc
      simp only [aPick, ob_some] at hf
      obtain ⟨t, ht, hf⟩ := hf
      have hvt := hco _ _ _ hc1 ht
      split at hf
      · rename_i t
        obtain ⟨h1, h2, h3⟩ := rO_some.1 hf
        simp only at h1 h2 h3
        generalize hρ : ρ _ = z at hvt
        cases hvt
        cases t
        · exact hval h2 h3 _ _ (fun w => by simp [execOp, hρ, asBool]) (hco _ _ _ hb h1)
        · exact hval h2 h3 _ _ (fun w => by simp [execOp, hρ, asBool]) (hco _ _ _ ha h1)
      · cases hf
    · cases hc
  · -- alloc
    simp only [Option.map_eq_some_iff, OpK.a.injEq] at hc
    obtain ⟨z, hz, rfl⟩ := hc
    cases hf
    exact hnew _ rfl rfl _ _ (alloc_ok (hnp _ rfl) hz) (fun w => run_vbind _ w)
  · -- box
    simp only [Option.map_eq_some_iff, OpK.a.injEq] at hc
    obtain ⟨x, hx, rfl⟩ := hc
    simp only [aBox, ob_some, Option.some.injEq, Prod.mk.injEq] at hf
    obtain ⟨u, hu, rfl, rfl, rfl⟩ := hf
    exact hnew _ rfl rfl _ _ (box_ok (hnp _ rfl) (hco _ _ _ hx hu)) (fun w => run_vbind _ w)
  · -- build
    obtain ⟨z, ps, he, hb⟩ := build_ok hco hc
    cases he
    simp only [aAgg, ob_some, Option.some.injEq, Prod.mk.injEq] at hf
    obtain ⟨cs, hcs, rfl, rfl, rfl⟩ := hf
    exact hyp rfl rfl _ _ (hb cs hcs) (fun w => run_vbind _ w)
  · -- buildSlice
    obtain ⟨e, z, ps, he, hb⟩ := bsl_ok hco hc
    cases he
    simp only [aBsl, ob_some, Option.some.injEq, Prod.mk.injEq] at hf
    obtain ⟨cs, hcs, rfl, rfl, rfl⟩ := hf
    exact hnew _ rfl rfl _ _ (hb h.next cs (hnp _ rfl) hcs) (fun w => run_vbind _ w)
  · -- load
    split at hc
    · rename_i n g a hn' hg ha
      cases hc
      simp only [aLoad, ob_some] at hf
      obtain ⟨u, hu, cs, hcs, hf⟩ := hf
      obtain ⟨h1, h2, h3⟩ := rO_some.1 hf
      simp only at h1 h2 h3
      subst h2
      exact hyp rfl h3 _ _ (load_ok hr hn' hg (hco _ _ _ ha hu) (loadN_sub hs hcs) h1) (fun w => run_vbind _ w)
    · cases hc
  · -- store
    split at hc <;> cases hc
  · -- nilCheck
    simp only [Option.map_eq_some_iff, OpK.a.injEq] at hc
    obtain ⟨x, hx, rfl⟩ := hc
    simp only [aChk, ob_some] at hf
    obtain ⟨u, hu, hf⟩ := hf
    obtain ⟨h1, h2, h3⟩ := rO_some.1 hf
    have hvu := hco _ _ _ hx hu
    obtain ⟨h4, h5⟩ := chk_ok hvu h1
    simp only at h4 h2 h3
    subst h4
    rcases h5 with ⟨a, h6⟩ | ⟨g, a, b, h6⟩ | ⟨l, a, b, h6⟩
    all_goals exact hval h2 h3 _ _ (fun w => by simp [execOp, h6]) (h6 ▸ hvu)
  · -- binOp
    split at hc
    · rename_i a b ha hb
      cases hc
      simp only [aBin, ob_some] at hf
      obtain ⟨u, hu, u', hu', hf⟩ := hf
      obtain ⟨h1, h2, h3⟩ := rO_some.1 hf
      exact hyp h2 h3 _ _ (bin_ok (hco _ _ _ ha hu) (hco _ _ _ hb hu') h1) (fun w => run_vbind _ w)
    · cases hc
  · -- unOp
    simp only [Option.map_eq_some_iff, OpK.a.injEq] at hc
    obtain ⟨x, hx, rfl⟩ := hc
    simp only [aUn, ob_some] at hf
    obtain ⟨u, hu, hf⟩ := hf
    obtain ⟨h1, h2, h3⟩ := rO_some.1 hf
    exact hyp h2 h3 _ _ (un_ok (hco _ _ _ hx hu) h1) (fun w => run_vbind _ w)
  · -- convert
    split at hc
    · rename_i d k x hsrc hdst hx
      cases hc
      simp only [aConv, ob_some] at hf
      obtain ⟨u, hu, hf⟩ := hf
      obtain ⟨h1, h2, h3⟩ := rO_some.1 hf
      exact hyp h2 h3 _ _ (conv_ok hsrc hdst (hco _ _ _ hx hu) h1) (fun w => run_vbind _ w)
    · cases hc
  · -- makeInterface
    split at hc
    · cases hc
    · rename_i d x hne hd hx
      cases hc
      simp only [aIfc, ob_some, Option.some.injEq, Prod.mk.injEq] at hf
      obtain ⟨u, hu, rfl, rfl, rfl⟩ := hf
      refine hyp rfl rfl (Instr.makeInterface _ _) _ ⟨_, ?_, .ifc _ _ _ (hco _ _ _ hx hu)⟩ (fun w => run_vbind _ w)
      simp only [Instr.makeInterface, Sem.run_bind, run_underlying hd, Result.andThen_ok]
      cases d <;> first | exact absurd rfl (hne _) | rfl
    · cases hc
  · -- makeFunc
    split at hc
    · rename_i a c hfn ha hb
      cases hc
      simp only [aMkf, ob_some, Option.some.injEq, Prod.mk.injEq] at hf
      obtain ⟨as, hu, cs, hu', rfl, rfl, rfl⟩ := hf
      have key : ∀ f, isFunc f = true → ∃ g, f = .func g := by intro f h; cases f <;> first | exact ⟨_, rfl⟩ | cases h
      obtain ⟨g, rfl⟩ := key _ hfn
      have ha' := coL_ok hco ha hu
      have hb' := coL_ok hco hb hu'
      have hv := VR.fn (P := G.P) (K := K) g as cs _ _ ha' hb'
      have e : ∀ A : Array Operand, (A.toList.map ρ).toArray = A.map ρ := fun A => by apply Array.ext'; simp
      rw [e, e] at hv
      exact hval rfl rfl _ _ (fun w => by simp [execOp, Instr.makeFunc]) hv
    · cases hc
  · -- makeMap
    cases hc
    cases hf
    exact hnew _ rfl rfl _ _ mkm_ok (fun w => run_vbind _ w)
  · -- makeSlice
    unfold cMakeSlice at hc
    split at hc
    · rename_i e l c hu hl' hc'
      split at hc
      · rename_i sz by_ z hsz hby hz
        split at hc
        · rename_i hzl
          cases hc
          simp only [aMks, ob_some, mksA, bif_none, Bool.and_eq_true, fN_eq, Nat.ble_eq, Option.some.injEq, Prod.mk.injEq] at hf
          obtain ⟨a, ha, b, hb, n, hna, m, hmb, ⟨⟨hnm, hro⟩, _⟩, rfl, rfl, rfl⟩ := hf
          obtain ⟨k1, hk1⟩ := natOf_ok (hco _ _ _ hl' ha) hna
          obtain ⟨k2, hk2⟩ := natOf_ok (hco _ _ _ hc' hb) hmb
          have := mks_ok (k := k1) (k' := k2) hu hsz hby hz hzl (hnp _ rfl) hnm hro
          exact hnew _ rfl rfl _ _ this (fun w => by simp only [execOp, hk1, hk2]; exact run_vbind _ w)
        · cases hc
      · cases hc
    · cases hc
  · -- slice
    unfold cSlice at hc
    split at hc
    · rename_i x lo hi hx hlo hhi
      split at hc
      · rename_i e hu
        simp only [Option.map_eq_some_iff, OpK.a.injEq] at hc
        obtain ⟨sz, hsz, rfl⟩ := hc
        simp only [aSlc, ob_some] at hf
        obtain ⟨u, hu', len, hlen, l, hl', q, hq, hf⟩ := hf
        obtain ⟨h1, h2, h3⟩ := rO_some.1 hf
        exact hyp h2 h3 _ _ (slc_ok hu hsz (hco _ _ _ hx hu') hlen (bound_ok hco hlo hl') (bound_ok hco hhi hq) h1) (fun w => run_vbind _ w)
      · rename_i n e hu
        simp only [Option.map_eq_some_iff, OpK.a.injEq] at hc
        obtain ⟨sz, hsz, rfl⟩ := hc
        simp only [aSla, ob_some] at hf
        obtain ⟨u, hu', l, hl', q, hq, hf⟩ := hf
        obtain ⟨h1, h2, h3⟩ := rO_some.1 hf
        simp only at h1 h2 h3
        subst h2
        exact hyp rfl h3 _ _ (sla_ok hr hu hsz (hco _ _ _ hx hu') (bound_ok hco hlo hl') (bound_ok hco hhi hq) (slaA_sub hs h1)) (fun w => run_vbind _ w)
      · cases hc
    · cases hc
  · -- slice with a capacity
    unfold cSlice3 at hc
    split at hc
    · rename_i x lo hi mx hx hlo hhi hmx
      split at hc
      · rename_i e hu
        simp only [Option.map_eq_some_iff, OpK.a.injEq] at hc
        obtain ⟨sz, hsz, rfl⟩ := hc
        simp only [aSlc3, ob_some, bif_none, Bool.and_eq_true, Nat.ble_eq] at hf
        obtain ⟨u, hu', len, hlen, l, hl', q, hq, q', hq', r, hr', r', hr2, ⟨hle1, hle2⟩, hf⟩ := hf
        obtain ⟨h1, h2, h3⟩ := rO_some.1 hf
        obtain ⟨k1, hk1⟩ := natOf_ok (hco _ _ _ hhi hq) hq'
        obtain ⟨k2, hk2⟩ := natOf_ok (hco _ _ _ hmx hr') hr2
        exact hyp h2 h3 _ _ (slc3_ok (k := k1) (k' := k2) hu hsz (hco _ _ _ hx hu') hlen (bound_ok hco hlo hl') hle1 hle2 h1) (fun w => by simp only [execOp, Option.map_some, hk1, hk2]; exact run_vbind _ w)
      · cases hc
    · cases hc
  · -- fieldAddr
    unfold cFieldAddr at hc
    split at hc
    · rename_i fs x hu hx
      split at hc
      · rename_i fd hfd
        split at hc
        · rename_i n hsz
          cases hc
          simp only [aFad, ob_some] at hf
          obtain ⟨u, hu', hf⟩ := hf
          obtain ⟨h1, h2, h3⟩ := rO_some.1 hf
          exact hyp h2 h3 _ _ (fad_ok hu hfd hsz (hco _ _ _ hx hu') h1) (fun w => run_vbind _ w)
        · cases hc
      · cases hc
    · cases hc
  · -- field
    unfold cField at hc
    split at hc
    · rename_i fs x hu hx
      split at hc
      · rename_i fd hfd
        split at hc
        · rename_i n g hsz hg
          cases hc
          simp only [aFld, ob_some] at hf
          obtain ⟨u, hu', hf⟩ := hf
          obtain ⟨h1, h2, h3⟩ := rO_some.1 hf
          exact hyp h2 h3 _ _ (fld_ok hu hfd hsz hg (hco _ _ _ hx hu') h1) (fun w => run_vbind _ w)
        · cases hc
      · cases hc
    · cases hc
  · -- indexAddr
    unfold cIndexAddr at hc
    split at hc
    · rename_i x i hx hi
      split at hc
      · rename_i e hu
        simp only [Option.map_eq_some_iff, OpK.a.injEq] at hc
        obtain ⟨sz, hsz, rfl⟩ := hc
        simp only [aIxs, ob_some] at hf
        obtain ⟨u, hu', j, hj, m, hm, hf⟩ := hf
        obtain ⟨h1, h2, h3⟩ := rO_some.1 hf
        obtain ⟨k, hk'⟩ := natOf_ok (hco _ _ _ hi hj) hm
        exact hyp h2 h3 _ _ (ixs_ok hu hsz (hco _ _ _ hx hu') hk' h1) (fun w => run_vbind _ w)
      · rename_i n e hu
        simp only [Option.map_eq_some_iff, OpK.a.injEq] at hc
        obtain ⟨sz, hsz, rfl⟩ := hc
        simp only [aIxa, ob_some] at hf
        obtain ⟨u, hu', j, hj, m, hm, hf⟩ := hf
        obtain ⟨h1, h2, h3⟩ := rO_some.1 hf
        obtain ⟨k, hk'⟩ := natOf_ok (hco _ _ _ hi hj) hm
        exact hyp h2 h3 _ _ (ixa_ok hu hsz (hco _ _ _ hx hu') hk' h1) (fun w => run_vbind _ w)
      · cases hc
    · cases hc
  · -- index
    unfold cIndex at hc
    split at hc
    · rename_i x i hx hi
      split at hc
      · rename_i n e hu
        split at hc
        · rename_i sz g hsz hg
          cases hc
          simp only [aIx, ob_some] at hf
          obtain ⟨u, hu', j, hj, m, hm, hf⟩ := hf
          obtain ⟨h1, h2, h3⟩ := rO_some.1 hf
          obtain ⟨k, hk'⟩ := natOf_ok (hco _ _ _ hi hj) hm
          exact hyp h2 h3 _ _ (ix_ok hu hsz hg (hco _ _ _ hx hu') hk' h1) (fun w => run_vbind _ w)
        · cases hc
      · rename_i hu
        cases hc
        simp only [aIxc, ob_some] at hf
        obtain ⟨u, hu', j, hj, m, hm, hf⟩ := hf
        obtain ⟨h1, h2, h3⟩ := rO_some.1 hf
        obtain ⟨k, hk'⟩ := natOf_ok (hco _ _ _ hi hj) hm
        exact hyp h2 h3 _ _ (ixc_ok hu (hco _ _ _ hx hu') hk' h1) (fun w => run_vbind _ w)
      · cases hc
    · cases hc
  · -- lookup
    unfold cLookup at hc
    split at hc
    · rename_i kt e m k hu hm hk'
      simp only [Option.map_eq_some_iff, OpK.a.injEq] at hc
      obtain ⟨z, hz, rfl⟩ := hc
      simp only [aLook, ob_some] at hf
      obtain ⟨a, ha, b, hb, hf⟩ := hf
      obtain ⟨h1, h2, h3⟩ := rO_some.1 hf
      simp only at h1 h2 h3
      subst h2
      exact hyp rfl h3 _ _ (look_ok hr hu hz (hco _ _ _ hm ha) (hco _ _ _ hk' hb) (lookA_sub hs h1)) (fun w => run_vbind _ w)
    · cases hc
  · -- typeAssert
    unfold cTypeAssert at hc
    split at hc
    · cases hc
    · rename_i d x z hne hd hx hz
      cases hc
      simp only [aTas, ob_some] at hf
      obtain ⟨u, hu', hf⟩ := hf
      obtain ⟨h1, h2, h3⟩ := rO_some.1 hf
      exact hyp h2 h3 _ _ (tas_ok hd (fun ms e => hne ms e) hz (hco _ _ _ hx hu') h1) (fun w => run_vbind _ w)
    · cases hc
  · -- extract
    simp only [Option.map_eq_some_iff, OpK.a.injEq] at hc
    obtain ⟨x, hx, rfl⟩ := hc
    simp only [aExt, ob_some] at hf
    obtain ⟨u, hu, hf⟩ := hf
    obtain ⟨h1, h2, h3⟩ := rO_some.1 hf
    exact hyp h2 h3 _ _ (ext_ok (hco _ _ _ hx hu) h1) (fun w => run_vbind _ w)
  · unfold cMapUpdate at hc; split at hc <;> cases hc
  · unfold cMapUpdate at hc; split at hc <;> cases hc
  · unfold cMapEntry at hc
    split at hc
    · simp at hc
    · cases hc
  · split at hc <;> cases hc
  · simp at hc
  · split at hc
    · split at hc <;> cases hc
    · cases hc
  · -- call
    rename_i c
    split at hc
    · split at hc <;> cases hc
    · rename_i b hcal
      split at hc
      · rename_i as has
        obtain ⟨consts, hrun⟩ := run_call_builtin (P := G.P) ρ c b hcal dst type pos after guard
        have hargs : ∀ {l : List Operand}, c.args.toList = l → c.args.map ρ = (l.map ρ).toArray := fun h => by
          apply Array.ext'
          simp [h]
        have htys : ∀ {l : List TypeId}, c.argTypes.toList = l → c.argTypes = l.toArray := fun h => by
          apply Array.ext'
          simp [h]
        unfold cBuiltin at hc
        split at hc
        · -- append
          rename_i s x t u hty
          obtain ⟨a1, r1, e1, hs1, hr1⟩ := coL_cons has
          obtain ⟨a2, r2, e2, hs2, hr2⟩ := coL_cons hr1
          have e3 := coL_nil hr2
          subst e3 e2
          unfold cAppend at hc
          split at hc
          · rename_i e hu
            split at hc
            · rename_i sz by_ z hsz hby hz
              split at hc
              · rename_i hcond
                cases hc
                simp only [aApp, ob_some] at hf
                obtain ⟨sv, hsv, xv, hxv, hf⟩ := hf
                obtain ⟨g1, g2⟩ := app_ok (ty := type) hr hu hcond.1 hsz hby hz hcond.2 (hco _ _ _ hs1 hsv) (hco _ _ _ hs2 hxv) hwf hn0 hf hs hl hk
                refine ⟨g1.an fun w => ?_, g2⟩
                rw [hrun, hargs e1, htys hty]
                exact run_vbind _ w
              · cases hc
            · cases hc
          · cases hc
        · -- len
          rename_i x t hty
          obtain ⟨a1, r1, e1, hs1, hr1⟩ := coL_cons has
          have e3 := coL_nil hr1
          subst e3
          unfold cLen at hc
          split at hc
          · rename_i e hu
            cases hc
            simp only [aLens, ob_some] at hf
            obtain ⟨sv, hsv, hf⟩ := hf
            obtain ⟨h1, h2, h3⟩ := rO_some.1 hf
            refine hyp h2 h3 _ _ (lens_ok (ty := type) hu (hco _ _ _ hs1 hsv) h1) fun w => ?_
            rw [hrun, hargs e1, htys hty]
            exact run_vbind _ w
          · rename_i k e hu
            cases hc
            simp only [aLenm, ob_some] at hf
            obtain ⟨sv, hsv, hf⟩ := hf
            obtain ⟨h1, h2, h3⟩ := rO_some.1 hf
            simp only at h1 h2 h3
            subst h2
            refine hyp rfl h3 _ _ (lenm_ok (ty := type) hr hu (hco _ _ _ hs1 hsv) (lenmA_sub hs h1)) fun w => ?_
            rw [hrun, hargs e1, htys hty]
            exact run_vbind _ w
          · cases hc
        · -- min
          rename_i x r hty
          cases hc
          obtain ⟨a1, r1, e1, hs1, hr1⟩ := coL_cons has
          simp only [aMm, ob_some] at hf
          obtain ⟨sv, hsv, l, hl', hf⟩ := hf
          obtain ⟨h1, h2, h3⟩ := rO_some.1 hf
          refine hyp h2 h3 _ _ (mm_ok (hco _ _ _ hs1 hsv) (coL_ok hco hr1 hl') h1) fun w => ?_
          rw [hrun, hargs e1]
          exact run_vbind _ w
        · -- max
          rename_i x r hty
          cases hc
          obtain ⟨a1, r1, e1, hs1, hr1⟩ := coL_cons has
          simp only [aMm, ob_some] at hf
          obtain ⟨sv, hsv, l, hl', hf⟩ := hf
          obtain ⟨h1, h2, h3⟩ := rO_some.1 hf
          refine hyp h2 h3 _ _ (mm_ok (hco _ _ _ hs1 hsv) (coL_ok hco hr1 hl') h1) fun w => ?_
          rw [hrun, hargs e1]
          exact run_vbind _ w
        · split at hc
          · simp at hc
          · cases hc
        · repeat' split at hc
          all_goals cases hc
        · cases hc
        · cases hc
        · cases hc
      · cases hc
    · cases hc
  · cases hc

end
end Hx

/- Compiled operations that turn memory. -/
namespace Hx
open Go

def EN (G : Gx) (K : Kx) (h : Heap) (s : Sem Next) (v : AV) (h' : Heap) : Prop :=
  ∃ nx x K', s.run G.P K.w = .ok nx K'.w ∧ (nx = .value x ∨ (nx = .skip ∧ x = undef)) ∧ VR G.P K' v x ∧ Tn (fun i => h'.low ≤ i) h K K' ∧ HR G K' h' [] ∧ ∀ i, K'.D i → K.D i

section
variable {G : Gx} {K : Kx}

theorem VR.undef {P : Program} {K : Kx} : VR P K undefA undef := VR.tup [] [] .nil

theorem UP.en {h h' : Heap} {s : Sem Unit} {t : Sem Next} (hu : UP G K h s h') (ht : ∀ w, t.run G.P w = (s.run G.P w).andThen fun _ w => .ok .skip w) : EN G K h t undefA h' := by
  obtain ⟨K', h1, h2, h3⟩ := hu
  exact ⟨.skip, undef, K', by rw [ht, h1]; rfl, .inr ⟨rfl, rfl⟩, VR.undef, h2, h3⟩
theorem WP.en {h h' : Heap} {s : Sem Value} {t : Sem Next} {v : AV} (hu : WP G K h s v h') (ht : ∀ w, t.run G.P w = (s.run G.P w).andThen fun x w => .ok (.value x) w) : EN G K h t v h' := by
  obtain ⟨x, K', h1, h2, h3, h4⟩ := hu
  exact ⟨.value x, x, K', by rw [ht, h1]; rfl, .inl rfl, h2, h3, h4⟩

theorem run_ubind {P : Program} (s : Sem Unit) (w : World) : (do s; pure Next.skip : Sem Next).run P w = (s.run P w).andThen fun _ w => .ok .skip w := by
  simp []

def Puts (h h' : Heap) : Prop := h' = h ∨ ∃ b x, (h.get b).isSome = true ∧ h' = h.put b x

theorem storeN_puts {h h' : Heap} {a : AV} {l : List AV} (hs : storeN h a l = some h') : Puts h h' := by
  cases a <;> simp only [storeN, reduceCtorEq, bif_none, ob_some, Option.some.injEq] at hs
  obtain ⟨_, r, hg, cs, _, rfl⟩ := hs
  exact .inr ⟨_, _, by rw [getRow_some.1 hg]; rfl, rfl⟩

theorem eop_ok {h h' : Heap} {co : CoF} {stk vs : List AV} {ρ : Operand → Value} (hco : OpsOk G.P K co stk vs ρ) {o : Oper} {f : EF} {v : AV} (hc : compOp G.P co o.op = some (.e f)) (hf : f stk vs h = some (v, h')) (hr : HR G K h []) :
    EN G K h (execOp ρ o) v h' ∧ Puts h h' := by
  obtain ⟨dst, op, type, pos, after, guard⟩ := o
  simp only at hc
  unfold compOp at hc
  split at hc
  all_goals first
    | (simp at hc; done)
    | (split at hc <;> simp at hc; done)
    | skip
  · unfold cBuild at hc; repeat' split at hc
    all_goals simp at hc
  · unfold cBuildSlice at hc; repeat' split at hc
    all_goals simp at hc
  · -- store
    split at hc
    · rename_i n a x hn ha hx
      cases hc
      simp only [eStore, ob_some, bif_none, Nat.beq_eq, Option.some.injEq, Prod.mk.injEq] at hf
      obtain ⟨av, hav, xv, hxv, hl, h1, hst, rfl, rfl⟩ := hf
      exact ⟨(storeAt_ok hr hn (hco _ _ _ ha hav) (hco _ _ _ hx hxv) hl hst).en fun w => run_ubind _ w, storeN_puts hst⟩
    · cases hc
  · unfold cMakeSlice at hc; repeat' split at hc
    all_goals simp at hc
  · unfold cSlice at hc; repeat' split at hc
    all_goals simp at hc
  · unfold cSlice3 at hc; repeat' split at hc
    all_goals simp at hc
  · unfold cFieldAddr at hc; repeat' split at hc
    all_goals simp at hc
  · unfold cField at hc; repeat' split at hc
    all_goals simp at hc
  · unfold cIndexAddr at hc; repeat' split at hc
    all_goals simp at hc
  · unfold cIndex at hc; repeat' split at hc
    all_goals simp at hc
  · unfold cLookup at hc; repeat' split at hc
    all_goals simp at hc
  · unfold cTypeAssert at hc; repeat' split at hc
    all_goals simp at hc
  · unfold cMapUpdate at hc
    split at hc
    · rename_i kt e m k x hu hm hk hx
      cases hc
      simp only [eMup, ob_some] at hf
      obtain ⟨mv, hmv, kv, hkv, xv, hxv, hf⟩ := hf
      obtain ⟨h1, rfl⟩ := mup_ok hr hu (hco _ _ _ hm hmv) (hco _ _ _ hk hkv) (hco _ _ _ hx hxv) hf
      refine ⟨h1.en fun w => run_ubind _ w, ?_⟩
      cases mv <;> simp only [mupE, reduceCtorEq, ob_some] at hf
      obtain ⟨r, hg, q, _, hf⟩ := hf
      split at hf <;> cases hf <;> exact .inr ⟨_, _, by rw [getMap_some.1 hg]; rfl, rfl⟩
    · cases hc
  · unfold cMapUpdate at hc
    split at hc
    · rename_i kt e m k x hu hm hk hx
      cases hc
      simp only [eMup, ob_some] at hf
      obtain ⟨mv, hmv, kv, hkv, xv, hxv, hf⟩ := hf
      obtain ⟨h1, rfl⟩ := mup_ok hr hu (hco _ _ _ hm hmv) (hco _ _ _ hk hkv) (hco _ _ _ hx hxv) hf
      refine ⟨h1.en fun w => run_ubind _ w, ?_⟩
      cases mv <;> simp only [mupE, reduceCtorEq, ob_some] at hf
      obtain ⟨r, hg, q, _, hf⟩ := hf
      split at hf <;> cases hf <;> exact .inr ⟨_, _, by rw [getMap_some.1 hg]; rfl, rfl⟩
    · cases hc
  · unfold cMapEntry at hc
    split at hc
    · rename_i kt e m k hu hm hk
      simp only [Option.map_eq_some_iff, OpK.e.injEq] at hc
      obtain ⟨z, hz, rfl⟩ := hc
      simp only [eMen, ob_some] at hf
      obtain ⟨mv, hmv, kv, hkv, hf⟩ := hf
      refine ⟨(men_ok hr hu hz (hco _ _ _ hm hmv) (hco _ _ _ hk hkv) hf).en fun w => run_vbind _ w, ?_⟩
      cases mv <;> simp only [menE, reduceCtorEq, ob_some, fN_eq] at hf
      obtain ⟨r, hg, q, _, hf⟩ := hf
      split at hf <;> cases hf
      · exact .inl rfl
      · exact .inr ⟨_, _, by rw [getMap_some.1 hg]; rfl, rfl⟩
    · cases hc
  · -- entryStore
    split at hc
    · rename_i m s x hm hs hx
      cases hc
      simp only [eMes, ob_some] at hf
      obtain ⟨mv, hmv, sv, hsv, xv, hxv, hf⟩ := hf
      obtain ⟨h1, rfl⟩ := mes_ok hr (hco _ _ _ hm hmv) (hco _ _ _ hs hsv) (hco _ _ _ hx hxv) hf
      refine ⟨h1.en fun w => run_ubind _ w, ?_⟩
      cases mv <;> simp only [mesE, reduceCtorEq, ob_some, bif_none, Option.some.injEq, Prod.mk.injEq] at hf
      obtain ⟨st, _, r, hg, _, _, rfl⟩ := hf
      exact .inr ⟨_, _, by rw [getMap_some.1 hg]; rfl, rfl⟩
    · cases hc
  · split at hc
    · split at hc <;> simp at hc
    · cases hc
  · -- call
    rename_i c
    split at hc
    · split at hc <;> simp at hc
    · rename_i b hcal
      split at hc
      · rename_i as has
        obtain ⟨consts, hrun⟩ := run_call_builtin (P := G.P) ρ c b hcal dst type pos after guard
        have hargs : ∀ {l : List Operand}, c.args.toList = l → c.args.map ρ = (l.map ρ).toArray := fun h => by
          apply Array.ext'
          simp [h]
        have htys : ∀ {l : List TypeId}, c.argTypes.toList = l → c.argTypes = l.toArray := fun h => by
          apply Array.ext'
          simp [h]
        unfold cBuiltin at hc
        split at hc
        · unfold cAppend at hc; repeat' split at hc
          all_goals simp at hc
        · unfold cLen at hc; repeat' split at hc
          all_goals simp at hc
        · simp at hc
        · simp at hc
        · -- copy
          rename_i d s t u hty
          obtain ⟨a1, r1, e1, hs1, hr1⟩ := coL_cons has
          obtain ⟨a2, r2, e2, hs2, hr2⟩ := coL_cons hr1
          have e3 := coL_nil hr2
          subst e3 e2
          split at hc
          · rename_i e hu
            simp only [Option.map_eq_some_iff, OpK.e.injEq] at hc
            obtain ⟨sz, hsz, rfl⟩ := hc
            simp only [eCpy, ob_some] at hf
            obtain ⟨dv, hdv, sv, hsv, hf⟩ := hf
            refine ⟨(copy_ok (u := u) (ty := type) hr hu hsz (hco _ _ _ hs1 hdv) (hco _ _ _ hs2 hsv) hf).en fun w => ?_, ?_⟩
            · rw [hrun, hargs e1, htys hty]
              exact run_vbind _ w
            · simp only [cpyE, ob_some, fN_eq] at hf
              obtain ⟨m, _, k, _, cs, _, hf⟩ := hf
              cases dv <;> simp only [reduceCtorEq, ob_some, Option.some.injEq, Prod.mk.injEq] at hf
              · exact .inl hf.2.symm
              · exact .inl hf.2.symm
              · obtain ⟨h1, hst, _, rfl⟩ := hf; exact storeN_puts hst
          · cases hc
        · -- clear
          rename_i s t hty
          obtain ⟨a1, r1, e1, hs1, hr1⟩ := coL_cons has
          have e3 := coL_nil hr1
          subst e3
          split at hc
          · rename_i e hu
            split at hc
            · rename_i sz z hsz hz
              split at hc
              · cases hc
                simp only [eClr, ob_some] at hf
                obtain ⟨sv, hsv, hf⟩ := hf
                refine ⟨(clear_ok (ty := type) hr hu hsz hz (hco _ _ _ hs1 hsv) hf).en fun w => ?_, ?_⟩
                · rw [hrun, hargs e1, htys hty]
                  exact run_vbind _ w
                · simp only [clrE, ob_some] at hf
                  obtain ⟨n, _, hf⟩ := hf
                  split at hf
                  · cases hf; exact .inl rfl
                  · split at hf
                    · simp only [ob_some, Option.some.injEq, Prod.mk.injEq] at hf
                      obtain ⟨h1, hst, _, rfl⟩ := hf; exact storeN_puts hst
                    · cases hf
              · cases hc
            · cases hc
          · cases hc
        · simp at hc
        · simp at hc
        · cases hc
      · cases hc
    · cases hc

end
end Hx

/- What compiled operations do to the abstract heap. -/
namespace Hx
open Go

def Grows (h h' : Heap) : Prop := h' = h ∨ ∃ blk, h' = h.push blk

theorem rO_grows {h h' : Heap} {x : Option AV} {v : AV} {k : Option Nat} (hf : rO h x = some (v, h', k)) : Grows h h' ∧ k = none := by
  obtain ⟨_, h2, h3⟩ := rO_some.1 hf
  exact ⟨.inl h2, h3⟩

theorem appA_grows {h h' : Heap} {e sz by_ : Nat} {s a v : AV} {k : Option Nat} (hc : appA h e sz by_ s a = some (v, h', k)) : Grows h h' ∧ ∀ b, k = some b → (h.get b).isSome = true := by
  simp only [appA, ob_some] at hc
  obtain ⟨n, _, new, _, hc⟩ := hc
  cases s <;> simp only [reduceCtorEq] at hc
  · rw [bif_eq] at hc
    split at hc
    · cases hc; exact ⟨.inl rfl, fun b h => by cases h⟩
    · simp only [bif_none, fN_eq, Option.some.injEq, Prod.mk.injEq] at hc
      obtain ⟨_, rfl, rfl, rfl⟩ := hc
      exact ⟨.inr ⟨_, rfl⟩, fun b h => by cases h⟩
  · simp only [ob_some, bif_none, fN_eq, Option.some.injEq, Prod.mk.injEq] at hc
    obtain ⟨r, hg, _, rfl, rfl, rfl⟩ := hc
    exact ⟨.inr ⟨_, rfl⟩, fun b h => by cases h; rw [getRow_some.1 hg]; rfl⟩

def GrowsF (f : AF) : Prop := ∀ stk vs h v h' k, f stk vs h = some (v, h', k) → Grows h h' ∧ ∀ b, k = some b → (h.get b).isSome = true

theorem growsF_of {f : AF} (h : ∀ stk vs h v h' k, f stk vs h = some (v, h', k) → Grows h h' ∧ k = none) : GrowsF f := fun stk vs h' v h'' k hf => by
  obtain ⟨h1, h2⟩ := h stk vs h' v h'' k hf
  exact ⟨h1, fun b hb => by rw [h2] at hb; cases hb⟩

theorem aop_grows {P : Program} {co : CoF} {o : Op} {f : AF} (hc : compOp P co o = some (.a f)) : GrowsF f := by
  have one : ∀ {x : OF} {g : AV → Option AV}, GrowsF fun stk vs h => ob (x stk vs) fun v => rO h (g v) := growsF_of fun stk vs h v h' k hf => by
    rw [ob_some] at hf; obtain ⟨_, _, hf⟩ := hf; exact rO_grows hf
  unfold compOp at hc
  split at hc
  · simp only [Option.map_eq_some_iff, OpK.a.injEq] at hc
    obtain ⟨x, hx, rfl⟩ := hc
    exact growsF_of fun stk vs h v h' k hf => rO_grows hf
  · simp only [Option.map_eq_some_iff, OpK.a.injEq] at hc
    obtain ⟨x, hx, rfl⟩ := hc
    exact growsF_of fun stk vs h v h' k hf => rO_grows hf
  · split at hc
    · cases hc
      refine growsF_of fun stk vs h v h' k hf => ?_
      simp only [aPick, ob_some] at hf
      obtain ⟨t, _, hf⟩ := hf
      split at hf
      · exact rO_grows hf
      · cases hf
    · cases hc
  · simp only [Option.map_eq_some_iff, OpK.a.injEq] at hc
    obtain ⟨x, hx, rfl⟩ := hc
    exact growsF_of fun stk vs h v h' k hf => by cases hf; exact ⟨.inr ⟨_, rfl⟩, rfl⟩
  · simp only [Option.map_eq_some_iff, OpK.a.injEq] at hc
    obtain ⟨x, hx, rfl⟩ := hc
    refine growsF_of fun stk vs h v h' k hf => ?_
    simp only [aBox, ob_some] at hf
    obtain ⟨_, _, hf⟩ := hf
    cases hf; exact ⟨.inr ⟨_, rfl⟩, rfl⟩
  · unfold cBuild at hc
    repeat' split at hc
    all_goals first
      | (cases hc; done)
      | (simp only [Option.map_eq_some_iff, OpK.a.injEq] at hc
         obtain ⟨x, hx, rfl⟩ := hc
         refine growsF_of fun stk vs h v h' k hf => ?_
         simp only [aAgg, ob_some] at hf
         obtain ⟨_, _, hf⟩ := hf
         cases hf; exact ⟨.inl rfl, rfl⟩)
  · unfold cBuildSlice at hc
    repeat' split at hc
    all_goals first
      | (cases hc; done)
      | (cases hc
         refine growsF_of fun stk vs h v h' k hf => ?_
         simp only [aBsl, ob_some] at hf
         obtain ⟨_, _, hf⟩ := hf
         cases hf; exact ⟨.inr ⟨_, rfl⟩, rfl⟩)
  · split at hc
    · cases hc
      refine growsF_of fun stk vs h v h' k hf => ?_
      simp only [aLoad, ob_some] at hf
      obtain ⟨_, _, _, _, hf⟩ := hf
      exact rO_grows hf
    · cases hc
  · split at hc <;> cases hc
  · simp only [Option.map_eq_some_iff, OpK.a.injEq] at hc
    obtain ⟨x, hx, rfl⟩ := hc
    exact one
  · split at hc
    · cases hc
      refine growsF_of fun stk vs h v h' k hf => ?_
      simp only [aBin, ob_some] at hf
      obtain ⟨_, _, _, _, hf⟩ := hf
      exact rO_grows hf
    · cases hc
  · simp only [Option.map_eq_some_iff, OpK.a.injEq] at hc
    obtain ⟨x, hx, rfl⟩ := hc
    exact one
  · split at hc
    · cases hc; exact one
    · cases hc
  · split at hc
    · cases hc
    · cases hc
      refine growsF_of fun stk vs h v h' k hf => ?_
      simp only [aIfc, ob_some] at hf
      obtain ⟨_, _, hf⟩ := hf
      cases hf; exact ⟨.inl rfl, rfl⟩
    · cases hc
  · split at hc
    · cases hc
      refine growsF_of fun stk vs h v h' k hf => ?_
      simp only [aMkf, ob_some] at hf
      obtain ⟨_, _, _, _, hf⟩ := hf
      cases hf; exact ⟨.inl rfl, rfl⟩
    · cases hc
  · cases hc
    exact growsF_of fun stk vs h v h' k hf => by cases hf; exact ⟨.inr ⟨_, rfl⟩, rfl⟩
  · unfold cMakeSlice at hc
    repeat' split at hc
    all_goals first
      | (cases hc; done)
      | (cases hc
         refine growsF_of fun stk vs h v h' k hf => ?_
         simp only [aMks, ob_some, mksA, bif_none, fN_eq] at hf
         obtain ⟨_, _, _, _, _, _, _, _, _, hf⟩ := hf
         cases hf; exact ⟨.inr ⟨_, rfl⟩, rfl⟩)
  · unfold cSlice at hc
    repeat' split at hc
    all_goals first
      | (cases hc; done)
      | (simp only [Option.map_eq_some_iff, OpK.a.injEq] at hc
         obtain ⟨x, hx, rfl⟩ := hc
         refine growsF_of fun stk vs h v h' k hf => ?_
         first
           | (simp only [aSlc, ob_some] at hf
              obtain ⟨_, _, _, _, _, _, _, _, hf⟩ := hf
              exact rO_grows hf)
           | (simp only [aSla, ob_some] at hf
              obtain ⟨_, _, _, _, _, _, hf⟩ := hf
              exact rO_grows hf))
  · unfold cSlice3 at hc
    repeat' split at hc
    all_goals first
      | (cases hc; done)
      | (simp only [Option.map_eq_some_iff, OpK.a.injEq] at hc
         obtain ⟨x, hx, rfl⟩ := hc
         refine growsF_of fun stk vs h v h' k hf => ?_
         simp only [aSlc3, ob_some, bif_none] at hf
         obtain ⟨_, _, _, _, _, _, _, _, _, _, _, _, _, _, _, hf⟩ := hf
         exact rO_grows hf)
  · unfold cFieldAddr at hc
    repeat' split at hc
    all_goals first
      | (cases hc; done)
      | (cases hc; exact one)
  · unfold cField at hc
    repeat' split at hc
    all_goals first
      | (cases hc; done)
      | (cases hc; exact one)
  · unfold cIndexAddr at hc
    repeat' split at hc
    all_goals first
      | (cases hc; done)
      | (simp only [Option.map_eq_some_iff, OpK.a.injEq] at hc
         obtain ⟨x, hx, rfl⟩ := hc
         refine growsF_of fun stk vs h v h' k hf => ?_
         first
           | simp only [aIxs, ob_some] at hf
           | simp only [aIxa, ob_some] at hf
         obtain ⟨_, _, _, _, _, _, hf⟩ := hf
         exact rO_grows hf)
  · unfold cIndex at hc
    repeat' split at hc
    all_goals first
      | (cases hc; done)
      | (cases hc
         refine growsF_of fun stk vs h v h' k hf => ?_
         first
           | simp only [aIx, ob_some] at hf
           | simp only [aIxc, ob_some] at hf
         obtain ⟨_, _, _, _, _, _, hf⟩ := hf
         exact rO_grows hf)
  · unfold cLookup at hc
    split at hc
    · simp only [Option.map_eq_some_iff, OpK.a.injEq] at hc
      obtain ⟨x, hx, rfl⟩ := hc
      refine growsF_of fun stk vs h v h' k hf => ?_
      simp only [aLook, ob_some] at hf
      obtain ⟨_, _, _, _, hf⟩ := hf
      exact rO_grows hf
    · cases hc
  · unfold cTypeAssert at hc
    split at hc
    · cases hc
    · cases hc; exact one
    · cases hc
  · simp only [Option.map_eq_some_iff, OpK.a.injEq] at hc
    obtain ⟨x, hx, rfl⟩ := hc
    exact one
  · unfold cMapUpdate at hc; split at hc <;> cases hc
  · unfold cMapUpdate at hc; split at hc <;> cases hc
  · unfold cMapEntry at hc
    split at hc
    · simp at hc
    · cases hc
  · split at hc <;> cases hc
  · simp at hc
  · split at hc
    · split at hc <;> cases hc
    · cases hc
  · split at hc
    · split at hc <;> cases hc
    · split at hc
      · unfold cBuiltin at hc
        split at hc
        · unfold cAppend at hc
          repeat' split at hc
          all_goals first
            | (cases hc; done)
            | (cases hc
               intro stk vs h v h' k hf
               simp only [aApp, ob_some] at hf
               obtain ⟨_, _, _, _, hf⟩ := hf
               exact appA_grows hf)
        · unfold cLen at hc
          repeat' split at hc
          · cases hc; exact one
          · cases hc
            refine growsF_of fun stk vs h v h' k hf => ?_
            simp only [aLenm, ob_some] at hf
            obtain ⟨_, _, hf⟩ := hf
            exact rO_grows hf
          · cases hc
        · cases hc
          refine growsF_of fun stk vs h v h' k hf => ?_
          simp only [aMm, ob_some] at hf
          obtain ⟨_, _, _, _, hf⟩ := hf
          exact rO_grows hf
        · cases hc
          refine growsF_of fun stk vs h v h' k hf => ?_
          simp only [aMm, ob_some] at hf
          obtain ⟨_, _, _, _, hf⟩ := hf
          exact rO_grows hf
        · split at hc
          · simp at hc
          · cases hc
        · repeat' split at hc
          all_goals cases hc
        · cases hc
        · cases hc
        · cases hc
      · cases hc
    · cases hc
  · cases hc

end Hx

/- Sequential regions: the machine's steps are the model's. -/
namespace Hx
open Go

/-- the tables that never change -/
def GlOk (P : Program) (K : Kx) (gl : Nat → Option (List AV)) : Prop :=
  ∀ g cs, gl g = some cs → ∃ cvs, VRs P K cs cvs ∧ K.at g 0 cvs ∧ ¬ K.O g ∧ g < K.w.heap.size
theorem GlOk.mono {P : Program} {K K' : Kx} {gl : Nat → Option (List AV)} (hk : Kle K K') (h : GlOk P K gl) : GlOk P K' gl := fun g cs hg =>
  let ⟨cvs, h1, h2, h3, h4⟩ := h g cs hg
  ⟨cvs, h1.mono hk, hk.at h3 h4 h2, hk.nown h3 h4, Nat.lt_of_lt_of_le h4 hk.size⟩

/-- a deferred call -/
inductive DR (P : Program) (K : Kx) : AV × List AV → Deferred → Prop
  | mk (f : FuncId) (a c as : List AV) (va vc vas : List Value) : VRs P K a va → VRs P K c vc → VRs P K as vas →
      DR P K (.fn (.func f) a c, as) { target := .fn (.func f) vc.toArray, args := va.toArray ++ vas.toArray }
/-- the deferred calls, and the marks of the ranges over functions; m: the size of the heap where the function began -/
inductive DRs (P : Program) (K : Kx) (m : Option Nat) : Defs → List Deferred → Prop
  | nil : DRs P K m [] []
  | cons (x : AV × List AV) (d : Deferred) (l : Defs) (r : List Deferred) : DR P K x d → DRs P K m l r → DRs P K m (x :: l) (d :: r)
  | mark (b : Nat) (l : Defs) (r : List Deferred) : K.w.heap[b]? = some (.deferred (some [])) → ¬ K.O b → (∃ m0, m = some m0 ∧ m0 ≤ b) → (∀ d, d ∈ r → d.target ≠ .collected b) → DRs P K m l r →
      DRs P K m l ({ target := .collected b, args := #[] } :: r)
theorem DR.mono {P : Program} {K K' : Kx} (hk : Kle K K') {x : AV × List AV} {d : Deferred} (h : DR P K x d) : DR P K' x d := by
  cases h with
  | mk f a c as va vc vas h1 h2 h3 => exact .mk f a c as va vc vas (h1.mono hk) (h2.mono hk) (h3.mono hk)
theorem DRs.mono {P : Program} {K K' : Kx} (hk : Kle K K') {m : Option Nat} {l : Defs} {r : List Deferred} (h : DRs P K m l r) : DRs P K' m l r := by
  induction h with
  | nil => exact .nil
  | cons x d l r h _ ih => exact .cons x d l r (h.mono hk) ih
  | mark b l r h1 h2 h3 h4 _ ih =>
    have hb := (Array.getElem?_eq_some_iff.1 h1).1
    exact .mark b l r (by rw [hk.imm b hb h2]; exact h1) (hk.nown h2 hb) h3 h4 ih

/-- a step from one state to another -/
structure Stp (K : Kx) (h : Heap) (K' : Kx) (h' : Heap) : Prop where
  tn : Tn (fun i => h'.low ≤ i) h K K'
  ext : HExt h h'
  wf : h.wf → h'.wf
  dm : ∀ b, K'.D b → K.D b ∨ h.next ≤ b
theorem Stp.refl (K : Kx) (h : Heap) : Stp K h K h := ⟨Tn.refl _ _ _, HExt.refl _, fun h => h, fun _ h => .inl h⟩
theorem Stp.trans {G : Gx} {K K' K'' : Kx} {h h' h'' : Heap} {ks : List Nat} (hr : HR G K h ks) (a : Stp K h K' h') (b : Stp K' h' K'' h'') : Stp K h K'' h'' := by
  refine ⟨(a.tn.mono fun i hi => Nat.le_trans b.ext.low hi).trans b.tn fun i hi => ⟨fun hn hl => ?_, fun hl => ?_⟩, a.ext.trans b.ext, fun hw => b.wf (a.wf hw), fun i hi => (b.dm i hi).elim (a.dm i) fun h => .inr (Nat.le_trans a.ext.next h)⟩
  · rw [a.ext.same i (hr.lt i hi) (by have := b.ext.low; omega)]; exact hl
  · cases hg : h.get i with
    | some x => rfl
    | none => rw [a.ext.dead i (hr.lt i hi) hg] at hl; cases hl

/-- what a call ends in -/
def RetR (G : Gx) (K : Kx) (h : Heap) (r : Ret × Heap) : Ending → World → Prop := fun e w' =>
  ∃ K', w' = K'.w ∧ HR G K' r.2 [] ∧ Stp K h K' r.2 ∧ match r.1, e with
    | .val v, .returned x => VR G.P K' v x
    | .pan v, .panicked ch => ∃ x, ch = [{ v := x, recovered := false }] ∧ VR G.P K' v x
    | _, _ => False

/-- the fence: none -/
def plainF (F : Fence) : Prop := F.plain = Fence.wide
theorem plainF_fn {F : Fence} (h : plainF F) : (∀ f, F.fn f) ∧ F.depth = none := by
  have h' : F.plain = Fence.wide := h
  constructor
  · intro f; have : F.plain.fn = Fence.wide.fn := by rw [h']
    show F.plain.fn f; rw [this]; trivial
  · show F.plain.depth = none; rw [h']; rfl

/-- a function that is ranged over -/
def Ranged (g : AV) (args : List AV) : Prop := isFn g = true ∧ ∃ l, .fn (.yield l) [] [] ∈ args

/-- what the model does with a call -/
def CallN (G : Gx) (K : Kx) (h : Heap) (N : Prop) (r : Ret × Heap) : Result Next → Prop
  | .ok (.value x) w' => ¬ N ∧ RetR G K h r (.returned x) w'
  | .ok (.enter f args) w' => ∀ F n, plainF F → CallsIn F n G.P f args w' (RetR G K h r)
  | .ok (.round l f tmps assign body) w' => ¬ N ∧ ∀ F n, plainF F → RoundIn F n G.P l f tmps assign body w' (RetR G K h r)
  | _ => False

def CallOk (G : Gx) (gl : Nat → Option (List AV)) (cf : CallFn) : Prop :=
  ∀ g args h r, cf g args h = some r → ∀ K fv avs, HR G K h [] → h.wf → GlOk G.P K gl → VR G.P K g fv → VRs G.P K args avs →
    CallN G K h (Ranged g args) r ((do let d ← Deferred.ofValue fv avs.toArray; invoke d.target d.args : Sem Next).run G.P K.w)

/-- variables, heap, deferred calls -/
structure SR (G : Gx) (V : Vn) (m : Option Nat) (K : Kx) (a : Act) (vs : List AV) (h : Heap) (ds : Defs) : Prop where
  slots : Slots G.P K V.vsl vs a.tmps
  nt : V.nt ≤ a.tmps.size
  hr : HR G K h []
  wf : h.wf
  dfr : DRs G.P K m ds a.defers
  gl : GlOk G.P K V.gl

/-- the results of a region's operations, the newest first -/
def Stk (P : Program) (K : Kx) (a : Act) (stk : List AV) (ds : List (Option Nat)) : Prop :=
  ∀ t j, idxO t ds = some j → ∃ v x, stk[j]? = some v ∧ a.tmps[t]? = some x ∧ VR P K v x

theorem idxN_some {t : Nat} {l : List Nat} {i : Nat} (h : idxN t l = some i) : l[i]? = some t := by
  induction l generalizing i with
  | nil => cases h
  | cons x l ih =>
    unfold idxN at h
    split at h
    · rename_i e; cases h; simp [e]
    · rw [Option.map_eq_some_iff] at h; obtain ⟨j, h1, rfl⟩ := h; simpa using ih h1
theorem idxN_none {t : Nat} {l : List Nat} (h : idxN t l = none) : t ∉ l := by
  induction l with
  | nil => simp
  | cons x l ih =>
    unfold idxN at h
    split at h
    · cases h
    · rename_i e; rw [Option.map_eq_none_iff] at h; simp [ih h, Ne.symm e]

section
variable {G : Gx} {V : Vn} {m : Option Nat} {K : Kx} {a : Act} {stk vs : List AV} {ds : List (Option Nat)} {h : Heap} {dfs : Defs}

theorem ops_ok (hs : SR G V m K a vs h dfs) (ht : Stk G.P K a stk ds) : OpsOk G.P K (compX V ds) stk vs a.eval := by
  intro x f v hc hf
  cases x with
  | tmp t =>
    simp only [compX] at hc
    split at hc
    · rename_i j hj
      cases hc
      obtain ⟨v', x, h1, h2, h3⟩ := ht t j hj
      have hf' : getL stk j = some v := hf
      rw [getL_eq, h1] at hf'
      cases hf'
      show VR G.P K v (a.tmps.getD t undef)
      rw [Array.getD_eq_getD_getElem?, h2]; exact h3
    · rw [Option.map_eq_some_iff] at hc
      obtain ⟨i, hi, rfl⟩ := hc
      obtain ⟨v', x, h1, h2, h3⟩ := hs.slots.2 i t (idxN_some hi)
      have hf' : getL vs i = some v := hf
      rw [getL_eq, h1] at hf'
      cases hf'
      show VR G.P K v (a.tmps.getD t undef)
      rw [Array.getD_eq_getD_getElem?, h2]; exact h3
  | const c =>
    simp only [compX, Option.map_eq_some_iff] at hc
    obtain ⟨u, hu, rfl⟩ := hc
    cases hf
    exact ofValue_ok hu
  | global g =>
    simp only [compX, Option.map_eq_some_iff] at hc
    obtain ⟨cs, hu, rfl⟩ := hc
    cases hf
    obtain ⟨cvs, h1, h2, h3, h4⟩ := hs.gl g cs hu
    have := VR.iptr cs 0 g 0 cvs h1 h2 h3 h4
    simpa [Act.eval] using this
  | func f =>
    cases hc
    cases hf
    exact VR.fn f [] [] [] [] .nil .nil

theorem put_tmps (a : Act) (d : Option Nat) (v : Value) (t : Nat) : (a.put d v).tmps[t]? = if d = some t ∧ t < a.tmps.size then some v else a.tmps[t]? := by
  cases d with
  | none => simp [Act.put]
  | some d =>
    show (a.tmps.setIfInBounds d v)[t]? = _
    rw [Array.getElem?_setIfInBounds]
    by_cases h : d = t
    · subst h
      by_cases h2 : d < a.tmps.size
      · simp [h2]
      · simp [h2]
    · simp [h]
theorem put_size (a : Act) (d : Option Nat) (v : Value) : (a.put d v).tmps.size = a.tmps.size := by
  cases d <;> simp [Act.put]
theorem put_defers (a : Act) (d : Option Nat) (v : Value) : (a.put d v).defers = a.defers := by cases d <;> rfl

/-- a result is put in its place -/
theorem put_ok {K' : Kx} {h' : Heap} (hv : V.vsl.Nodup) (hs : SR G V m K a vs h dfs) (hk : Kle K K') (hr : HR G K' h' []) (hw : h'.wf) {dst : Option Nat} (hd : dstOk V dst = true) {v : AV} {x : Value} (hx : VR G.P K' v x)
    {dfs' : Defs} {a' : Act} (ha : a'.tmps = a.tmps) (hdf : DRs G.P K' m dfs' a'.defers) : SR G V m K' (a'.put dst x) (putV vs (dst.bind (idxN · V.vsl)) v) h' dfs' := by
  refine ⟨⟨?_, fun i t hi => ?_⟩, by rw [put_size, ha]; exact hs.nt, hr, hw, by rw [put_defers]; exact hdf, hs.gl.mono hk⟩
  · cases hb : dst.bind (idxN · V.vsl) with
    | none => exact hs.slots.1
    | some j => show (set1 vs j v).length = _; rw [set1_eq, List.length_set]; exact hs.slots.1
  · obtain ⟨v', y, h1, h2, h3⟩ := hs.slots.2 i t hi
    rw [put_tmps, ha]
    by_cases hdt : dst = some t
    · subst hdt
      have hlt : t < a.tmps.size := by simp [dstOk] at hd; exact Nat.lt_of_lt_of_le hd hs.nt
      rw [if_pos ⟨rfl, hlt⟩]
      cases hb : idxN t V.vsl with
      | none => exact absurd (List.mem_of_getElem? hi) (idxN_none hb)
      | some j =>
        have hj := idxN_some hb
        have : i = j := by
          obtain ⟨h5, h5'⟩ := (List.getElem?_eq_some_iff.1 hi)
          obtain ⟨h6, h6'⟩ := (List.getElem?_eq_some_iff.1 hj)
          have hp := List.pairwise_iff_getElem.1 hv
          rcases Nat.lt_trichotomy i j with h7 | h7 | h7
          · exact absurd (h5'.trans h6'.symm) (hp i j h5 h6 h7)
          · exact h7
          · exact absurd (h6'.trans h5'.symm) (hp j i h6 h5 h7)
        subst this
        refine ⟨v, x, ?_, rfl, hx⟩
        show (putV vs ((some t).bind (idxN · V.vsl)) v)[i]? = some v
        simp only [Option.bind_some, hb]
        show (set1 vs i v)[i]? = some v
        rw [set1_eq, List.getElem?_set, if_pos rfl, if_pos (List.getElem?_eq_some_iff.1 h1).1]
    · rw [if_neg (fun h => hdt h.1)]
      refine ⟨v', y, ?_, h2, h3.mono hk⟩
      cases hb : dst.bind (idxN · V.vsl) with
      | none => exact h1
      | some j =>
        show (set1 vs j v)[i]? = some v'
        rw [set1_eq, List.getElem?_set, if_neg]
        · exact h1
        · intro e
          subst e
          cases dst with
          | none => cases hb
          | some d =>
            have := idxN_some hb
            rw [hi] at this; cases this
            exact hdt rfl

theorem stk_ok {K' : Kx} (hs : SR G V m K a vs h dfs) (ht : Stk G.P K a stk ds) (hk : Kle K K') {dst : Option Nat} (hd : dstOk V dst = true) {v : AV} {x : Value} (hx : VR G.P K' v x) {a' : Act} (ha : a'.tmps = a.tmps) : Stk G.P K' (a'.put dst x) (v :: stk) (dst :: ds) := by
  intro t j hj
  rw [put_tmps, ha]
  unfold idxO at hj
  split at hj
  · rename_i e
    cases hj
    subst e
    have hlt : t < a.tmps.size := by simp [dstOk] at hd; exact Nat.lt_of_lt_of_le hd hs.nt
    rw [if_pos ⟨rfl, hlt⟩]
    exact ⟨v, x, rfl, rfl, hx⟩
  · rename_i e
    rw [Option.map_eq_some_iff] at hj
    obtain ⟨j', hj', rfl⟩ := hj
    rw [if_neg (fun h => e h.1)]
    obtain ⟨v', y, h1, h2, h3⟩ := ht t j' hj'
    exact ⟨v', y, by simpa using h1, h2, h3.mono hk⟩

theorem guard_ok (ht : Stk G.P K a stk ds) {all : Array Oper} {g : Option (Nat × Bool)} {c : Option (OF × Bool)} {b : Bool} (hc : compG all ds g = some c) (hb : guardOk c stk vs = some b) (o : Oper) (ho : o.guard = g) :
    Region.wanted o (yielded all a.tmps) = b := by
  unfold Region.wanted
  rw [ho]
  cases g with
  | none => cases hc; cases hb; rfl
  | some g =>
    obtain ⟨j, want⟩ := g
    simp only [compG] at hc
    split at hc
    · rename_i t hj
      rw [Option.map_eq_some_iff] at hc
      obtain ⟨p, hp, rfl⟩ := hc
      obtain ⟨v, x, h1, h2, h3⟩ := ht t p hp
      have hb' : ob (getL stk p) (guardB want) = some b := hb
      rw [getL_eq, h1] at hb'
      have hb' : guardB want v = some b := hb'
      simp only
      unfold yielded
      rw [hj, Option.bind_some]
      simp only [h2]
      unfold guardB at hb'
      split at hb'
      · simp only [bif_eq, Option.some.injEq] at hb'
        subst hb'
        cases h3
        rename_i q
        cases want <;> cases q <;> rfl
      · cases h3
        cases hb'
        rfl
      · cases hb'
    · cases hc


/-! The shape of the operations that are no plain ones. -/
theorem comp_call {P : Program} {co : CoF} {o : Op} {f : OF} {args : List OF} (hc : compOp P co o = some (.call f args)) :
    ∃ c x, o = .call c ∧ c.callee = .value x ∧ co x = some f ∧ coL co c.args.toList = some args := by
  unfold compOp at hc
  split at hc
  all_goals first
    | (simp at hc; done)
    | (split at hc <;> simp at hc; done)
    | (unfold cBuild at hc; repeat' split at hc
       all_goals first | (simp at hc; done))
    | (unfold cBuildSlice at hc; repeat' split at hc
       all_goals first | (simp at hc; done))
    | (unfold cMakeSlice at hc; repeat' split at hc
       all_goals first | (simp at hc; done))
    | (unfold cSlice at hc; repeat' split at hc
       all_goals first | (simp at hc; done))
    | (unfold cSlice3 at hc; repeat' split at hc
       all_goals first | (simp at hc; done))
    | (unfold cFieldAddr at hc; repeat' split at hc
       all_goals first | (simp at hc; done))
    | (unfold cField at hc; repeat' split at hc
       all_goals first | (simp at hc; done))
    | (unfold cIndexAddr at hc; repeat' split at hc
       all_goals first | (simp at hc; done))
    | (unfold cIndex at hc; repeat' split at hc
       all_goals first | (simp at hc; done))
    | (unfold cLookup at hc; repeat' split at hc
       all_goals first | (simp at hc; done))
    | (unfold cTypeAssert at hc; repeat' split at hc
       all_goals first | (simp at hc; done))
    | (unfold cMapUpdate at hc; repeat' split at hc
       all_goals first | (simp at hc; done))
    | (unfold cMapEntry at hc; repeat' split at hc
       all_goals first | (simp at hc; done))
    | skip
  · split at hc
    · split at hc <;> simp at hc
    · cases hc
  · rename_i c
    split at hc
    · rename_i x hx
      split at hc
      · rename_i g as hg has
        cases hc
        exact ⟨c, x, rfl, hx, hg, has⟩
      · cases hc
    · split at hc
      · unfold cBuiltin at hc
        split at hc
        · unfold cAppend at hc; repeat' split at hc
          all_goals simp at hc
        · unfold cLen at hc; repeat' split at hc
          all_goals simp at hc
        · simp at hc
        · simp at hc
        · split at hc <;> simp at hc
        · repeat' split at hc
          all_goals simp at hc
        · simp at hc
        · simp at hc
        · cases hc
      · cases hc
    · cases hc

end
end Hx

/- One operation of a region. -/
namespace Hx
open Go

section
variable {G : Gx} {V : Vn} {m : Option Nat} {K : Kx} {a : Act} {stk vs : List AV} {ds : List (Option Nat)} {h : Heap} {dfs : Defs}

theorem comp_none {P : Program} {co : CoF} {o : Op} {k : OpK} (hc : compOp P co o = some k) :
    (∃ f, k = .a f) ∨ (∃ f, k = .e f) ∨ (∃ f args c x, k = .call f args ∧ o = .call c ∧ c.callee = .value x ∧ co x = some f ∧ coL co c.args.toList = some args) ∨
      (∃ f args c x, k = .dfr f args ∧ o = .defer c ∧ c.callee = .value x ∧ co x = some f ∧ coL co c.args.toList = some args) ∨
      (∃ f x, k = .pan f ∧ co x = some f ∧ (o = .panic x ∨ ∃ c, o = .call c ∧ c.callee = .builtin .panic ∧ c.args.toList = [x])) ∨ (k = .rcv ∧ ∃ c, o = .call c ∧ c.callee = .builtin .recover ∧ c.args.toList = []) := by
  unfold compOp at hc
  split at hc
  all_goals first
    | (simp only [Option.map_eq_some_iff] at hc; obtain ⟨_, _, rfl⟩ := hc; exact .inl ⟨_, rfl⟩)
    | (split at hc <;> first | (cases hc; done) | (cases hc; exact .inl ⟨_, rfl⟩) | (cases hc; exact .inr (.inl ⟨_, rfl⟩)))
    | (unfold cBuild at hc; repeat' split at hc
       all_goals first | (cases hc; done) | (simp only [Option.map_eq_some_iff] at hc; obtain ⟨_, _, rfl⟩ := hc; exact .inl ⟨_, rfl⟩))
    | (unfold cBuildSlice at hc; repeat' split at hc
       all_goals first | (cases hc; done) | (cases hc; exact .inl ⟨_, rfl⟩))
    | (unfold cMakeSlice at hc; repeat' split at hc
       all_goals first | (cases hc; done) | (cases hc; exact .inl ⟨_, rfl⟩))
    | (unfold cSlice at hc; repeat' split at hc
       all_goals first | (cases hc; done) | (simp only [Option.map_eq_some_iff] at hc; obtain ⟨_, _, rfl⟩ := hc; exact .inl ⟨_, rfl⟩))
    | (unfold cSlice3 at hc; repeat' split at hc
       all_goals first | (cases hc; done) | (simp only [Option.map_eq_some_iff] at hc; obtain ⟨_, _, rfl⟩ := hc; exact .inl ⟨_, rfl⟩))
    | (unfold cFieldAddr at hc; repeat' split at hc
       all_goals first | (cases hc; done) | (cases hc; exact .inl ⟨_, rfl⟩))
    | (unfold cField at hc; repeat' split at hc
       all_goals first | (cases hc; done) | (cases hc; exact .inl ⟨_, rfl⟩))
    | (unfold cIndexAddr at hc; repeat' split at hc
       all_goals first | (cases hc; done) | (simp only [Option.map_eq_some_iff] at hc; obtain ⟨_, _, rfl⟩ := hc; exact .inl ⟨_, rfl⟩))
    | (unfold cIndex at hc; repeat' split at hc
       all_goals first | (cases hc; done) | (cases hc; exact .inl ⟨_, rfl⟩))
    | (unfold cLookup at hc; repeat' split at hc
       all_goals first | (cases hc; done) | (simp only [Option.map_eq_some_iff] at hc; obtain ⟨_, _, rfl⟩ := hc; exact .inl ⟨_, rfl⟩))
    | (unfold cTypeAssert at hc; repeat' split at hc
       all_goals first | (cases hc; done) | (cases hc; exact .inl ⟨_, rfl⟩))
    | (unfold cMapUpdate at hc; repeat' split at hc
       all_goals first | (cases hc; done) | (cases hc; exact .inr (.inl ⟨_, rfl⟩)))
    | (unfold cMapEntry at hc; repeat' split at hc
       all_goals first | (cases hc; done) | (simp only [Option.map_eq_some_iff] at hc; obtain ⟨_, _, rfl⟩ := hc; exact .inr (.inl ⟨_, rfl⟩)))
    | skip
  · cases hc; exact .inl ⟨_, rfl⟩
  · -- panic
    simp only [Option.map_eq_some_iff] at hc
    obtain ⟨f, hf, rfl⟩ := hc
    exact .inr (.inr (.inr (.inr (.inl ⟨f, _, rfl, hf, .inl rfl⟩))))
  · -- defer
    rename_i c
    split at hc
    · rename_i x hx
      split at hc
      · rename_i g as hg has
        cases hc
        exact .inr (.inr (.inr (.inl ⟨_, _, c, x, rfl, rfl, hx, hg, has⟩)))
      · cases hc
    · cases hc
  · rename_i c
    split at hc
    · rename_i x hx
      split at hc
      · rename_i g as hg has
        cases hc
        exact .inr (.inr (.inl ⟨_, _, c, x, rfl, rfl, hx, hg, has⟩))
      · cases hc
    · rename_i b hb
      split at hc
      · rename_i as has
        unfold cBuiltin at hc
        split at hc
        · unfold cAppend at hc; repeat' split at hc
          all_goals first | (cases hc; done) | (cases hc; exact .inl ⟨_, rfl⟩)
        · unfold cLen at hc; repeat' split at hc
          all_goals first | (cases hc; done) | (cases hc; exact .inl ⟨_, rfl⟩)
        · cases hc; exact .inl ⟨_, rfl⟩
        · cases hc; exact .inl ⟨_, rfl⟩
        · split at hc
          · simp only [Option.map_eq_some_iff] at hc; obtain ⟨_, _, rfl⟩ := hc; exact .inr (.inl ⟨_, rfl⟩)
          · cases hc
        · repeat' split at hc
          all_goals first | (cases hc; done) | (cases hc; exact .inr (.inl ⟨_, rfl⟩))
        · cases hc
          obtain ⟨a1, r1, e1, hs1, hr1⟩ := coL_cons has
          have e3 := coL_nil hr1
          subst e3
          exact .inr (.inr (.inr (.inr (.inl ⟨_, a1, rfl, hs1, .inr ⟨c, rfl, hb, e1⟩⟩))))
        · cases hc
          exact .inr (.inr (.inr (.inr (.inr ⟨rfl, c, rfl, hb, coL_nil has⟩))))
        · cases hc
      · cases hc
    · cases hc
  · cases hc


theorem kills_ext (ks : List Nat) (h : Heap) : HExt h (h.kills ks) := by
  refine ⟨by rw [Heap.next_kills]; exact Nat.le_refl _, (Heap.low_kills ks h).1, fun b _ hb => ?_, fun b _ hb => ?_⟩
  · rw [Heap.get_kills, if_neg]
    intro hm
    have := (Heap.low_kills ks h).2 b hm
    omega
  · rw [Heap.get_kills]; split
    · rfl
    · exact hb
theorem kills_wf (ks : List Nat) {h : Heap} (hw : h.wf) : (h.kills ks).wf := fun i hi => by
  rw [Heap.next_kills] at hi
  rw [Heap.get_kills, hw i hi]; simp
theorem grows_ext {h h' : Heap} (hg : Grows h h') : HExt h h' := by
  rcases hg with rfl | ⟨x, rfl⟩
  · exact HExt.refl _
  · exact HExt.push _ _
theorem grows_wf {h h' : Heap} (hg : Grows h h') (hw : h.wf) : h'.wf := by
  rcases hg with rfl | ⟨x, rfl⟩
  · exact hw
  · exact Heap.wf_push hw _
theorem grows_sub {h h' : Heap} (hg : Grows h h') (hw : h.wf) : Sub h h' := by
  rcases hg with rfl | ⟨x, rfl⟩
  · exact Sub.refl _
  · exact Sub.push hw _
theorem grows_hr {h h' : Heap} {ks : List Nat} (hg : Grows h h') (hr : HR G K h ks) : HR G K h' ks := by
  rcases hg with rfl | ⟨x, rfl⟩
  · exact hr
  · exact hr.pushed x
theorem grows_same {h h' : Heap} (hg : Grows h h') {b : Nat} (hb : b < h.next) : h'.get b = h.get b := by
  rcases hg with rfl | ⟨x, rfl⟩
  · rfl
  · rw [Heap.get_push, if_neg (by omega)]
theorem puts_ext {h h' : Heap} (hp : Puts h h') : HExt h h' := by
  rcases hp with rfl | ⟨b, x, hb, rfl⟩
  · exact HExt.refl _
  · exact HExt.alter _ _ _ (.inl hb)
theorem puts_wf {h h' : Heap} (hp : Puts h h') (hw : h.wf) : h'.wf := by
  rcases hp with rfl | ⟨b, x, hb, rfl⟩
  · exact hw
  · intro i hi
    rw [show (h.put b x).next = h.next from Heap.next_alter _ _ _] at hi
    rw [show (h.put b x).get i = if i = b then some x else h.get i from Heap.get_alter _ _ _ _]
    split
    · rename_i e; subst e; rw [hw _ hi] at hb; cases hb
    · exact hw i hi
theorem killO_kills (h : Heap) (k : Option Nat) : h.killO k = h.kills k.toList := by cases k <;> rfl

/-- a plain operation in sequence -/
theorem astep_ok {co : CoF} (hco : OpsOk G.P K co stk vs a.eval) (hr : HR G K h []) (hwf : h.wf) {o : Oper} {f : AF} (hc : compOp G.P co o.op = some (.a f)) {v : AV} {h' : Heap} {kill : Option Nat} (hf : f stk vs h = some (v, h', kill)) :
    ∃ x K', (execOp a.eval o).run G.P K.w = .ok (.value x) K'.w ∧ VR G.P K' v x ∧ HR G K' (h'.killO kill) [] ∧ Stp K h K' (h'.killO kill) := by
  have hg := (aop_grows hc _ _ _ _ _ _ hf).1
  have hr' := grows_hr hg hr
  obtain ⟨⟨x, K1, h1, h2, h3, h4, h5⟩, _⟩ := aop_ok hco hc hf hr' hwf (fun _ => hr.fresh) (Sub.refl _) (Nat.le_refl _) (fun b _ => by simp)
  obtain ⟨h6, h7⟩ := h3.kills
  rw [killO_kills]
  simp only [List.append_nil] at h3 h4 h6 h7
  refine ⟨x, K1.end_ G (h'.kills kill.toList), h1, h2.mono h7.le, h6, ⟨?_, (grows_ext hg).trans (kills_ext _ _), fun hw => kills_wf _ (grows_wf hg hw), fun b hb => (h5 b hb).imp id fun e => by omega⟩⟩
  have same : ∀ b, K.D b → h.get b = h'.get b := fun b hb => (grows_same hg (hr.lt b hb)).symm
  have t1 : Tn (fun i => (h'.kills kill.toList).low ≤ i) h' K K1 := h4.mono fun i hi => (Heap.low_kills _ _).2 i hi
  exact (t1.heap same).trans (h7.mono fun i hi => hi.elim) fun b hb => by rw [same b hb]; exact ⟨fun _ h => h, fun h => h⟩

theorem step_ok {cf : CallFn} {F : Fence} {n : Nat} {rd : Bool} (hF : plainF F) (hrd : F.round = none ∨ rd = true) (hcf : CallOk G V.gl cf) (hv : V.vsl.Nodup) (hs : SR G V m K a vs h dfs) (ht : Stk G.P K a stk ds) {o : Oper} {k : OpK}
    (hk : compOp G.P (compX V ds) o.op = some k) (hro : (rd && isDfr o.op) = false) (hd : dstOk V o.dst = true) {r : OR} (hev : evStep cf stk vs h dfs k = some r) {next : Act → World → Prop} {Q : Exit → Act → World → Prop}
    (hval : ∀ v h' dfs', r = .val v h' dfs' → ∀ K' a', Stp K h K' h' → SR G V m K' a' (putV vs (o.dst.bind (idxN · V.vsl)) v) h' dfs' → Stk G.P K' a' (v :: stk) (o.dst :: ds) → next a' K'.w)
    (hpan : ∀ v h', r = .pan v h' → ∀ K' x, Stp K h K' h' → HR G K' h' [] → VR G.P K' v x → Q (.panic [{ v := x, recovered := false }]) a K'.w) :
    o.wpIn F n G.P a K.w next Q := by
  have hco := ops_ok hs ht
  refine ⟨fun f _ => (plainF_fn hF).1 f, ?_⟩
  have done : ∀ {v h' dfs'} {K' : Kx} {x : Value} {a' : Act}, r = .val v h' dfs' → Stp K h K' h' → HR G K' h' [] → VR G.P K' v x → a'.tmps = a.tmps → DRs G.P K' m dfs' a'.defers → next (a'.put o.dst x) K'.w := by
    intro v h' dfs' K' x a' hr st hr' hx ha hdf
    exact hval v h' dfs' hr K' _ st (put_ok hv hs st.tn.le hr' (st.wf hs.wf) hd hx ha hdf) (stk_ok hs ht st.tn.le hd hx ha)
  rcases comp_none hk with ⟨f, rfl⟩ | ⟨f, rfl⟩ | ⟨f, args, c, x, rfl, ho, hcal, hx, has⟩ | ⟨f, args, c, x, rfl, ho, hcal, hx, has⟩ | ⟨f, x, rfl, hx, ho⟩ | ⟨rfl, _⟩
  · -- plain
    simp only [evStep, ob_some, Option.some.injEq] at hev
    obtain ⟨⟨v, h', kill⟩, hf, rfl⟩ := hev
    obtain ⟨x, K', h1, h2, h3, h4⟩ := astep_ok hco hs.hr hs.wf hk hf
    rw [Oper.semAt_eq _ _ _ (fun c hc => by rw [hc] at hk; simp [compOp] at hk; split at hk <;> (try split at hk) <;> cases hk), h1]
    exact done rfl h4 h3 h2 rfl (hs.dfr.mono h4.tn.le)
  · -- turns memory
    simp only [evStep, ob_some, Option.some.injEq] at hev
    obtain ⟨⟨v, h'⟩, hf, rfl⟩ := hev
    obtain ⟨⟨nx, x, K', h1, h2, h3, h4, h5⟩, h6⟩ := eop_ok hco hk hf hs.hr
    have st : Stp K h K' h' := ⟨h4, puts_ext h6, puts_wf h6, fun b hb => .inl (h5.2 b hb)⟩
    rw [Oper.semAt_eq _ _ _ (fun c hc => by rw [hc] at hk; simp [compOp] at hk; split at hk <;> (try split at hk) <;> cases hk), h1]
    rcases h2 with rfl | ⟨rfl, rfl⟩
    · exact done rfl st h5.1 h3 rfl (hs.dfr.mono h4.le)
    · exact done rfl st h5.1 h3 rfl (hs.dfr.mono h4.le)
  · -- call
    simp only [evStep, ob_some, Option.some.injEq] at hev
    obtain ⟨g, hg, as, has', rr, hrr, rfl⟩ := hev
    have h1 := hcf g as h rr hrr K (a.eval x) (c.args.toList.map a.eval) hs.hr hs.wf hs.gl (hco _ _ _ hx hg) (coL_ok hco has has')
    rw [Oper.semAt_eq _ _ _ (fun c' hc' => by rw [ho] at hc'; cases hc')]
    have e : (execOp a.eval o).run G.P K.w = (do let d ← Deferred.ofValue (a.eval x) (c.args.toList.map a.eval).toArray; invoke d.target d.args : Sem Next).run G.P K.w := by
      have : (c.args.toList.map a.eval).toArray = c.args.map a.eval := by apply Array.ext'; simp
      rw [this]
      simp [execOp, ho, resolve, hcal]
    rw [e]
    have ret : ∀ e w', RetR G K h rr e w' → (match e, w' with
        | .returned v, w'' => next (a.put o.dst v) w''
        | .panicked chain, w'' => Q (.panic chain) a w''
        | .outgrown, _ => LetsOut Q) := by
      rintro e w' ⟨K', rfl, h2, h3, h4⟩
      obtain ⟨rt, h'⟩ := rr
      cases rt with
      | val v =>
        cases e with
        | returned y => exact done rfl h3 h2 h4 rfl (hs.dfr.mono h3.tn.le)
        | panicked ch => exact h4.elim
        | outgrown => exact h4.elim
      | pan v =>
        cases e with
        | returned y => exact h4.elim
        | panicked ch =>
          obtain ⟨y, rfl, h5⟩ := h4
          exact hpan v h' rfl K' y h3 h2 h5
        | outgrown => exact h4.elim
    generalize (do let d ← Deferred.ofValue (a.eval x) (c.args.toList.map a.eval).toArray; invoke d.target d.args : Sem Next).run G.P K.w = res at h1 ⊢
    cases res with
    | halt hh w' => exact h1.elim
    | ok nx w' =>
      cases nx with
      | value y => exact ret (.returned y) w' h1.2
      | enter f' args' =>
        refine ⟨fun hd => (by rw [(plainF_fn hF).2] at hd; cases hd), (h1 F _ hF).mono fun e w'' he => ?_⟩
        have := ret e w'' he
        cases e <;> exact this
      | round l f' tmps as' b =>
        refine ⟨fun hd => (by rw [(plainF_fn hF).2] at hd; cases hd), (h1.2 F _ hF).mono fun e w'' he => ?_⟩
        have := ret e w'' he
        cases e <;> exact this
      | _ => exact h1.elim
  · -- defer
    simp only [evStep, ob_some] at hev
    obtain ⟨g, hg, hev⟩ := hev
    have hround : F.round = none := by
      rcases hrd with h1 | h1
      · exact h1
      · rw [h1, ho] at hro; simp [isDfr] at hro
    rw [hround, Oper.semAt_none]
    have hfv := hco _ _ _ hx hg
    split at hev
    · rename_i f0 a0 c0
      simp only [ob_some, Option.some.injEq] at hev
      obtain ⟨as, has', rfl⟩ := hev
      have hav := coL_ok hco has has'
      have e1 : (c.args.toList.map a.eval).toArray = c.args.map a.eval := by apply Array.ext'; simp
      generalize hρ : a.eval x = y at hfv
      cases hfv with
      | fn _ _ _ va vc h1 h2 =>
        have e : (execOp a.eval o).run G.P K.w = .ok (.defer { target := .fn (.func f0) vc.toArray, args := va.toArray ++ (c.args.toList.map a.eval).toArray }) K.w := by
          simp [execOp, ho, resolve, hcal, hρ, Deferred.ofValue]
        rw [e]
        exact done (a' := { a with defers := _ :: a.defers }) rfl (Stp.refl _ _) hs.hr VR.undef rfl (.cons _ _ _ _ (.mk f0 a0 c0 as va vc _ h1 h2 hav) hs.dfr)
    · cases hev
  · -- panic
    simp only [evStep, ob_some, Option.some.injEq] at hev
    obtain ⟨v, hv', v', hv2, rfl⟩ := hev
    have hx' := hco _ _ _ hx hv'
    unfold asIfc at hv2
    split at hv2
    · rename_i t u
      cases hv2
      generalize hρ : a.eval x = y at hx'
      cases hx' with
      | ifc _ _ z hz =>
        have hP := hpan _ _ rfl K (.iface t z) (Stp.refl _ _) hs.hr (.ifc _ _ _ hz)
        rw [Oper.semAt_eq _ _ _ (fun c' hc' => by rcases ho with ho | ⟨c, ho, _⟩ <;> rw [ho] at hc' <;> cases hc')]
        have e : (execOp a.eval o).run G.P K.w = .halt (.panic (.iface t z)) K.w := by
          rcases ho with ho | ⟨c, ho, hcal, hargs⟩
          · simp [execOp, ho, hρ, Instr.panic, goPanic]
          · obtain ⟨dst, op, type, pos, after, guard⟩ := o
            simp only at ho
            subst ho
            obtain ⟨consts, hrun⟩ := run_call_builtin (P := G.P) a.eval c .panic hcal dst type pos after guard
            rw [hrun]
            have : c.args.map a.eval = #[.iface t z] := by apply Array.ext'; simp [hargs, hρ]
            rw [this]
            rfl
        rw [e]
        exact hP
    · cases hv2
  · cases hev

end

theorem compOpB_some {P : Program} {co : CoF} {o : Op} {k : OpK} (h : compOpB P co o = some k) : compOp P co o = some k ∨ k = .bad := by
  unfold compOpB at h
  cases hc : compOp P co o with
  | none => rw [hc] at h; cases h; exact .inr rfl
  | some k' => rw [hc] at h; cases h; exact .inl rfl
end Hx

/- Code: the machine's commands are the model's walk. -/
namespace Hx
open Go

/-- how a piece of code is left -/
def ExR (P : Program) (K : Kx) : Ex → Exit → Prop
  | .normal, .normal => True
  | .exit i, .exit j => i = j
  | .goto i, .goto j => i = j
  | .ret, .ret => True
  | .panic v, .panic ch => ∃ x, ch = [{ v := x, recovered := false }] ∧ VR P K v x
  | _, _ => False

theorem ExR.mono {P : Program} {K K' : Kx} (hk : Kle K K') {x : Ex} {e : Exit} (h : ExR P K x e) : ExR P K' x e := by
  cases x <;> cases e <;> first
    | exact h
    | (obtain ⟨y, h1, h2⟩ := h; exact ⟨y, h1, h2.mono hk⟩)

/-- what is asked where a piece of code is left -/
def Post (G : Gx) (V : Vn) (m : Option Nat) (K : Kx) (h : Heap) (ex : Ex) (s' : St) (Q : Exit → Act → World → Prop) : Prop :=
  ∀ e a' K', Stp K h K' s'.h → SR G V m K' a' s'.vs s'.h s'.ds → ExR G.P K' ex e → Q e a' K'.w

/-- in a round: the loop's record is there; the heap is not smaller than where the function began -/
structure Cx (F : Fence) (m : Option Nat) (K : Kx) : Prop where
  rnd : ∀ l, F.round = some l → ∃ L : Loop, K.w.heap[l]? = some (.loop L)
  big : ∀ m0, m = some m0 → m0 ≤ K.w.heap.size
theorem Cx.mono {F : Fence} {m : Option Nat} {K K' : Kx} (hk : Kle K K') (h : Cx F m K) : Cx F m K' :=
  ⟨fun l hl => let ⟨L, h1⟩ := h.rnd l hl; hk.lps l L h1, fun m0 hm => Nat.le_trans (h.big m0 hm) hk.size⟩

def CmdOk (G : Gx) (V : Vn) (m : Option Nat) (F : Fence) (cf : CallFn) (L : Nat) (c : Code) (cmd : Cmd) : Prop :=
  ∀ n ex s' K a s Q, cmd cf L s = some (ex, s') → SR G V m K a s.vs s.h s.ds → Cx F m K → Post G V m K s.h ex s' Q → c.wpIn F n G.P Q a K.w

section
variable {G : Gx} {V : Vn} {m : Option Nat} {F : Fence} {cf : CallFn} {L : Nat}

theorem Post.step {K K1 : Kx} {h h1 : Heap} {ks : List Nat} {ex : Ex} {s' : St} {Q : Exit → Act → World → Prop} (hr : HR G K h ks) (st : Stp K h K1 h1) (hp : Post G V m K h ex s' Q) : Post G V m K1 h1 ex s' Q :=
  fun e a' K' st' hs he => hp e a' K' (st.trans hr st') hs he

theorem SR.mono {K K' : Kx} {a : Act} {vs : List AV} {h h' : Heap} {ds : Defs} (hs : SR G V m K a vs h ds) (st : Stp K h K' h') (hr : HR G K' h' []) : SR G V m K' a vs h' ds :=
  ⟨hs.slots.mono st.tn.le, hs.nt, hr, st.wf hs.wf, hs.dfr.mono st.tn.le, hs.gl.mono st.tn.le⟩

theorem seq_ok {rd : Bool} (hF : plainF F) (hrd : F.round = none ∨ rd = true) (hcf : CallOk G V.gl cf) (hv : V.vsl.Nodup) {all : Array Oper} {n : Nat} {ex : Ex} {s' : St} {Q : Exit → Act → World → Prop} :
    ∀ (l : List Oper) (i0 : Nat) (its : List IT) (ds : List (Option Nat)) (stk vs : List AV) (h : Heap) (dfs : Defs) (K : Kx) (a : Act), compIts G.P V rd all l ds = some its → (∀ j o, l[j]? = some o → all[i0 + j]? = some o) →
      evSeq cf its stk vs h dfs = some (ex, s') → SR G V m K a vs h dfs → Stk G.P K a stk ds → Post G V m K h ex s' Q → wpOpsIn F n G.P all Q (List.range' i0 l.length) a K.w
  | [], i0, its, ds, stk, vs, h, dfs, K, a, hc, _, he, hs, _, hp => by
    cases hc
    cases he
    exact hp .normal a K (Stp.refl _ _) hs trivial
  | o :: l, i0, its, ds, stk, vs, h, dfs, K, a, hc, hget, he, hs, ht, hp => by
    unfold compIts at hc
    split at hc
    · cases hc
    · rename_i hcond
      rw [Bool.not_eq_true, Bool.or_eq_false_iff, Bool.not_eq_false'] at hcond
      split at hc
      · rename_i k g its' hk hg hl
        cases hc
        have ho : all[i0]? = some o := by simpa using hget 0 o rfl
        have he' : ob (guardOk g stk vs) (fun b => bif_ b
          (ob (evStep cf stk vs h dfs k) fun r => match r with
            | .val v h ds => evSeq cf its' (v :: stk) (putV vs (o.dst.bind (idxN · V.vsl)) v) h ds
            | .pan v h => some (.panic v, ⟨vs, h, dfs⟩))
          (evSeq cf its' (undefA :: stk) (putV vs (o.dst.bind (idxN · V.vsl)) undefA) h dfs)) = some (ex, s') := he
        rw [ob_some] at he'
        obtain ⟨b, hb, he'⟩ := he'
        have hw := guard_ok ht hg hb o rfl
        have hget' : ∀ j o', l[j]? = some o' → all[i0 + 1 + j]? = some o' := fun j o' h => by
          have := hget (j + 1) o' (by simpa using h)
          rwa [show i0 + (j + 1) = i0 + 1 + j by omega] at this
        rw [List.length_cons, List.range'_succ]
        simp only [wpOpsIn, ho]
        cases b with
        | true =>
          rw [if_pos hw]
          have he2 : ob (evStep cf stk vs h dfs k) (fun r => match r with
            | .val v h ds => evSeq cf its' (v :: stk) (putV vs (o.dst.bind (idxN · V.vsl)) v) h ds
            | .pan v h => some (.panic v, ⟨vs, h, dfs⟩)) = some (ex, s') := he'
          rw [ob_some] at he2
          obtain ⟨r, hr, he2⟩ := he2
          have hk := (compOpB_some hk).resolve_right (fun e => by subst e; cases hr)
          refine step_ok hF hrd hcf hv hs ht hk hcond.1 hcond.2 hr (fun v h' dfs' e K' a' st hs' ht' => ?_) (fun v h' e K' x st hr' hx => ?_)
          · subst e
            exact seq_ok hF hrd hcf hv l (i0 + 1) its' _ _ _ _ _ K' a' hl hget' he2 hs' ht' (hp.step hs.hr st)
          · subst e
            cases he2
            exact hp _ a K' st (hs.mono st hr') ⟨x, rfl, hx⟩
        | false =>
          rw [if_neg (by rw [hw]; simp)]
          refine ⟨fun f _ => (plainF_fn hF).1 f, ?_⟩
          have he2 : evSeq cf its' (undefA :: stk) (putV vs (o.dst.bind (idxN · V.vsl)) undefA) h dfs = some (ex, s') := he'
          exact seq_ok hF hrd hcf hv l (i0 + 1) its' _ _ _ _ _ K (a.put o.dst undef) hl hget' he2 (put_ok hv hs (Kle.refl K) hs.hr hs.wf hcond.2 VR.undef rfl hs.dfr) (stk_ok hs ht (Kle.refl K) hcond.2 VR.undef rfl) hp
      · cases hc

theorem ops_cmd {rd : Bool} (hF : plainF F) (hrd : F.round = none ∨ rd = true) (hcf : CallOk G V.gl cf) (hv : V.vsl.Nodup) {id : Nat} {ops : Array Oper} {its : List IT} (hc : compIts G.P V rd ops ops.toList [] = some its) :
    CmdOk G V m F cf L (.region id ops false) (cOps its) := by
  intro n ex s' K a s Q he hs hcx hp
  refine wpIn_region ?_
  rw [List.range_eq_range']
  have := seq_ok (n := n) (Q := Q) hF hrd hcf hv ops.toList 0 its [] [] s.vs s.h s.ds K a hc (fun j o h => by simpa using h) he hs (fun t j h => by cases h) hp
  simpa using this

theorem loop_cmd {c : Code} {cmd : Cmd} (_hF : plainF F) (hb : CmdOk G V m F cf L c cmd) : CmdOk G V m F cf L (.loop c) (cLoop cmd) := by
  intro n ex s' K a s Q he hs hcx hp b k cs hro hbf hroom
  have key : ∀ (q : Nat) (K1 : Kx) (a1 : Act) (s1 : St), loopN (cmd cf L) q s1 = some (ex, s') → SR G V m K1 a1 s1.vs s1.h s1.ds → Cx F m K1 → Post G V m K1 s1.h ex s' Q →
      ∃ e a' w', Q e a' w' ∧ ArrivesIn (Machine.fenced G.P F) G.P (lone (b.atR a1 (.code c :: .inLoop c :: k)) cs K1.w) b k cs e a' w' := by
    intro q
    induction q with
    | zero => intro K1 a1 s1 he; cases he
    | succ q ih =>
      intro K1 a1 s1 he hs1 hcx1 hp1
      have he' : ob (cmd cf L s1) (fun r => match r with
        | (.normal, s) => loopN (cmd cf L) q s
        | r => some r) = some (ex, s') := he
      rw [ob_some] at he'
      obtain ⟨⟨ex1, s2⟩, h1, h2⟩ := he'
      have hround := hb n ex1 s2 K1 a1 s1 (fun e a' w' => ∃ K2, w' = K2.w ∧ Stp K1 s1.h K2 s2.h ∧ SR G V m K2 a' s2.vs s2.h s2.ds ∧ ExR G.P K2 ex1 e) h1 hs1 hcx1
        (fun e a' K' st hs' hx => ⟨K', rfl, st, hs', hx⟩)
      obtain ⟨e, a₁, w₁, ⟨K2, rfl, st, hs2, hx⟩, harr⟩ := hround b (.inLoop c :: k) cs hro hbf hroom
      cases ex1 with
      | normal =>
        cases e <;> simp only [ExR] at hx
        obtain ⟨e₂, a₂, w₂, hq₂, harr₂⟩ := ih K2 a₁ s2 h2 hs2 (hcx1.mono st.tn.le) (hp1.step hs1.hr st)
        exact ⟨e₂, a₂, w₂, hq₂, .of_steps (StepsIn.trans harr (.one (fenced_calm hbf hroom rfl) stepR_inLoop)) harr₂⟩
      | exit i =>
        simp only [Option.some.injEq, Prod.mk.injEq] at h2
        obtain ⟨rfl, rfl⟩ := h2
        have hq := hp1 e a₁ K2 st hs2 hx
        cases e <;> simp only [ExR] at hx
        exact ⟨_, a₁, _, hq, .pass (x := .inLoop c) rfl (fun _ _ => .inl (by simp)) harr⟩
      | goto l =>
        simp only [Option.some.injEq, Prod.mk.injEq] at h2
        obtain ⟨rfl, rfl⟩ := h2
        have hq := hp1 e a₁ K2 st hs2 hx
        cases e <;> simp only [ExR] at hx
        exact ⟨_, a₁, _, hq, .pass (x := .inLoop c) rfl (fun _ _ => .inl (by simp)) harr⟩
      | ret =>
        simp only [Option.some.injEq, Prod.mk.injEq] at h2
        obtain ⟨rfl, rfl⟩ := h2
        have hq := hp1 e a₁ K2 st hs2 hx
        cases e <;> simp only [ExR] at hx
        exact ⟨_, a₁, _, hq, .pass (x := .inLoop c) rfl (fun _ _ => .inl (by simp)) harr⟩
      | panic v =>
        simp only [Option.some.injEq, Prod.mk.injEq] at h2
        obtain ⟨rfl, rfl⟩ := h2
        have hq := hp1 e a₁ K2 st hs2 hx
        cases e <;> simp only [ExR] at hx
        exact ⟨_, a₁, _, hq, .pass (x := .inLoop c) rfl (fun _ _ => .inl (by simp)) harr⟩
  obtain ⟨e, a', w', hq, harr⟩ := key L K a s he hs hcx hp
  exact ⟨e, a', w', hq, .of_steps (.one (fenced_calm hbf hroom rfl) stepR_loop) harr⟩

theorem seq_cmd {c d : Code} {x y : Cmd} (hx : CmdOk G V m F cf L c x) (hy : CmdOk G V m F cf L d y) : CmdOk G V m F cf L (.seq c d) (cSeq x y) := by
  intro n ex s' K a s Q he hs hcx hp
  have he' : thenR (x cf L s) (y cf L) = some (ex, s') := he
  unfold thenR at he'
  rw [ob_some] at he'
  obtain ⟨⟨ex1, s1⟩, h1, h2⟩ := he'
  refine wpIn_seq (hx n ex1 s1 K a s _ h1 hs hcx fun e a' K' st hs' hxe => ?_)
  cases ex1 with
  | normal =>
    cases e <;> simp only [ExR] at hxe
    exact hy n ex s' K' a' s1 Q h2 hs' (hcx.mono st.tn.le) (hp.step hs.hr st)
  | _ =>
    simp only [Option.some.injEq, Prod.mk.injEq] at h2
    obtain ⟨rfl, rfl⟩ := h2
    have hq := hp e a' K' st hs' hxe
    cases e <;> simp only [ExR] at hxe <;> exact hq

theorem cnd_cmd {o : Operand} {f : OF} {c d : Code} {x y : Cmd} (hf : compX V [] o = some f) (hx : CmdOk G V m F cf L c x) (hy : CmdOk G V m F cf L d y) : CmdOk G V m F cf L (.cond o c d) (cCnd f x y) := by
  intro n ex s' K a s Q he hs hcx hp
  have he' : ob (f [] s.vs) (fun v => match v with
    | .bool t => bif_ t (x cf L s) (y cf L s)
    | _ => none) = some (ex, s') := he
  rw [ob_some] at he'
  obtain ⟨v, hv, he'⟩ := he'
  have hvr := ops_ok hs (stk := []) (ds := []) (fun t j h => by cases h) _ _ _ hf hv
  split at he'
  · rename_i t
    generalize hρ : a.eval o = z at hvr
    cases hvr
    refine wpIn_cond hρ ?_
    rw [bif_eq] at he'
    cases t with
    | true => exact hx n ex s' K a s Q he' hs hcx hp
    | false => exact hy n ex s' K a s Q he' hs hcx hp
  · cases he'

theorem blk_cmd {id : Nat} {c : Code} {x : Cmd} (hx : CmdOk G V m F cf L c x) : CmdOk G V m F cf L (.block id c) (cBlk id x) := by
  intro n ex s' K a s Q he hs hcx hp
  have he' : ob (x cf L s) (fun r => some (blkX id r)) = some (ex, s') := he
  rw [ob_some] at he'
  obtain ⟨⟨ex1, s1⟩, h1, h2⟩ := he'
  simp only [Option.some.injEq] at h2
  refine wpIn_block (hx n ex1 s1 K a s _ h1 hs hcx fun e a' K' st hs' hxe => ?_)
  cases ex1 with
  | exit i =>
    cases e <;> simp only [ExR] at hxe
    subst hxe
    simp only [blkX, bif_eq, Nat.beq_eq, Prod.mk.injEq] at h2
    obtain ⟨h2, rfl⟩ := h2
    simp only [Exit.inBlock]
    split
    · rename_i e; rw [if_pos e] at h2; subst h2; exact hp .normal a' K' st hs' trivial
    · rename_i e; rw [if_neg e] at h2; subst h2; exact hp (.exit i) a' K' st hs' rfl
  | _ =>
    simp only [blkX, Prod.mk.injEq] at h2
    obtain ⟨rfl, rfl⟩ := h2
    have hq := hp e a' K' st hs' hxe
    cases e <;> simp only [ExR] at hxe <;> exact hq

end
end Hx

