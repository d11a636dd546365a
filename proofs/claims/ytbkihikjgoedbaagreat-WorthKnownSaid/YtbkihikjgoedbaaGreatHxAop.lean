/- Compiled operations: what the machine computes is what the model computes. -/
import Derived.Test.YtbkihikjgoedbaaGreatHxMem5
namespace Hx
open Go

/-- 'AP', for an operation -/
def AN (G : Gx) (K : Kx) (H : Heap) (s : Sem Next) (v : AV) (ks' : List Nat) (n m : Nat) : Prop :=
  ∃ x K', s.run G.P K.w = .ok (.value x) K'.w ∧ VR G.P K' v x ∧ HR G K' H ks' ∧ Tn (fun i => i ∈ ks') H K K' ∧ ∀ i, K'.D i → K.D i ∨ (i = n ∧ n < m)

/-- how values of operands stand to the machine's -/
def OpsOk (P : Program) (K : Kx) (co : CoF) (stk vs : List AV) (ρ : Operand → Value) : Prop := ∀ x f v, co x = some f → f stk vs = some v → VR P K v (ρ x)

section
variable {G : Gx} {K : Kx} {H : Heap} {ks : List Nat}

theorem AP.an {s : Sem Value} {t : Sem Next} {v : AV} {ks' : List Nat} {n m : Nat} (h : AP G K H s v ks' n m) (ht : ∀ w, t.run G.P w = (s.run G.P w).andThen fun x w => .ok (.value x) w) : AN G K H t v ks' n m := by
  obtain ⟨x, K', h1, h2⟩ := h
  exact ⟨x, K', by rw [ht, h1]; rfl, h2⟩

theorem rO_some {h : Heap} {x : Option AV} {r : AV × Heap × Option Nat} : rO h x = some r ↔ x = some r.1 ∧ r.2.1 = h ∧ r.2.2 = none := by
  unfold rO
  rw [ob_some]
  constructor
  · rintro ⟨a, rfl, h⟩; cases h; exact ⟨rfl, rfl, rfl⟩
  · rintro ⟨h1, h2, h3⟩; obtain ⟨a, b, c⟩ := r; simp at h1 h2 h3; subst h2 h3; exact ⟨a, h1, rfl⟩

theorem coL_ok {co : CoF} {stk vs : List AV} {ρ : Operand → Value} (hco : OpsOk G.P K co stk vs ρ) : ∀ {l : List Operand} {fs : List OF} {as : List AV}, coL co l = some fs → mapF fs stk vs = some as → VRs G.P K as (l.map ρ)
  | [], fs, as, hl, hf => by cases hl; cases hf; exact .nil
  | x :: l, fs, as, hl, hf => by
    unfold coL at hl
    split at hl
    · rename_i y r hy hr
      cases hl
      have hf' : ob (y stk vs) (fun v => ob (mapF r stk vs) fun ys => some (v :: ys)) = some as := hf
      simp only [ob_some, Option.some.injEq] at hf'
      obtain ⟨v, h1, as', h2, rfl⟩ := hf'
      exact .cons _ _ _ _ (hco _ _ _ hy h1) (coL_ok hco hr h2)
    · cases hl

theorem loadN_sub {h : Heap} (hs : Sub h H) {n : Nat} {v : AV} {l : List AV} (hc : loadN h n v = some l) : loadN H n v = some l := by
  cases v <;> simp only [loadN, reduceCtorEq, ob_some] at hc ⊢
  case ptr b o => obtain ⟨r, h2, h3⟩ := hc; exact ⟨r, getRow_some.2 (hs _ _ (getRow_some.1 h2)), h3⟩
  case iptr => exact hc
theorem slaA_sub {h : Heap} (hs : Sub h H) {e sz n : Nat} {v r : AV} {l u : Nat} (hc : slaA h e sz n v l u = some r) : slaA H e sz n v l u = some r := by
  simp only [slaA, bif_none] at hc ⊢
  refine ⟨hc.1, ?_⟩
  have hc := hc.2
  cases v <;> simp only [reduceCtorEq, ob_some] at hc ⊢
  case ptr b o => obtain ⟨r, h2, h3⟩ := hc; exact ⟨r, getRow_some.2 (hs _ _ (getRow_some.1 h2)), h3⟩
  case iptr => exact hc
theorem lookA_sub {h : Heap} (hs : Sub h H) {c : EqC} {z : AV} {ok : Bool} {m k r : AV} (hc : lookA h c z ok m k = some r) : lookA H c z ok m k = some r := by
  simp only [lookA, ob_some] at hc ⊢
  obtain ⟨es, h1, h2⟩ := hc
  refine ⟨es, ?_, h2⟩
  cases m <;> simp only [reduceCtorEq, ob_some] at h1 ⊢
  case nilm => exact h1
  case mp b => obtain ⟨r, h3, h4⟩ := h1; exact ⟨r, getMap_some.2 (hs _ _ (getMap_some.1 h3)), h4⟩
theorem lenmA_sub {h : Heap} (hs : Sub h H) {m r : AV} (hc : lenmA h m = some r) : lenmA H m = some r := by
  cases m <;> simp only [lenmA, reduceCtorEq, ob_some] at hc ⊢
  case nilm => exact hc
  case mp b => obtain ⟨r, h3, h4⟩ := hc; exact ⟨r, getMap_some.2 (hs _ _ (getMap_some.1 h3)), h4⟩

theorem bound_ok {co : CoF} {stk vs : List AV} {ρ : Operand → Value} (hco : OpsOk G.P K co stk vs ρ) {x : Option Operand} {f : Option OF} {d l : Nat} (hc : coO co x = some f) (hb : boundA d f stk vs = some l) : BoundV d (x.map ρ) l := by
  cases x with
  | none => cases hc; cases hb; exact .inl ⟨rfl, rfl⟩
  | some x =>
    simp only [coO, Option.map_eq_some_iff] at hc
    obtain ⟨g, hg, rfl⟩ := hc
    have hb' : ob (g stk vs) natOf = some l := hb
    rw [ob_some] at hb'
    obtain ⟨v, h1, h2⟩ := hb'
    obtain ⟨k, hk⟩ := natOf_ok (hco _ _ _ hg h1) h2
    exact .inr ⟨k, by simp [hk]⟩

theorem run_vbind {P : Program} (s : Sem Value) (w : World) : (do pure (Next.value (← s)) : Sem Next).run P w = (s.run P w).andThen fun x w => .ok (.value x) w := by
  simp [Sem.run_bind]

theorem coL_nil {co : CoF} {l : List Operand} (h : coL co l = some []) : l = [] := by
  cases l with
  | nil => rfl
  | cons x l => unfold coL at h; split at h <;> cases h
theorem coL_cons {co : CoF} {l : List Operand} {f : OF} {fs : List OF} (h : coL co l = some (f :: fs)) : ∃ x r, l = x :: r ∧ co x = some f ∧ coL co r = some fs := by
  cases l with
  | nil => cases h
  | cons x l =>
    unfold coL at h
    split at h
    · rename_i y r hy hr; cases h; exact ⟨x, l, rfl, hy, hr⟩
    · cases h

theorem run_call_builtin {P : Program} (ρ : Operand → Value) (c : Call) (b : Builtin) (hb : c.callee = .builtin b) (dst : Option Tmp) (type : TypeId) (pos : String) (after : Array Edge) (g : Option (Nat × Bool)) :
    ∃ cs, ∀ w, (execOp ρ { dst := dst, op := .call c, type := type, pos := pos, after := after, guard := g }).run P w = (builtin b c.argTypes type cs (c.args.map ρ)).run P w :=
  ⟨_, fun w => by simp only [execOp, resolve, hb, Sem.run_bind, Sem.run_pure, Result.andThen_ok, invoke]; rfl⟩

theorem aop_ok {h h' : Heap} {kill : Option Nat} {co : CoF} {stk vs : List AV} {ρ : Operand → Value} (hco : OpsOk G.P K co stk vs ρ) {o : Oper} {f : AF} {v : AV} (hc : compOp G.P co o.op = some (.a f)) (hf : f stk vs h = some (v, h', kill))
    (hr : HR G K H ks) (hwf : h.wf) (hn0 : h.next < h'.next → ¬ K.D h.next) (hs : Sub h' H) (hl : h'.next ≤ H.next) (hk : ∀ b, kill = some b → b ∉ ks) :
    AN G K H (execOp ρ o) v (kill.toList ++ ks) h.next h'.next ∧ (h' = h ∨ ∃ blk, h' = h.push blk) := by
  obtain ⟨dst, op, type, pos, after, guard⟩ := o
  simp only at hc
  have hyp : h' = h → kill = none → ∀ (s : Sem Value) (t : Sem Next), YP G.P K s v → (∀ w, t.run G.P w = (s.run G.P w).andThen fun x w => .ok (.value x) w) → AN G K H t v (kill.toList ++ ks) h.next h'.next ∧ (h' = h ∨ ∃ blk, h' = h.push blk) := by
    rintro rfl rfl s t hy ht
    exact ⟨(YP.ap hr hy _ _).an ht, .inl rfl⟩
  have hval : h' = h → kill = none → ∀ (t : Sem Next) (x : Value), (∀ w, t.run G.P w = .ok (.value x) w) → VR G.P K v x → AN G K H t v (kill.toList ++ ks) h.next h'.next ∧ (h' = h ∨ ∃ blk, h' = h.push blk) := by
    rintro rfl rfl t x ht hv
    exact ⟨⟨x, K, ht _, hv, hr, Tn.refl _ _ _, fun i h => .inl h⟩, .inl rfl⟩
  have hnp : ∀ blk, h' = h.push blk → ¬ K.D h.next := fun blk e => hn0 (by rw [e, Heap.next_push]; omega)
  have hnew : ∀ blk, h' = h.push blk → kill = none → ∀ (s : Sem Value) (t : Sem Next), NewP G K h.next s v blk → (∀ w, t.run G.P w = (s.run G.P w).andThen fun x w => .ok (.value x) w) → AN G K H t v (kill.toList ++ ks) h.next h'.next ∧ (h' = h ∨ ∃ blk, h' = h.push blk) := by
    rintro blk rfl rfl s t hy ht
    exact ⟨(NewP.ap (by rw [Heap.next_push]; omega) hr (hnp _ rfl) (by rw [Heap.next_push] at hl; omega) (hs _ _ (by rw [Heap.get_push, if_pos rfl])) hy).an ht, .inr ⟨_, rfl⟩⟩
  unfold compOp at hc
  split at hc
  · -- move
    simp only [Option.map_eq_some_iff, OpK.a.injEq] at hc
    obtain ⟨x, hx, rfl⟩ := hc
    obtain ⟨h1, h2, h3⟩ := rO_some.1 hf
    exact hval h2 h3 _ _ (fun w => rfl) (hco _ _ _ hx h1)
  · simp only [Option.map_eq_some_iff, OpK.a.injEq] at hc
    obtain ⟨x, hx, rfl⟩ := hc
    obtain ⟨h1, h2, h3⟩ := rO_some.1 hf
    exact hval h2 h3 _ _ (fun w => rfl) (hco _ _ _ hx h1)
  · -- pick
    split at hc
    · rename_i c a b hc1 ha hb
      cases hc
      simp only [aPick, ob_some] at hf
      obtain ⟨t, ht, hf⟩ := hf
      have hvt := hco _ _ _ hc1 ht
      split at hf
      · rename_i t
        obtain ⟨h1, h2, h3⟩ := rO_some.1 hf
        simp only at h1 h2 h3
        generalize hρ : ρ _ = z at hvt
        cases hvt
        cases t
        · exact hval h2 h3 _ _ (fun w => by simp [execOp, hρ, asBool]) (hco _ _ _ hb h1)
        · exact hval h2 h3 _ _ (fun w => by simp [execOp, hρ, asBool]) (hco _ _ _ ha h1)
      · cases hf
    · cases hc
  · -- alloc
    simp only [Option.map_eq_some_iff, OpK.a.injEq] at hc
    obtain ⟨z, hz, rfl⟩ := hc
    cases hf
    exact hnew _ rfl rfl _ _ (alloc_ok (hnp _ rfl) hz) (fun w => run_vbind _ w)
  · -- box
    simp only [Option.map_eq_some_iff, OpK.a.injEq] at hc
    obtain ⟨x, hx, rfl⟩ := hc
    simp only [aBox, ob_some, Option.some.injEq, Prod.mk.injEq] at hf
    obtain ⟨u, hu, rfl, rfl, rfl⟩ := hf
    exact hnew _ rfl rfl _ _ (box_ok (hnp _ rfl) (hco _ _ _ hx hu)) (fun w => run_vbind _ w)
  · -- build
    obtain ⟨z, ps, he, hb⟩ := build_ok hco hc
    cases he
    simp only [aAgg, ob_some, Option.some.injEq, Prod.mk.injEq] at hf
    obtain ⟨cs, hcs, rfl, rfl, rfl⟩ := hf
    exact hyp rfl rfl _ _ (hb cs hcs) (fun w => run_vbind _ w)
  · -- buildSlice
    obtain ⟨e, z, ps, he, hb⟩ := bsl_ok hco hc
    cases he
    simp only [aBsl, ob_some, Option.some.injEq, Prod.mk.injEq] at hf
    obtain ⟨cs, hcs, rfl, rfl, rfl⟩ := hf
    exact hnew _ rfl rfl _ _ (hb h.next cs (hnp _ rfl) hcs) (fun w => run_vbind _ w)
  · -- load
    split at hc
    · rename_i n g a hn' hg ha
      cases hc
      simp only [aLoad, ob_some] at hf
      obtain ⟨u, hu, cs, hcs, hf⟩ := hf
      obtain ⟨h1, h2, h3⟩ := rO_some.1 hf
      simp only at h1 h2 h3
      subst h2
      exact hyp rfl h3 _ _ (load_ok hr hn' hg (hco _ _ _ ha hu) (loadN_sub hs hcs) h1) (fun w => run_vbind _ w)
    · cases hc
  · -- store
    split at hc <;> cases hc
  · -- nilCheck
    simp only [Option.map_eq_some_iff, OpK.a.injEq] at hc
    obtain ⟨x, hx, rfl⟩ := hc
    simp only [aChk, ob_some] at hf
    obtain ⟨u, hu, hf⟩ := hf
    obtain ⟨h1, h2, h3⟩ := rO_some.1 hf
    have hvu := hco _ _ _ hx hu
    obtain ⟨h4, h5⟩ := chk_ok hvu h1
    simp only at h4 h2 h3
    subst h4
    rcases h5 with ⟨a, h6⟩ | ⟨g, a, b, h6⟩ | ⟨l, a, b, h6⟩
    all_goals exact hval h2 h3 _ _ (fun w => by simp [execOp, h6]) (h6 ▸ hvu)
  · -- binOp
    split at hc
    · rename_i a b ha hb
      cases hc
      simp only [aBin, ob_some] at hf
      obtain ⟨u, hu, u', hu', hf⟩ := hf
      obtain ⟨h1, h2, h3⟩ := rO_some.1 hf
      exact hyp h2 h3 _ _ (bin_ok (hco _ _ _ ha hu) (hco _ _ _ hb hu') h1) (fun w => run_vbind _ w)
    · cases hc
  · -- unOp
    simp only [Option.map_eq_some_iff, OpK.a.injEq] at hc
    obtain ⟨x, hx, rfl⟩ := hc
    simp only [aUn, ob_some] at hf
    obtain ⟨u, hu, hf⟩ := hf
    obtain ⟨h1, h2, h3⟩ := rO_some.1 hf
    exact hyp h2 h3 _ _ (un_ok (hco _ _ _ hx hu) h1) (fun w => run_vbind _ w)
  · -- convert
    split at hc
    · rename_i d k x hsrc hdst hx
      cases hc
      simp only [aConv, ob_some] at hf
      obtain ⟨u, hu, hf⟩ := hf
      obtain ⟨h1, h2, h3⟩ := rO_some.1 hf
      exact hyp h2 h3 _ _ (conv_ok hsrc hdst (hco _ _ _ hx hu) h1) (fun w => run_vbind _ w)
    · cases hc
  · -- makeInterface
    split at hc
    · cases hc
    · rename_i d x hne hd hx
      cases hc
      simp only [aIfc, ob_some, Option.some.injEq, Prod.mk.injEq] at hf
      obtain ⟨u, hu, rfl, rfl, rfl⟩ := hf
      refine hyp rfl rfl (Instr.makeInterface _ _) _ ⟨_, ?_, .ifc _ _ _ (hco _ _ _ hx hu)⟩ (fun w => run_vbind _ w)
      simp only [Instr.makeInterface, Sem.run_bind, run_underlying hd, Result.andThen_ok]
      cases d <;> first | exact absurd rfl (hne _) | rfl
    · cases hc
  · -- makeFunc
    split at hc
    · rename_i a c hfn ha hb
      cases hc
      simp only [aMkf, ob_some, Option.some.injEq, Prod.mk.injEq] at hf
      obtain ⟨as, hu, cs, hu', rfl, rfl, rfl⟩ := hf
      have key : ∀ f, isFunc f = true → ∃ g, f = .func g := by intro f h; cases f <;> first | exact ⟨_, rfl⟩ | cases h
      obtain ⟨g, rfl⟩ := key _ hfn
      have ha' := coL_ok hco ha hu
      have hb' := coL_ok hco hb hu'
      have hv := VR.fn (P := G.P) (K := K) g as cs _ _ ha' hb'
      have e : ∀ A : Array Operand, (A.toList.map ρ).toArray = A.map ρ := fun A => by apply Array.ext'; simp
      rw [e, e] at hv
      exact hval rfl rfl _ _ (fun w => by simp [execOp, Instr.makeFunc]) hv
    · cases hc
  · -- makeMap
    cases hc
    cases hf
    exact hnew _ rfl rfl _ _ mkm_ok (fun w => run_vbind _ w)
  · -- makeSlice
    unfold cMakeSlice at hc
    split at hc
    · rename_i e l c hu hl' hc'
      split at hc
      · rename_i sz by_ z hsz hby hz
        split at hc
        · rename_i hzl
          cases hc
          simp only [aMks, ob_some, mksA, bif_none, Bool.and_eq_true, fN_eq, Nat.ble_eq, Option.some.injEq, Prod.mk.injEq] at hf
          obtain ⟨a, ha, b, hb, n, hna, m, hmb, ⟨⟨hnm, hro⟩, _⟩, rfl, rfl, rfl⟩ := hf
          obtain ⟨k1, hk1⟩ := natOf_ok (hco _ _ _ hl' ha) hna
          obtain ⟨k2, hk2⟩ := natOf_ok (hco _ _ _ hc' hb) hmb
          have := mks_ok (k := k1) (k' := k2) hu hsz hby hz hzl (hnp _ rfl) hnm hro
          exact hnew _ rfl rfl _ _ this (fun w => by simp only [execOp, hk1, hk2]; exact run_vbind _ w)
        · cases hc
      · cases hc
    · cases hc
  · -- slice
    unfold cSlice at hc
    split at hc
    · rename_i x lo hi hx hlo hhi
      split at hc
      · rename_i e hu
        simp only [Option.map_eq_some_iff, OpK.a.injEq] at hc
        obtain ⟨sz, hsz, rfl⟩ := hc
        simp only [aSlc, ob_some] at hf
        obtain ⟨u, hu', len, hlen, l, hl', q, hq, hf⟩ := hf
        obtain ⟨h1, h2, h3⟩ := rO_some.1 hf
        exact hyp h2 h3 _ _ (slc_ok hu hsz (hco _ _ _ hx hu') hlen (bound_ok hco hlo hl') (bound_ok hco hhi hq) h1) (fun w => run_vbind _ w)
      · rename_i n e hu
        simp only [Option.map_eq_some_iff, OpK.a.injEq] at hc
        obtain ⟨sz, hsz, rfl⟩ := hc
        simp only [aSla, ob_some] at hf
        obtain ⟨u, hu', l, hl', q, hq, hf⟩ := hf
        obtain ⟨h1, h2, h3⟩ := rO_some.1 hf
        simp only at h1 h2 h3
        subst h2
        exact hyp rfl h3 _ _ (sla_ok hr hu hsz (hco _ _ _ hx hu') (bound_ok hco hlo hl') (bound_ok hco hhi hq) (slaA_sub hs h1)) (fun w => run_vbind _ w)
      · cases hc
    · cases hc
  · -- slice with a capacity
    unfold cSlice3 at hc
    split at hc
    · rename_i x lo hi mx hx hlo hhi hmx
      split at hc
      · rename_i e hu
        simp only [Option.map_eq_some_iff, OpK.a.injEq] at hc
        obtain ⟨sz, hsz, rfl⟩ := hc
        simp only [aSlc3, ob_some, bif_none, Bool.and_eq_true, Nat.ble_eq] at hf
        obtain ⟨u, hu', len, hlen, l, hl', q, hq, q', hq', r, hr', r', hr2, ⟨hle1, hle2⟩, hf⟩ := hf
        obtain ⟨h1, h2, h3⟩ := rO_some.1 hf
        obtain ⟨k1, hk1⟩ := natOf_ok (hco _ _ _ hhi hq) hq'
        obtain ⟨k2, hk2⟩ := natOf_ok (hco _ _ _ hmx hr') hr2
        exact hyp h2 h3 _ _ (slc3_ok (k := k1) (k' := k2) hu hsz (hco _ _ _ hx hu') hlen (bound_ok hco hlo hl') hle1 hle2 h1) (fun w => by simp only [execOp, Option.map_some, hk1, hk2]; exact run_vbind _ w)
      · cases hc
    · cases hc
  · -- fieldAddr
    unfold cFieldAddr at hc
    split at hc
    · rename_i fs x hu hx
      split at hc
      · rename_i fd hfd
        split at hc
        · rename_i n hsz
          cases hc
          simp only [aFad, ob_some] at hf
          obtain ⟨u, hu', hf⟩ := hf
          obtain ⟨h1, h2, h3⟩ := rO_some.1 hf
          exact hyp h2 h3 _ _ (fad_ok hu hfd hsz (hco _ _ _ hx hu') h1) (fun w => run_vbind _ w)
        · cases hc
      · cases hc
    · cases hc
  · -- field
    unfold cField at hc
    split at hc
    · rename_i fs x hu hx
      split at hc
      · rename_i fd hfd
        split at hc
        · rename_i n g hsz hg
          cases hc
          simp only [aFld, ob_some] at hf
          obtain ⟨u, hu', hf⟩ := hf
          obtain ⟨h1, h2, h3⟩ := rO_some.1 hf
          exact hyp h2 h3 _ _ (fld_ok hu hfd hsz hg (hco _ _ _ hx hu') h1) (fun w => run_vbind _ w)
        · cases hc
      · cases hc
    · cases hc
  · -- indexAddr
    unfold cIndexAddr at hc
    split at hc
    · rename_i x i hx hi
      split at hc
      · rename_i e hu
        simp only [Option.map_eq_some_iff, OpK.a.injEq] at hc
        obtain ⟨sz, hsz, rfl⟩ := hc
        simp only [aIxs, ob_some] at hf
        obtain ⟨u, hu', j, hj, m, hm, hf⟩ := hf
        obtain ⟨h1, h2, h3⟩ := rO_some.1 hf
        obtain ⟨k, hk'⟩ := natOf_ok (hco _ _ _ hi hj) hm
        exact hyp h2 h3 _ _ (ixs_ok hu hsz (hco _ _ _ hx hu') hk' h1) (fun w => run_vbind _ w)
      · rename_i n e hu
        simp only [Option.map_eq_some_iff, OpK.a.injEq] at hc
        obtain ⟨sz, hsz, rfl⟩ := hc
        simp only [aIxa, ob_some] at hf
        obtain ⟨u, hu', j, hj, m, hm, hf⟩ := hf
        obtain ⟨h1, h2, h3⟩ := rO_some.1 hf
        obtain ⟨k, hk'⟩ := natOf_ok (hco _ _ _ hi hj) hm
        exact hyp h2 h3 _ _ (ixa_ok hu hsz (hco _ _ _ hx hu') hk' h1) (fun w => run_vbind _ w)
      · cases hc
    · cases hc
  · -- index
    unfold cIndex at hc
    split at hc
    · rename_i x i hx hi
      split at hc
      · rename_i n e hu
        split at hc
        · rename_i sz g hsz hg
          cases hc
          simp only [aIx, ob_some] at hf
          obtain ⟨u, hu', j, hj, m, hm, hf⟩ := hf
          obtain ⟨h1, h2, h3⟩ := rO_some.1 hf
          obtain ⟨k, hk'⟩ := natOf_ok (hco _ _ _ hi hj) hm
          exact hyp h2 h3 _ _ (ix_ok hu hsz hg (hco _ _ _ hx hu') hk' h1) (fun w => run_vbind _ w)
        · cases hc
      · rename_i hu
        cases hc
        simp only [aIxc, ob_some] at hf
        obtain ⟨u, hu', j, hj, m, hm, hf⟩ := hf
        obtain ⟨h1, h2, h3⟩ := rO_some.1 hf
        obtain ⟨k, hk'⟩ := natOf_ok (hco _ _ _ hi hj) hm
        exact hyp h2 h3 _ _ (ixc_ok hu (hco _ _ _ hx hu') hk' h1) (fun w => run_vbind _ w)
      · cases hc
    · cases hc
  · -- lookup
    unfold cLookup at hc
    split at hc
    · rename_i kt e m k hu hm hk'
      simp only [Option.map_eq_some_iff, OpK.a.injEq] at hc
      obtain ⟨z, hz, rfl⟩ := hc
      simp only [aLook, ob_some] at hf
      obtain ⟨a, ha, b, hb, hf⟩ := hf
      obtain ⟨h1, h2, h3⟩ := rO_some.1 hf
      simp only at h1 h2 h3
      subst h2
      exact hyp rfl h3 _ _ (look_ok hr hu hz (hco _ _ _ hm ha) (hco _ _ _ hk' hb) (lookA_sub hs h1)) (fun w => run_vbind _ w)
    · cases hc
  · -- typeAssert
    unfold cTypeAssert at hc
    split at hc
    · cases hc
    · rename_i d x z hne hd hx hz
      cases hc
      simp only [aTas, ob_some] at hf
      obtain ⟨u, hu', hf⟩ := hf
      obtain ⟨h1, h2, h3⟩ := rO_some.1 hf
      exact hyp h2 h3 _ _ (tas_ok hd (fun ms e => hne ms e) hz (hco _ _ _ hx hu') h1) (fun w => run_vbind _ w)
    · cases hc
  · -- extract
    simp only [Option.map_eq_some_iff, OpK.a.injEq] at hc
    obtain ⟨x, hx, rfl⟩ := hc
    simp only [aExt, ob_some] at hf
    obtain ⟨u, hu, hf⟩ := hf
    obtain ⟨h1, h2, h3⟩ := rO_some.1 hf
    exact hyp h2 h3 _ _ (ext_ok (hco _ _ _ hx hu) h1) (fun w => run_vbind _ w)
  · unfold cMapUpdate at hc; split at hc <;> cases hc
  · unfold cMapUpdate at hc; split at hc <;> cases hc
  · unfold cMapEntry at hc
    split at hc
    · simp at hc
    · cases hc
  · split at hc <;> cases hc
  · simp at hc
  · split at hc
    · split at hc <;> cases hc
    · cases hc
  · -- call
    rename_i c
    split at hc
    · split at hc <;> cases hc
    · rename_i b hcal
      split at hc
      · rename_i as has
        obtain ⟨consts, hrun⟩ := run_call_builtin (P := G.P) ρ c b hcal dst type pos after guard
        have hargs : ∀ {l : List Operand}, c.args.toList = l → c.args.map ρ = (l.map ρ).toArray := fun h => by
          apply Array.ext'
          simp [h]
        have htys : ∀ {l : List TypeId}, c.argTypes.toList = l → c.argTypes = l.toArray := fun h => by
          apply Array.ext'
          simp [h]
        unfold cBuiltin at hc
        split at hc
        · -- append
          rename_i s x t u hty
          obtain ⟨a1, r1, e1, hs1, hr1⟩ := coL_cons has
          obtain ⟨a2, r2, e2, hs2, hr2⟩ := coL_cons hr1
          have e3 := coL_nil hr2
          subst e3 e2
          unfold cAppend at hc
          split at hc
          · rename_i e hu
            split at hc
            · rename_i sz by_ z hsz hby hz
              split at hc
              · rename_i hcond
                cases hc
                simp only [aApp, ob_some] at hf
                obtain ⟨sv, hsv, xv, hxv, hf⟩ := hf
                obtain ⟨g1, g2⟩ := app_ok (ty := type) hr hu hcond.1 hsz hby hz hcond.2 (hco _ _ _ hs1 hsv) (hco _ _ _ hs2 hxv) hwf hn0 hf hs hl hk
                refine ⟨g1.an fun w => ?_, g2⟩
                rw [hrun, hargs e1, htys hty]
                exact run_vbind _ w
              · cases hc
            · cases hc
          · cases hc
        · -- len
          rename_i x t hty
          obtain ⟨a1, r1, e1, hs1, hr1⟩ := coL_cons has
          have e3 := coL_nil hr1
          subst e3
          unfold cLen at hc
          split at hc
          · rename_i e hu
            cases hc
            simp only [aLens, ob_some] at hf
            obtain ⟨sv, hsv, hf⟩ := hf
            obtain ⟨h1, h2, h3⟩ := rO_some.1 hf
            refine hyp h2 h3 _ _ (lens_ok (ty := type) hu (hco _ _ _ hs1 hsv) h1) fun w => ?_
            rw [hrun, hargs e1, htys hty]
            exact run_vbind _ w
          · rename_i k e hu
            cases hc
            simp only [aLenm, ob_some] at hf
            obtain ⟨sv, hsv, hf⟩ := hf
            obtain ⟨h1, h2, h3⟩ := rO_some.1 hf
            simp only at h1 h2 h3
            subst h2
            refine hyp rfl h3 _ _ (lenm_ok (ty := type) hr hu (hco _ _ _ hs1 hsv) (lenmA_sub hs h1)) fun w => ?_
            rw [hrun, hargs e1, htys hty]
            exact run_vbind _ w
          · cases hc
        · -- min
          rename_i x r hty
          cases hc
          obtain ⟨a1, r1, e1, hs1, hr1⟩ := coL_cons has
          simp only [aMm, ob_some] at hf
          obtain ⟨sv, hsv, l, hl', hf⟩ := hf
          obtain ⟨h1, h2, h3⟩ := rO_some.1 hf
          refine hyp h2 h3 _ _ (mm_ok (hco _ _ _ hs1 hsv) (coL_ok hco hr1 hl') h1) fun w => ?_
          rw [hrun, hargs e1]
          exact run_vbind _ w
        · -- max
          rename_i x r hty
          cases hc
          obtain ⟨a1, r1, e1, hs1, hr1⟩ := coL_cons has
          simp only [aMm, ob_some] at hf
          obtain ⟨sv, hsv, l, hl', hf⟩ := hf
          obtain ⟨h1, h2, h3⟩ := rO_some.1 hf
          refine hyp h2 h3 _ _ (mm_ok (hco _ _ _ hs1 hsv) (coL_ok hco hr1 hl') h1) fun w => ?_
          rw [hrun, hargs e1]
          exact run_vbind _ w
        · split at hc
          · simp at hc
          · cases hc
        · repeat' split at hc
          all_goals cases hc
        · cases hc
        · cases hc
        · cases hc
      · cases hc
    · cases hc
  · cases hc

end
end Hx
