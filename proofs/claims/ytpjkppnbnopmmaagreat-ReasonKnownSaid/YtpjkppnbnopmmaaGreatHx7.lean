/- The machine (part 7). -/
import Derived.Test.YtpjkppnbnopmmaaGreatHx6
import Derived.Laws.Externs
import Derived.RowKit3
/- A closed function: the machine's run is the model's call. -/
namespace Hx
open Go

/-! Tables. -/
def Tr.list {α : Type} : Tr α → (Nat → Nat) → List (Nat × α)
  | .e, _ => []
  | .n l v r, f => (match v with | some x => [(f 0, x)] | none => []) ++ (l.list (fun i => f (2 * i + 1)) ++ r.list (fun i => f (2 * i + 2)))
theorem Tr.get_list {α : Type} : ∀ (t : Tr α) (f : Nat → Nat) (i : Nat) (x : α), t.get i = some x → (f i, x) ∈ t.list f
  | .e, f, i, x, h => by cases h
  | .n l v r, f, i, x, h => by
    have node : (Tr.n l v r).get i = if i = 0 then v else if i % 2 = 1 then l.get (i / 2) else r.get (i / 2 - 1) := by
      show bif_ (Nat.beq i 0) v (bif_ (Nat.beq (Nat.mod i 2) 1) (l.get (Nat.div i 2)) (r.get (Nat.sub (Nat.div i 2) 1))) = _
      rw [bif_eq, bif_eq]
      simp only [Nat.beq_eq]
      rfl
    rw [node] at h
    unfold Tr.list
    rw [List.mem_append, List.mem_append]
    split at h
    · rename_i e; subst e; subst h; exact .inl (by simp)
    · split at h
      · have := Tr.get_list l (fun i => f (2 * i + 1)) (i / 2) x h
        have e : 2 * (i / 2) + 1 = i := by omega
        simp only [e] at this
        exact .inr (.inl this)
      · have := Tr.get_list r (fun i => f (2 * i + 2)) (i / 2 - 1) x h
        have e : 2 * (i / 2 - 1) + 2 = i := by omega
        simp only [e] at this
        exact .inr (.inr this)
theorem fa0 {α : Type} {p : α → Prop} : ∀ x ∈ ([] : List α), p x := fun x h => by cases h
theorem fa1 {α : Type} {p : α → Prop} {a : α} {l : List α} (h : p a) (hl : ∀ x ∈ l, p x) : ∀ x ∈ a :: l, p x := fun x hx => (List.mem_cons.1 hx).elim (fun e => e ▸ h) (hl x)
theorem lt0 {p : Nat → Prop} : ∀ i, i < 0 → p i := fun i h => absurd h (Nat.not_lt_zero i)
theorem ltS {p : Nat → Prop} {n : Nat} (hl : ∀ i, i < n → p i) (h : p n) : ∀ i, i < n + 1 → p i := fun i hi => (Nat.lt_succ_iff_lt_or_eq.1 hi).elim (hl i) fun e => e ▸ h

/-! Bodies of ranges over functions. -/
def rbOf (fn : Func) (i : Nat) : RB := (bodyAt (fn.body.getD .skip) i).getD ⟨#[], .skip, .skip⟩
def bI (vsl : List Nat) (fn : Func) (i : Nat) : BInfo := ⟨vsl, (rbOf fn i).ps.toList, (rbOf fn i).assign, (rbOf fn i).body, fn.ntmps⟩

theorem bodyAt_ge : ∀ (c : Code) (i : Nat), nb c ≤ i → bodyAt c i = none
  | .seq a b, i, h | .cond _ a b, i, h => by
    simp only [nb] at h
    simp only [bodyAt]
    rw [if_neg (by omega)]
    exact bodyAt_ge b _ (by omega)
  | .block _ b, i, h | .loop b, i, h | .scope b, i, h => by
    simp only [nb] at h
    simp only [bodyAt]
    exact bodyAt_ge b i h
  | .rangeFunc _ ps a b, i, h => by
    simp only [nb] at h
    simp only [bodyAt]
    rw [if_neg (by omega), if_neg (by omega)]
    exact bodyAt_ge b _ (by omega)
  | .skip, i, h | .region .., i, h | .exit _, i, h | .label _, i, h | .goto _, i, h | .ret, i, h | .refuse _, i, h => by simp [bodyAt]

theorem bodyAt_in : ∀ (c : Code) (i : Nat) (r : RB), bodyAt c i = some r → i + nb r.assign + nb r.body < nb c ∧ (∀ j, j < nb r.assign → bodyAt c (i + 1 + j) = bodyAt r.assign j) ∧ ∀ j, j < nb r.body → bodyAt c (i + 1 + nb r.assign + j) = bodyAt r.body j
  | .seq a b, i, r, h | .cond _ a b, i, r, h => by
    simp only [bodyAt] at h
    simp only [nb]
    split at h
    · rename_i hi
      obtain ⟨h1, h2, h3⟩ := bodyAt_in a i r h
      refine ⟨by omega, fun j hj => ?_, fun j hj => ?_⟩
      · simp only [bodyAt]; rw [if_pos (by omega)]; exact h2 j hj
      · simp only [bodyAt]; rw [if_pos (by omega)]; exact h3 j hj
    · rename_i hi
      obtain ⟨h1, h2, h3⟩ := bodyAt_in b _ r h
      refine ⟨by omega, fun j hj => ?_, fun j hj => ?_⟩
      · simp only [bodyAt]; rw [if_neg (by omega), show i + 1 + j - nb a = i - nb a + 1 + j by omega]; exact h2 j hj
      · simp only [bodyAt]; rw [if_neg (by omega), show i + 1 + nb r.assign + j - nb a = i - nb a + 1 + nb r.assign + j by omega]; exact h3 j hj
  | .block _ b, i, r, h | .loop b, i, r, h | .scope b, i, r, h => by
    simp only [bodyAt] at h
    simp only [nb]
    obtain ⟨h1, h2, h3⟩ := bodyAt_in b i r h
    exact ⟨h1, fun j hj => by simp only [bodyAt]; exact h2 j hj, fun j hj => by simp only [bodyAt]; exact h3 j hj⟩
  | .rangeFunc _ ps a b, i, r, h => by
    simp only [bodyAt] at h
    simp only [nb]
    split at h
    · rename_i hi
      cases h
      subst hi
      dsimp only
      refine ⟨by omega, fun j hj => ?_, fun j hj => ?_⟩
      · simp only [bodyAt]; rw [if_neg (by omega), if_pos (by omega), show 0 + 1 + j - 1 = j by omega]
      · simp only [bodyAt]; rw [if_neg (by omega), if_neg (by omega), show 0 + 1 + nb a + j - 1 - nb a = j by omega]
    · split at h
      · obtain ⟨h1, h2, h3⟩ := bodyAt_in a _ r h
        refine ⟨by omega, fun j hj => ?_, fun j hj => ?_⟩
        · simp only [bodyAt]; rw [if_neg (by omega), if_pos (by omega), show i + 1 + j - 1 = i - 1 + 1 + j by omega]; exact h2 j hj
        · simp only [bodyAt]; rw [if_neg (by omega), if_pos (by omega), show i + 1 + nb r.assign + j - 1 = i - 1 + 1 + nb r.assign + j by omega]; exact h3 j hj
      · obtain ⟨h1, h2, h3⟩ := bodyAt_in b _ r h
        refine ⟨by omega, fun j hj => ?_, fun j hj => ?_⟩
        · simp only [bodyAt]; rw [if_neg (by omega), if_neg (by omega), show i + 1 + j - 1 - nb a = i - 1 - nb a + 1 + j by omega]; exact h2 j hj
        · simp only [bodyAt]; rw [if_neg (by omega), if_neg (by omega), show i + 1 + nb r.assign + j - 1 - nb a = i - 1 - nb a + 1 + nb r.assign + j by omega]; exact h3 j hj
  | .skip, i, r, h | .region .., i, r, h | .exit _, i, r, h | .label _, i, r, h | .goto _, i, r, h | .ret, i, r, h | .refuse _, i, r, h => by simp [bodyAt] at h

/-- a function of the program and the machine's -/
structure FnFact (P : Program) (gl : Nat → Option (List AV)) (bd : Nat → Option BInfo) (f : Nat) (fi : FnI) (fn : Func) (vsl : List Nat) (dfr : Bool) (base m : Nat) : Prop where
  hfn : P.funcs[f]? = some fn
  hbody : fn.body = some (fn.body.getD .skip)
  hcomp : compF P gl vsl dfr base fn = some fi
  hnb : nb (fn.body.getD .skip) = m
  hbds : ∀ i, i < m → bd (base + i) = some (bI vsl fn i)
/-- a body of a range over a function -/
def BdFact (P : Program) (gl : Nat → Option (List AV)) (bd : Nat → Option BInfo) (j : Nat) (c : Cmd × Cmd) : Prop :=
  ∃ f fi fn vsl dfr base m i, FnFact P gl bd f fi fn vsl dfr base m ∧ i < m ∧ base + i = j ∧ comp P ⟨vsl, fn.ntmps, gl⟩ true (rbOf fn i).assign (base + i + 1) = some c.1 ∧
    comp P ⟨vsl, fn.ntmps, gl⟩ true (rbOf fn i).body (base + i + 1 + nb (rbOf fn i).assign) = some c.2

/-! Functions without a body, that the model stands in for. -/
def ExFact (P : Program) (f : Nat) (F : ExA) : Prop := ∀ args v, F args = some v → ∀ (K : Kx) avs, VRs P K args avs → ∃ x, (callFunc f avs.toArray).run P K.w = .ok (.value x) K.w ∧ VR P K v x ∧ ∀ l, .fn (.yield l) [] [] ∉ args
theorem ex_of {P : Program} {f : Nat} {fn : Func} {F : ExA} (e : Array Value → Sem Value) (hf : P.funcs[f]? = some fn) (hname : (fn.name == "runtime.NumGoroutine") = false) (hb : fn.body.isNone = true) (hn : Extern.findNext fn = none) (he : Extern.find fn = some e)
    (h : ∀ args v, F args = some v → ∀ (K : Kx) avs, VRs P K args avs → ∃ x, (e avs.toArray).run P K.w = .ok x K.w ∧ VR P K v x ∧ ∀ l, .fn (.yield l) [] [] ∉ args) : ExFact P f F := fun args v hF K avs ha => by
  obtain ⟨x, h1, h2, h3⟩ := h args v hF K avs ha
  exact ⟨x, by rw [run_callFunc_extern hf hname hb hn he, h1]; rfl, h2, h3⟩
theorem three_vrs {P : Program} {K : Kx} {k1 k2 k3 : IntKind} {x y b : Int} {avs : List Value} (h : VRs P K [.int k1 x, .int k2 y, .int k3 b] avs) : avs = [.int k1 x, .int k2 y, .int k3 b] := by
  cases h with
  | cons _ a _ r h1 h =>
    cases h with
    | cons _ a' _ r h2 h =>
      cases h with
      | cons _ a'' _ r h3 h =>
        cases h; cases h1; cases h2; cases h3; rfl
theorem ex_sub64 {P : Program} {f : Nat} {fn : Func} (hf : P.funcs[f]? = some fn) (hname : (fn.name == "runtime.NumGoroutine") = false) (hb : fn.body.isNone = true) (hn : Extern.findNext fn = none) (he : Extern.find fn = some (Extern.MathBitsCarry.rows[1]'(by decide)).2) : ExFact P f sub64A :=
  ex_of _ hf hname hb hn he fun args v hF K avs ha => by
    unfold sub64A at hF
    split at hF
    · rename_i k1 x k2 y k3 b
      simp only [bif_none, Nat.ble_eq, fN_eq, Option.some.injEq] at hF
      obtain ⟨hb, rfl⟩ := hF
      have := three_vrs ha
      subst this
      refine ⟨_, ?_, VR.tup _ [.int .u64 (Int.ofNat ((x + m64 - y - b) % m64)), .int .u64 (Int.ofNat (if x < y + b then 1 else 0))] (.cons _ _ _ _ (.int _ _) (.cons _ _ _ _ ?_ .nil)), fun l hm => by simp at hm⟩
      · have : b = 0 ∨ b = 1 := by omega
        rcases this with rfl | rfl <;> rfl
      · have : bif_ (Nat.ble (x + 1) (y + b)) 1 0 = if x < y + b then 1 else 0 := by
          rw [bif_eq]; simp only [Nat.ble_eq]; rfl
        rw [this]; exact .int _ _
    · cases hF
theorem ex_add64 {P : Program} {f : Nat} {fn : Func} (hf : P.funcs[f]? = some fn) (hname : (fn.name == "runtime.NumGoroutine") = false) (hb : fn.body.isNone = true) (hn : Extern.findNext fn = none) (he : Extern.find fn = some (Extern.MathBitsCarry.rows[0]'(by decide)).2) : ExFact P f add64A :=
  ex_of _ hf hname hb hn he fun args v hF K avs ha => by
    unfold add64A at hF
    split at hF
    · rename_i k1 x k2 y k3 b
      simp only [bif_none, Nat.ble_eq, fN_eq, Option.some.injEq] at hF
      obtain ⟨hb, rfl⟩ := hF
      have := three_vrs ha
      subst this
      refine ⟨_, ?_, VR.tup _ [.int .u64 (Int.ofNat ((x + y + b) % m64)), .int .u64 (Int.ofNat ((x + y + b) / m64))] (.cons _ _ _ _ (.int _ _) (.cons _ _ _ _ (.int _ _) .nil)), fun l hm => by simp at hm⟩
      have : b = 0 ∨ b = 1 := by omega
      rcases this with rfl | rfl <;> rfl
    · cases hF
noncomputable def extOf (l : List (Nat × ExA)) (f : Nat) : Option ExA := List.rec none (fun x _ ih => bif_ (Nat.beq f x.1) (some x.2) ih) l
theorem extOf_mem {f : Nat} {F : ExA} : ∀ {l : List (Nat × ExA)}, extOf l f = some F → (f, F) ∈ l
  | [], h => by cases h
  | x :: l, h => by
    have h' : bif_ (Nat.beq f x.1) (some x.2) (extOf l f) = some F := h
    rw [bif_eq] at h'
    split at h'
    · rename_i h1
      cases h'
      rw [Nat.eq_of_beq_eq_true h1]; exact List.mem_cons_self
    · exact List.mem_cons_of_mem _ (extOf_mem h')
noncomputable def ctxOf (it : Tr FnI) (bt : Tr (Cmd × Cmd)) (ex : List (Nat × ExA)) : Ctx := { fn := it.get, bd := bt.get, ext := extOf ex }
def gxOf (P : Program) (bd : Nat → Option BInfo) : Gx := { P := P, BD := bd, A := fun _ => False, base := 0 }

theorem FnFact.ok {P : Program} {gl : Nat → Option (List AV)} {bd : Nat → Option BInfo} {f : Nat} {fi : FnI} {fn : Func} {vsl : List Nat} {dfr : Bool} {base m : Nat} (h : FnFact P gl bd f fi fn vsl dfr base m) : BdOk (gxOf P bd) ⟨vsl, fn.ntmps, gl⟩ (fn.body.getD .skip) base := fun i r hi => by
  have hlt := bodyAt_lt _ _ _ hi
  rw [h.hnb] at hlt
  have := h.hbds i hlt
  show bd (base + i) = _
  rw [this]
  unfold bI rbOf
  rw [hi]; rfl

theorem ctx_ok {ex : List (Nat × ExA)} {P : Program} {gl : Nat → Option (List AV)} {bd : Nat → Option BInfo} {it : Tr FnI} {bt : Tr (Cmd × Cmd)} {li : List (Nat × FnI)} {lb : List (Nat × (Cmd × Cmd))} (h1 : it.list (fun i => i) = li) (h2 : bt.list (fun i => i) = lb)
    (hi : ∀ x ∈ li, ∃ fn vsl dfr base m, FnFact P gl bd x.1 x.2 fn vsl dfr base m) (hb : ∀ x ∈ lb, BdFact P gl bd x.1 x.2) (he : ∀ x ∈ ex, ExFact P x.1 x.2) : CtxOk (gxOf P bd) gl (ctxOf it bt ex) := by
  refine ⟨fun f fi hf => ?_, fun j c hj => ?_, fun f F _ hF => he (f, F) (extOf_mem hF)⟩
  · have hm := Tr.get_list it (fun i => i) f fi hf
    rw [h1] at hm
    obtain ⟨fn, vsl, dfr, base, m, hf⟩ := hi _ hm
    exact ⟨fn, _, vsl, base, dfr, hf.hfn, hf.hbody, hf.hcomp, hf.ok⟩
  · have hm := Tr.get_list bt (fun i => i) j c hj
    rw [h2] at hm
    obtain ⟨f, fi, fn, vsl, dfr, base, m, i, hf, him, hji, hc1, hc2⟩ := hb _ hm
    subst hji
    obtain ⟨hvn, _⟩ := compF_some hf.hbody hf.hcomp
    have hnd : vsl.Nodup := by
      unfold vnOk at hvn; simp only [Bool.and_eq_true] at hvn; exact noDup_nodup hvn.1.1.1.2
    have hbi := hf.hbds i him
    cases hr : bodyAt (fn.body.getD .skip) i with
    | none =>
      exfalso
      have key : ∀ (c : Code) (i : Nat), i < nb c → bodyAt c i ≠ none := by
        intro c
        induction c with
        | seq a b iha ihb | cond _ a b iha ihb =>
          intro i hi
          simp only [nb] at hi
          simp only [bodyAt]
          split
          · rename_i h; exact iha i h
          · exact ihb _ (by omega)
        | block _ b ih | loop b ih | scope b ih => intro i hi; simp only [nb] at hi; simp only [bodyAt]; exact ih i hi
        | rangeFunc _ ps a b iha ihb =>
          intro i hi
          simp only [nb] at hi
          simp only [bodyAt]
          split
          · simp
          · split
            · rename_i h; exact iha _ h
            · exact ihb _ (by omega)
        | _ => intro i hi; simp only [nb] at hi; omega
      exact key _ i (by rw [hf.hnb]; exact him) hr
    | some r =>
      have hrb : rbOf fn i = r := by unfold rbOf; rw [hr]; rfl
      obtain ⟨g1, g2, g3⟩ := bodyAt_in _ _ _ hr
      rw [hf.hnb] at g1
      have sub : ∀ (c : Code) (n : Nat), (∀ q, q < nb c → i + 1 + n + q < m ∧ bodyAt (fn.body.getD .skip) (i + 1 + n + q) = bodyAt c q) → BdOk (gxOf P bd) ⟨vsl, fn.ntmps, gl⟩ c (base + i + 1 + n) := by
        intro c n hq q r' hr'
        have hlt := bodyAt_lt _ _ _ hr'
        obtain ⟨h5, h6⟩ := hq q hlt
        have h7 := hf.hbds _ h5
        show bd (base + i + 1 + n + q) = _
        rw [show base + i + 1 + n + q = base + (i + 1 + n + q) by omega, h7]
        unfold bI rbOf
        rw [h6, hr']; rfl
      refine ⟨bI vsl fn i, base + i + 1, base + i + 1 + nb (rbOf fn i).assign, hbi, hc1, hc2, ?_, ?_, hnd⟩
      · have := sub (rbOf fn i).assign 0 fun q hq => by
          rw [hrb] at hq ⊢
          exact ⟨by omega, by rw [Nat.add_zero]; exact g2 q hq⟩
        exact this
      · exact sub (rbOf fn i).body (nb (rbOf fn i).assign) fun q hq => by
          rw [hrb] at hq ⊢
          exact ⟨by omega, g3 q hq⟩

theorem frozen_fr (w : World) (a : Addr) : w.frozen? a = (decide ((frOf w.heap[a.block]?).1 ≤ a.off) && decide (a.off < (frOf w.heap[a.block]?).2)) := by
  unfold World.frozen? frOf
  split
  · rename_i lo hi h; rw [h]
  · rename_i h
    cases ho : w.heap[a.block]? with
    | none => simp
    | some o =>
      cases o with
      | cells c e fr => exact absurd ho (by obtain ⟨lo, hi⟩ := fr; exact h c e lo hi)
      | _ => simp

theorem grown_of {w w' : World} (h1 : FrW w w') (h2 : w.heap.size ≤ w'.heap.size) (h3 : ∀ i, i < w.heap.size → w'.heap[i]? = w.heap[i]?) : RowKit.Grown w w' := by
  refine ⟨⟨h1.1, h1.2.1, fun i hi => ?_⟩, fun a => ?_, h2⟩
  · rw [h3 i hi]
    cases ho : w.heap[i]? with
    | none => rfl
    | some o =>
      cases o with
      | cells c t fr => exact ⟨rfl, rfl, rfl, fun _ _ => rfl⟩
      | map es k => exact .inr ⟨rfl, rfl⟩
      | _ => rfl
  · rw [frozen_fr, frozen_fr, h1.2.2]

/-- the call returns true -/
def endsTrue (r : Option (Ret × Heap)) : Bool := match r with
  | some (.val (.bool b), _) => b
  | _ => false
theorem endsTrue_some {r : Option (Ret × Heap)} (h : endsTrue r = true) : ∃ h, r = some (.val (.bool true), h) := by
  unfold endsTrue at h
  split at h
  · rename_i b h'; subst h; exact ⟨h', rfl⟩
  · cases h

/-- the tables of a program hold what they hold, in this world -/
def GlW (gl : Nat → Option (List AV)) (w : World) : Prop := ∀ g cs, gl g = some cs → reflessL cs = true ∧ ∃ cvs : List Value, (∀ P K, VRs P K cs cvs) ∧ (∀ (i : Nat) (v : Value), cvs[i]? = some v → w.cell? ⟨g, i, none⟩ = some v) ∧ g < w.heap.size
theorem glw_none (w : World) : GlW (fun _ => none) w := fun g cs h => by cases h

/-- A CLOSED FUNCTION: what the machine comes to is what the model's call ends in. -/
theorem closed_raw {P : Program} {gl : Nat → Option (List AV)} {bd : Nat → Option BInfo} {f : Nat} {fn : Func} (hf : P.funcs[f]? = some fn) (hb : fn.body.isSome = true) (hn : (fn.name != "runtime.NumGoroutine") = true)
    {cf : CallFn} (hok : CallOk (gxOf P bd) gl cf) (he : endsTrue (cf (.fn (.func f) [] []) [] emptyH) = true) (w : World) (hg : GlW gl w) : Calls P f #[] w fun e w' => e = .returned (.bool true) ∧ FrW w w' ∧ w.heap.size ≤ w'.heap.size ∧ ∀ i : Nat, i < w.heap.size → w'.heap[i]? = w.heap[i]? := by
  obtain ⟨h', he⟩ := endsTrue_some he
  have hok := hok _ _ _ _ he
  let K0 : Kx := { D := fun _ => False, bl := fun i => i, sh := fun _ => 0, O := fun _ => False, w := w }
  have hr0 : HR (gxOf P bd) K0 emptyH [] := ⟨fun b h => h.elim, fun b h => h.elim, fun c => ⟨fun h => h.elim, fun h => h.elim (fun h => h.elim) fun ⟨_, h, _⟩ => h.elim⟩, fun b h => h.elim, fun b x h => h.elim, fun x y h => h.elim, fun c h => h.elim, Nat.zero_le _⟩
  have hgl : GlOk P K0 gl := fun g cs hgc => (let ⟨_, cvs, h1, h2, h3⟩ := hg g cs hgc; ⟨cvs, h1 P K0, fun i v hv => by rw [Nat.zero_add]; exact h2 i v hv, fun h => h, h3⟩)
  have hcn := hok K0 (.func (.func f) #[] #[]) [] hr0 (fun i _ => rfl) hgl (VR.fn (P := P) (K := K0) f [] [] [] [] .nil .nil) .nil
  have hrun : (do let d ← Deferred.ofValue (.func (.func f) #[] #[]) ([] : List Value).toArray; invoke d.target d.args : Sem Next).run P w = .ok (.enter f #[]) w := by
    obtain ⟨b, hb⟩ := Option.isSome_iff_exists.1 hb
    have := run_callFunc (P := P) (args := #[]) (w := w) hf hb hn
    simpa [Deferred.ofValue, invoke, Sem.run_bind] using this
  have hcn' : CallN (gxOf P bd) K0 emptyH _ _ ((do let d ← Deferred.ofValue (.func (.func f) #[] #[]) ([] : List Value).toArray; invoke d.target d.args : Sem Next).run P w) := hcn
  rw [hrun] at hcn'
  refine (callsIn_wide.1 (hcn' Fence.wide 0 rfl)).mono fun e w' ⟨K', hw, h2, h3, h4⟩ => ?_
  cases e with
  | returned x =>
    have h4' : VR P K' (.bool true) x := h4
    cases h4'
    subst hw
    exact ⟨rfl, h3.tn.le.fr, h3.tn.le.size, fun i hi => h3.tn.le.imm i hi id⟩
  | panicked ch => exact h4.elim
  | outgrown => exact h4.elim

theorem closed_calls {P : Program} {gl : Nat → Option (List AV)} {bd : Nat → Option BInfo} {f : Nat} {fn : Func} (hf : P.funcs[f]? = some fn) (hb : fn.body.isSome = true) (hn : (fn.name != "runtime.NumGoroutine") = true)
    {cf : CallFn} (hok : CallOk (gxOf P bd) gl cf) (he : endsTrue (cf (.fn (.func f) [] []) [] emptyH) = true) (w : World) (hg : GlW gl w) : Calls P f #[] w fun e w' => e = .returned (.bool true) ∧ RowKit.Grown w w' :=
  (closed_raw hf hb hn hok he w hg).mono fun _e _w' ⟨h1, h2, h3, h4⟩ => ⟨h1, grown_of h2 h3 h4⟩

/-! What has been shown of closed functions is used where they are called. -/
theorem HR.grow {G : Gx} {K : Kx} {h : Heap} (hr : HR G K h []) {w' : World} (h1 : FrW K.w w') (h2 : K.w.heap.size ≤ w'.heap.size) (h3 : ∀ i : Nat, i < K.w.heap.size → w'.heap[i]? = K.w.heap[i]?) : HR G (K.on w') h [] ∧ Stp K h (K.on w') h := by
  have some' : ∀ {i : Nat} {x : Obj}, K.w.heap[i]? = some x → w'.heap[i]? = some x := fun {i x} hx => by rw [h3 i (Array.getElem?_eq_some_iff.1 hx).1]; exact hx
  have hle : Kle K (K.on w') := ⟨fun _ h => h, fun _ _ => rfl, fun _ _ => rfl, fun _ h => .inl h, fun c hc _ => h3 c hc, fun b c e fr hc => ⟨c, fr, some' hc, rfl⟩, fun b L hL => ⟨L, some' hL⟩, h2, h1⟩
  exact ⟨⟨hr.lt, fun b hb => Nat.lt_of_lt_of_le (hr.inh b hb) h2, hr.own, hr.old, fun b x hb hx => (hr.blk b x hb hx).mono hle hb (h3 _ (hr.inh b hb)), hr.dist, hr.aold, Nat.le_trans hr.bsz h2⟩,
    ⟨hle, fun b hb _ _ => h3 _ (hr.inh b hb), fun b hb hn => absurd hb hn⟩, HExt.refl _, fun h => h, fun _ h => .inl h⟩

/-- the closed functions of the list return true -/
noncomputable def sumT (l : List Nat) (cf : CallFn) : CallFn := fun g args h =>
  match g, args with
  | .fn (.func f) [] [], [] => bif_ (memN f l) (some (.val (.bool true), h)) (cf g args h)
  | _, _ => cf g args h
/-- the machine with what has been shown -/
noncomputable def evT (C : Ctx) (L : Nat) (l : List Nat) (d : Nat) : CallFn := Nat.rec (motive := fun _ => CallFn) (fun _ _ _ => none) (fun _ ih => sumT l (evCall C ih L)) d

def SumOk (P : Program) (gl : Nat → Option (List AV)) (l : List Nat) : Prop := ∀ f ∈ l, (∃ fn, P.funcs[f]? = some fn ∧ fn.body.isSome = true ∧ (fn.name != "runtime.NumGoroutine") = true) ∧
  ∀ w, GlW gl w → Calls P f #[] w fun e w' => e = .returned (.bool true) ∧ FrW w w' ∧ w.heap.size ≤ w'.heap.size ∧ ∀ i : Nat, i < w.heap.size → w'.heap[i]? = w.heap[i]?

/-- tables without references -/
def GlR (gl : Nat → Option (List AV)) : Prop := ∀ g cs, gl g = some cs → reflessL cs = true
theorem glr_none : GlR (fun _ => none) := fun g cs h => by cases h
theorem GlR.world {gl : Nat → Option (List AV)} (hr : GlR gl) {P : Program} {K : Kx} (h : GlOk P K gl) : GlW gl K.w := fun g cs hg => by
  obtain ⟨cvs, h1, h2, h3, h4⟩ := h g cs hg
  refine ⟨hr g cs hg, cvs, fun P' K' => ?_, fun i v hv => by have := h2 i v hv; rwa [Nat.zero_add] at this, h4⟩
  have gen : ∀ {l : List AV} {r : List Value}, reflessL l = true → VRs P K l r → VRs P' K' l r := by
    intro l
    induction l with
    | nil => intro r _ h; cases h; exact .nil
    | cons v l ih =>
      intro r hv h
      cases h with
      | cons _ x _ r h1 h2 =>
        have hv' : bif_ (refless v) (reflessL l) false = true := hv
        rw [bif_eq] at hv'
        split at hv'
        · rename_i h3
          refine .cons _ _ _ _ ?_ (ih hv' h2)
          cases h1 <;> first
            | (cases h3; done)
            | constructor
        · cases hv'
  exact gen (hr g cs hg) h1

theorem sumT_ok {G : Gx} {gl : Nat → Option (List AV)} {l : List Nat} {cf : CallFn} (hgr : GlR gl) (hl : SumOk G.P gl l) (hcf : CallOk G gl cf) : CallOk G gl (sumT l cf) := by
  intro g args h r he K fv avs hr hw hg hgv ha
  unfold sumT at he
  split at he
  · rename_i f
    rw [bif_eq] at he
    split at he
    · rename_i hm
      cases he
      obtain ⟨⟨fn, hf, hb, hn⟩, hc⟩ := hl f (memN_true.1 hm)
      cases ha
      cases hgv with
      | fn _ _ _ va vc h1 h2 =>
        cases h1
        cases h2
        have hrun : (do let d ← Deferred.ofValue (.func (.func f) ([] : List Value).toArray ([] : List Value).toArray) ([] : List Value).toArray; invoke d.target d.args : Sem Next).run G.P K.w = .ok (.enter f #[]) K.w := by
          obtain ⟨b, hb⟩ := Option.isSome_iff_exists.1 hb
          have := run_callFunc (P := G.P) (args := #[]) (w := K.w) hf hb hn
          simpa [Deferred.ofValue, invoke, Sem.run_bind] using this
        rw [hrun]
        intro F n hF
        refine callsIn_plain hF ((callsIn_wide.2 (hc K.w (hgr.world hg))).mono fun e w' ⟨h1, h2, h3, h4⟩ => ?_)
        subst h1
        obtain ⟨g1, g2⟩ := hr.grow h2 h3 h4
        exact ⟨K.on w', rfl, g1, g2, .bool true⟩
    · exact hcf _ _ _ _ he K fv avs hr hw hg hgv ha
  · exact hcf _ _ _ _ he K fv avs hr hw hg hgv ha

theorem evT_ok {G : Gx} {gl : Nat → Option (List AV)} {C : Ctx} {L : Nat} {l : List Nat} (hmix : G.P.follows .mixedOrders = true) (hgr : GlR gl) (hC : CtxOk G gl C) (hl : SumOk G.P gl l) : ∀ d, CallOk G gl (evT C L l d)
  | 0 => fun g args h r he => by cases he
  | d + 1 => sumT_ok hgr hl (evCall_ok hC (fun V hV hv => pre_ok hmix (by rw [hV]; exact evT_ok hmix hgr hC hl d) hv) (evT_ok hmix hgr hC hl d))

theorem sum_nil {P : Program} {gl : Nat → Option (List AV)} : SumOk P gl [] := fun f h => by cases h
theorem sum_cons {P : Program} {gl : Nat → Option (List AV)} {bd : Nat → Option BInfo} {f : Nat} {l : List Nat} {fn : Func} (hf : P.funcs[f]? = some fn) (hb : fn.body.isSome = true) (hn : (fn.name != "runtime.NumGoroutine") = true) {cf : CallFn} (hok : CallOk (gxOf P bd) gl cf)
    (he : endsTrue (cf (.fn (.func f) [] []) [] emptyH) = true) (hl : SumOk P gl l) : SumOk P gl (f :: l) := fun f' hf' => by
  rcases List.mem_cons.1 hf' with rfl | h
  · exact ⟨⟨fn, hf, hb, hn⟩, fun w hg => closed_raw hf hb hn hok he w hg⟩
  · exact hl f' h

/-! Tables: an array of integers. -/
def tabA (k : IntKind) (zs : List Int) : List AV := zs.map fun z => .int k z
theorem tabA_r (k : IntKind) (zs : List Int) : reflessL (tabA k zs) = true := by
  induction zs with
  | nil => rfl
  | cons z zs ih => exact ih
theorem tabA_v (k : IntKind) (zs : List Int) (P : Program) (K : Kx) : VRs P K (tabA k zs) (zs.map fun z => Value.int k z) := by
  induction zs with
  | nil => exact .nil
  | cons z zs ih => exact .cons _ _ _ _ (.int k z) ih
/-- tables, one behind the other -/
def glT (l : List (Nat × (IntKind × List Int))) : Nat → Option (List AV) := fun g => match l with
  | [] => none
  | x :: r => if g = x.1 then some (tabA x.2.1 x.2.2) else glT r g
theorem glT_r : ∀ (l : List (Nat × (IntKind × List Int))), GlR (glT l)
  | [] => fun g cs h => by cases h
  | x :: r => fun g cs h => by
    unfold glT at h
    split at h
    · cases h; exact tabA_r _ _
    · exact glT_r r g cs h
theorem glT_w {w : World} : ∀ (l : List (Nat × (IntKind × List Int))), (∀ x ∈ l, x.1 < w.heap.size ∧ ∀ i : Nat, i < x.2.2.length → w.cell? ⟨x.1, i, none⟩ = some (.int x.2.1 (x.2.2.getD i 0))) → GlW (glT l) w
  | [], _ => fun g cs h => by cases h
  | x :: r, hl => fun g cs h => by
    unfold glT at h
    split at h
    · rename_i e
      cases h
      subst e
      obtain ⟨h1, h2⟩ := hl x List.mem_cons_self
      refine ⟨tabA_r _ _, _, fun P K => tabA_v _ _ P K, fun i v hv => ?_, h1⟩
      rw [List.getElem?_map, Option.map_eq_some_iff] at hv
      obtain ⟨z, hz, rfl⟩ := hv
      have hi := (List.getElem?_eq_some_iff.1 hz).1
      rw [h2 i hi]
      simp [hz]
    · exact glT_w r (fun y hy => hl y (List.mem_cons_of_mem _ hy)) g cs h

end Hx

/- What has been shown of calls on given values is used where such calls occur. -/
namespace Hx
open Go
noncomputable section

/-! Whether a value reads as an immutable one. -/
def sameL (p : AV → AV → Bool) : List AV → List AV → Bool := fun k =>
  List.rec (motive := fun _ => List AV → Bool) (fun l => List.rec true (fun _ _ _ => false) l)
    (fun x _ ih l => List.rec (motive := fun _ => Bool) false (fun y r _ => bif_ (p x y) (ih r) false) l) k
def rowOf (h : Heap) (b : Nat) : Option (List AV) := ob (h.get b) fun x => match x with
  | .row cs _ => some cs
  | _ => none
def sameR (p : AV → AV → Bool) (h : Heap) (b o : Nat) (cs : List AV) : Bool := Option.rec (motive := fun _ => Bool) false (fun r => sameL p cs (dropL o r)) (rowOf h b)
def same1 (h : Heap) (im : Bool) (p : AV → AV → Bool) (k v : AV) : Bool :=
  match k with
  | .bool a => match v with
    | .bool b => bif_ a b (!b)
    | _ => false
  | .int x a => match v with
    | .int y b => bif_ (kEq x y) (eqI a b) false
    | _ => false
  | .nilp => match v with
    | .nilp => true
    | _ => false
  | .nils => match v with
    | .nils => true
    | _ => false
  | .nilm => match v with
    | .nilm => true
    | _ => false
  | .nilf => match v with
    | .nilf => true
    | _ => false
  | .nili => match v with
    | .nili => true
    | _ => false
  | .emp => match v with
    | .emp => true
    | .msl _ _ _ n => Nat.beq n 0
    | _ => false
  | .isl cs n => match v with
    | .msl _ b o m => bif_ (Nat.ble 1 n) (bif_ (Nat.beq n m) (sameR p h b o cs) false) false
    | .isl ds m => bif_ im (bif_ (Nat.beq n m) (sameL p cs ds) false) false
    | _ => false
  | .iptr cs o => match v with
    | .ptr b q => bif_ (Nat.beq o q) (sameR p h b 0 cs) false
    | .iptr ds q => bif_ im (bif_ (Nat.beq o q) (sameL p cs ds) false) false
    | _ => false
  | .agg a => match v with
    | .agg b => sameL p a b
    | _ => false
  | .tup a => match v with
    | .tup b => sameL p a b
    | _ => false
  | .fn f [] [] => match f with
    | .func f => match v with
      | .fn g [] [] => match g with
        | .func g => Nat.beq f g
        | _ => false
      | _ => false
    | _ => false
  | _ => false
def sameV (h : Heap) (d : Nat) : AV → AV → Bool := Nat.rec (motive := fun _ => AV → AV → Bool) (fun _ _ => false) (fun _ ih => same1 h true ih) d
/-- .. one that lies in blocks of its own -/
def samF (h : Heap) (d : Nat) : AV → AV → Bool := Nat.rec (motive := fun _ => AV → AV → Bool) (fun _ _ => false) (fun _ ih => same1 h false ih) d

abbrev Mem := List (Nat × List (List AV × AV))
def memGet (t : Mem) (f : Nat) : List (List AV × AV) := List.rec [] (fun x _ ih => bif_ (Nat.beq f x.1) x.2 ih) t
def memFind (h : Heap) (args : List AV) (l : List (List AV × AV)) : Option AV := List.rec none (fun x _ ih => bif_ (sameL (sameV h 12) x.1 args) (some x.2) ih) l
def memT (t : Mem) (cf : CallFn) : CallFn := fun g args h =>
  match g with
  | .fn (.func f) [] [] => Option.rec (motive := fun _ => Option (Ret × Heap)) (cf g args h) (fun v => some (.val v, h)) (memFind h args (memGet t f))
  | _ => cf g args h
def evM (C : Ctx) (L : Nat) (t : Mem) (d : Nat) : CallFn := Nat.rec (motive := fun _ => CallFn) (fun _ _ _ => none) (fun _ ih => memT t (evCall C ih L)) d
def valOf (r : Option (Ret × Heap)) : Option Ret := ob r fun r => some r.1
/-- the call returns this, written nowhere else -/
def frzOf (r : Option (Ret × Heap)) (k : AV) : Bool := Option.rec (motive := fun _ => Bool) false (fun r => match r.1 with | .val v => samF r.2 12 k v | _ => false) r
end

/-- nothing is known, nothing may be written -/
def Kx.shut (K : Kx) : Kx := { K with D := fun _ => False, O := fun _ => False }
/-- .. some blocks are barred -/
def Kx.shutO (K : Kx) (O : Nat → Prop) : Kx := { K with D := fun _ => False, O := O }

section
variable {G : Gx} {P : Program} {K : Kx} {h : Heap}

theorem sameL_ok {O : Nat → Prop} {p : AV → AV → Bool} (hp : ∀ k v x, p k v = true → VR P K v x → VR P (K.shutO O) k x) : ∀ {ks vs : List AV} {xs : List Value}, sameL p ks vs = true → VRs P K vs xs → VRs P (K.shutO O) ks xs
  | [], [], xs, _, hv => by cases hv; exact .nil
  | [], _ :: _, xs, h, _ => by cases h
  | k :: ks, [], xs, h, _ => by cases h
  | k :: ks, v :: vs, xs, h, hv => by
    have h' : bif_ (p k v) (sameL p ks vs) false = true := h
    rw [bif_eq] at h'
    split at h'
    · rename_i hk
      cases hv with
      | cons _ x _ r h1 h2 => exact .cons _ _ _ _ (hp _ _ _ hk h1) (sameL_ok hp h' h2)
    · cases h'

theorem sameR_ok {O : Nat → Prop} (hr : HR G K h []) {p : AV → AV → Bool} (hp : ∀ k v x, p k v = true → VR G.P K v x → VR G.P (K.shutO O) k x) {b o : Nat} {cs : List AV} (hd : K.D b) (hs : sameR p h b o cs = true) :
    ∃ cvs, VRs G.P (K.shutO O) cs cvs ∧ (K.shutO O).at (K.bl b) (K.sh b + o) cvs ∧ K.bl b < K.w.heap.size := by
  unfold sameR at hs
  cases hro : rowOf h b with
  | none => rw [hro] at hs; cases hs
  | some r =>
    rw [hro] at hs
    have hs' : sameL p cs (dropL o r) = true := hs
    unfold rowOf at hro
    rw [ob_some] at hro
    obtain ⟨x, hx, hro⟩ := hro
    cases x <;> simp only [reduceCtorEq, Option.some.injEq] at hro
    subst hro
    obtain ⟨c, cvs, h1, h2, h3, h4⟩ := hr.blk b _ hd hx
    rw [dropL_eq] at hs'
    refine ⟨cvs.drop o, sameL_ok hp hs' (h2.drop o), fun i v hv => ?_, hr.inh b hd⟩
    rw [List.getElem?_drop] at hv
    have := h3 _ _ hv
    show K.w.cell? _ = _
    unfold World.cell?
    simp only [h1]
    rw [← Nat.add_assoc] at this
    simpa using this

theorem same1_ok {O : Nat → Prop} {im : Bool} (hO : ∀ b, K.D b → ¬ O (K.bl b)) (hI : im = true → ∀ b, ¬ O b) (hr : HR G K h []) {p : AV → AV → Bool} (hp : ∀ k v x, p k v = true → VR G.P K v x → VR G.P (K.shutO O) k x) {k v : AV} {x : Value} (hs : same1 h im p k v = true) (hv : VR G.P K v x) : VR G.P (K.shutO O) k x := by
  have atS : ∀ {b q : Nat} {cvs : List Value}, K.at b q cvs → (K.shutO O).at b q cvs := fun h => h
  unfold same1 at hs
  split at hs
  · split at hs
    · rename_i a _ b
      cases hv
      rw [bif_eq] at hs
      have : a = b := by cases a <;> cases b <;> simp at hs <;> rfl
      subst this; exact .bool _
    · cases hs
  · split at hs
    · rename_i x a _ y b
      cases hv
      rw [bif_eq] at hs
      split at hs
      · rename_i hk
        have e1 : x = y := by cases x <;> cases y <;> first | rfl | (cases hk; done)
        have e2 : a = b := by
          cases a <;> cases b <;> simp only [eqI, Bool.false_eq_true] at hs
          · rw [Nat.eq_of_beq_eq_true hs]
          · rw [Nat.eq_of_beq_eq_true hs]
        subst e1 e2; exact .int _ _
      · cases hs
    · cases hs
  · split at hs
    · cases hv; exact .nilp
    · cases hs
  · split at hs
    · cases hv; exact .nils
    · cases hs
  · split at hs
    · cases hv; exact .nilm
    · cases hs
  · split at hs
    · cases hv; exact .nilf
    · cases hs
  · split at hs
    · cases hv; exact .nili
    · cases hs
  · split at hs
    · cases hv
      · exact .emp0
      · exact .emp1 _ _
    · have hn := Nat.eq_of_beq_eq_true hs
      subst hn
      cases hv
      · exact .emp1 _ _
      · exact .emp1 _ _
    · cases hs
  · split at hs
    · rw [bif_eq, bif_eq] at hs
      split at hs
      · rename_i h1
        split at hs
        · rename_i h2
          have h2 := Nat.eq_of_beq_eq_true h2
          subst h2
          cases hv with
          | msl e b o n cap c t fr hd hn hc hsz =>
            obtain ⟨cvs, g1, g2, g3⟩ := sameR_ok hr hp hd hs
            rw [Nat.add_comm] at g2
            exact .isl _ _ _ _ _ cvs g1 g2 (hO _ hd) g3 hn
          | msl0 => cases h1
        · cases hs
      · cases hs
    · rw [bif_eq, bif_eq] at hs
      split at hs
      · rename_i him
        split at hs
        · rename_i h2
          have h2 := Nat.eq_of_beq_eq_true h2
          subst h2
          cases hv with
          | isl _ _ b q cap cvs h1 h2 h3 h4 h5 => exact .isl _ _ _ _ _ cvs (sameL_ok hp hs h1) (atS h2) (hI him _) h4 h5
        · cases hs
      · cases hs
    · cases hs
  · split at hs
    · rw [bif_eq] at hs
      split at hs
      · rename_i h2
        have h2 := Nat.eq_of_beq_eq_true h2
        subst h2
        cases hv with
        | ptr b o hd =>
          obtain ⟨cvs, g1, g2, g3⟩ := sameR_ok hr hp hd hs
          rw [Nat.add_zero] at g2
          have hx := fun o => VR.iptr (P := G.P) (K := K.shutO O) _ o _ _ cvs g1 g2 (hO _ hd) g3
          exact (show ∀ (c : List AV) (B q o : Nat), VR G.P (K.shutO O) (.iptr c o) (.pointer (some ⟨B, q + o, none⟩)) → VR G.P (K.shutO O) (.iptr c o) (.pointer (some ⟨B, o + q, none⟩)) from fun c B q o h => by rw [Nat.add_comm o q]; exact h) _ _ _ _ (hx _)
      · cases hs
    · rw [bif_eq, bif_eq] at hs
      split at hs
      · rename_i him
        split at hs
        · rename_i h2
          have h2 := Nat.eq_of_beq_eq_true h2
          subst h2
          cases hv with
          | iptr _ _ b q cvs h1 h2 h3 h4 => exact .iptr _ _ _ _ cvs (sameL_ok hp hs h1) (atS h2) (hI him _) h4
        · cases hs
      · cases hs
    · cases hs
  · split at hs
    · cases hv with
      | agg _ vs h1 => exact .agg _ _ (sameL_ok hp hs h1)
    · cases hs
  · split at hs
    · cases hv with
      | tup _ vs h1 => exact .tup _ _ (sameL_ok hp hs h1)
    · cases hs
  · split at hs
    · split at hs
      · split at hs
        · have h2 := Nat.eq_of_beq_eq_true hs
          subst h2
          cases hv with
          | fn _ _ _ va vc h1 h2 => cases h1; cases h2; exact .fn _ [] [] [] [] .nil .nil
        · cases hs
      · cases hs
    · cases hs
  · cases hs

theorem sameV_ok (hr : HR G K h []) : ∀ (d : Nat) (k v : AV) (x : Value), sameV h d k v = true → VR G.P K v x → VR G.P K.shut k x
  | 0, k, v, x, hs, _ => by cases hs
  | d + 1, k, v, x, hs, hv => same1_ok (O := fun _ => False) (fun _ _ h => h) (fun _ _ h => h) hr (sameV_ok hr d) hs hv
theorem samF_ok {O : Nat → Prop} (hO : ∀ b, K.D b → ¬ O (K.bl b)) (hr : HR G K h []) : ∀ (d : Nat) (k v : AV) (x : Value), samF h d k v = true → VR G.P K v x → VR G.P (K.shutO O) k x
  | 0, k, v, x, hs, _ => by cases hs
  | d + 1, k, v, x, hs, hv => same1_ok hO (fun h => by cases h) hr (samF_ok hO hr d) hs hv

theorem VR.closed {P : Program} {K1 K2 : Kx} {v : AV} {x : Value} (hD : ∀ b, ¬ K1.D b) (hw : K2.w = K1.w) (hO : ∀ b, K2.O b → K1.O b) (h : VR P K1 v x) : VR P K2 v x :=
  h.monoW ⟨fun b h => (hD b h).elim, fun b h => (hD b h).elim, fun b h => (hD b h).elim, fun b hb => .inl (hO b hb), fun b _ _ => .inl (by rw [hw]), fun b c e fr h => ⟨c, fr, by rw [hw]; exact h, rfl⟩, by rw [hw]; exact Nat.le_refl _⟩
/-- what lies in blocks that have come since -/
def Kx.fresh (K : Kx) (w' : World) : Kx := { K with D := fun _ => False, O := fun b => b < K.w.heap.size, w := w' }
/-- what has been shown of a call on immutable values -/
def MemE (P : Program) (gl : Nat → Option (List AV)) (f : Nat) (key : List AV) (v : AV) : Prop :=
  (∃ fn, P.funcs[f]? = some fn ∧ fn.body.isSome = true ∧ (fn.name != "runtime.NumGoroutine") = true) ∧
  ∀ (K : Kx) (avs : List Value), GlW gl K.w → (∀ b, ¬ K.D b) → (∀ c, ¬ K.O c) → VRs P K key avs →
    Calls P f avs.toArray K.w fun e w' => (∃ x, e = .returned x ∧ VR P (K.fresh w') v x) ∧ FrW K.w w' ∧ K.w.heap.size ≤ w'.heap.size ∧ ∀ i : Nat, i < K.w.heap.size → w'.heap[i]? = K.w.heap[i]?

theorem mem_ofG {P : Program} {gl : Nat → Option (List AV)} {bd : Nat → Option BInfo} {f : Nat} {fn : Func} (hf : P.funcs[f]? = some fn) (hb : fn.body.isSome = true) (hn : (fn.name != "runtime.NumGoroutine") = true) {cf : CallFn} (hok : CallOk (gxOf P bd) gl cf)
    {key : List AV} {v v0 : AV} {h' : Heap} (he : cf (.fn (.func f) [] []) key emptyH = some (.val v0, h'))
    (hv : ∀ (K K' : Kx) (x : Value), (∀ b, K'.D b → K.w.heap.size ≤ K'.bl b) → HR (gxOf P bd) K' h' [] → VR P K' v0 x → VR P (K.fresh K'.w) v x) : MemE P gl f key v := by
  refine ⟨⟨fn, hf, hb, hn⟩, fun K avs hg hD hO ha => ?_⟩
  have hr0 : HR (gxOf P bd) K emptyH [] := ⟨fun b h => (hD b h).elim, fun b h => (hD b h).elim, fun c => ⟨fun h => (hO c h).elim, fun h => h.elim (fun h => h.elim) fun ⟨b, h, _⟩ => (hD b h).elim⟩, fun b h => (hD b h).elim, fun b x h => (hD b h).elim, fun x y h => (hD x h).elim, fun c h => h.elim, Nat.zero_le _⟩
  have hgl : GlOk P K gl := fun g cs hgc => (let ⟨_, cvs, h1, h2, h3⟩ := hg g cs hgc; ⟨cvs, h1 P K, fun i v hv => by rw [Nat.zero_add]; exact h2 i v hv, hO _, h3⟩)
  have hcn := hok _ _ _ _ he K (.func (.func f) #[] #[]) avs hr0 (fun i _ => rfl) hgl (VR.fn (P := P) (K := K) f [] [] [] [] .nil .nil) ha
  have hrun : (do let d ← Deferred.ofValue (.func (.func f) #[] #[]) avs.toArray; invoke d.target d.args : Sem Next).run P K.w = .ok (.enter f avs.toArray) K.w := by
    obtain ⟨b, hb⟩ := Option.isSome_iff_exists.1 hb
    have := run_callFunc (P := P) (args := avs.toArray) (w := K.w) hf hb hn
    simpa [Deferred.ofValue, invoke, Sem.run_bind] using this
  have hcn' : CallN (gxOf P bd) K emptyH _ _ ((do let d ← Deferred.ofValue (.func (.func f) #[] #[]) avs.toArray; invoke d.target d.args : Sem Next).run P K.w) := hcn
  rw [hrun] at hcn'
  refine (callsIn_wide.1 (hcn' Fence.wide 0 rfl)).mono fun e w' ⟨K', hw, h2, h3, h4⟩ => ?_
  cases e with
  | returned x =>
    subst hw
    refine ⟨⟨x, rfl, hv K K' x (fun b hb => ?_) h2 h4⟩, h3.tn.le.fr, h3.tn.le.size, fun i hi => h3.tn.le.imm i hi (hO i)⟩
    rcases h3.tn.nb b hb (hD b) with h | ⟨a, ha, _⟩
    · exact h
    · exact absurd ha (hD a)
  | panicked ch => exact h4.elim
  | outgrown => exact h4.elim
theorem mem_of {P : Program} {gl : Nat → Option (List AV)} {bd : Nat → Option BInfo} {f : Nat} {fn : Func} (hf : P.funcs[f]? = some fn) (hb : fn.body.isSome = true) (hn : (fn.name != "runtime.NumGoroutine") = true) {cf : CallFn} (hok : CallOk (gxOf P bd) gl cf)
    {key : List AV} {v : AV} (hv : hasNoRef v = true) (he : valOf (cf (.fn (.func f) [] []) key emptyH) = some (.val v)) : MemE P gl f key v := by
  unfold valOf at he
  rw [ob_some] at he
  obtain ⟨⟨rt, h'⟩, he, hr⟩ := he
  simp only [Option.some.injEq] at hr
  subst hr
  exact mem_ofG hf hb hn hok he fun K K' x _ _ hx => hasNoRef_ok hv hx
/-- .. of one that returns blocks of its own -/
theorem mem_ofF {P : Program} {gl : Nat → Option (List AV)} {bd : Nat → Option BInfo} {f : Nat} {fn : Func} (hf : P.funcs[f]? = some fn) (hb : fn.body.isSome = true) (hn : (fn.name != "runtime.NumGoroutine") = true) {cf : CallFn} (hok : CallOk (gxOf P bd) gl cf)
    {key : List AV} {v : AV} (he : frzOf (cf (.fn (.func f) [] []) key emptyH) v = true) : MemE P gl f key v := by
  cases hr : cf (.fn (.func f) [] []) key emptyH with
  | none => rw [hr] at he; cases he
  | some r =>
    obtain ⟨rt, h'⟩ := r
    rw [hr] at he
    cases rt with
    | pan => cases he
    | val v0 => exact mem_ofG hf hb hn hok hr fun K K' x hD hH hx => VR.closed (K1 := K'.shutO fun b => b < K.w.heap.size) (fun _ h => h) rfl (fun _ h => h) (samF_ok (K := K') (O := fun b => b < K.w.heap.size) (fun b hb h => Nat.lt_irrefl _ (Nat.lt_of_lt_of_le h (hD b hb))) hH 12 v v0 x he hx)

theorem HR.inO (hr : HR G K h []) {b : Nat} (hb : K.O b) : b < K.w.heap.size := by
  rcases (hr.own b).1 hb with h1 | ⟨c, h1, _, rfl⟩
  · exact Nat.lt_of_lt_of_le (hr.aold b h1) hr.bsz
  · exact hr.inh c h1
def MemOk (P : Program) (gl : Nat → Option (List AV)) (t : Mem) : Prop := ∀ x ∈ t, ∀ y ∈ x.2, MemE P gl x.1 y.1 y.2

theorem memGet_mem {f : Nat} : ∀ {t : Mem} {y : List AV × AV}, y ∈ memGet t f → ∃ x ∈ t, x.1 = f ∧ y ∈ x.2
  | [], y, h => by cases h
  | x :: t, y, h => by
    have h' : y ∈ bif_ (Nat.beq f x.1) x.2 (memGet t f) := h
    rw [bif_eq] at h'
    split at h'
    · rename_i hf; exact ⟨x, List.mem_cons_self, (Nat.eq_of_beq_eq_true hf).symm, h'⟩
    · obtain ⟨z, h1, h2⟩ := memGet_mem h'; exact ⟨z, List.mem_cons_of_mem _ h1, h2⟩
theorem memFind_mem {h : Heap} {args : List AV} {v : AV} : ∀ {l : List (List AV × AV)}, memFind h args l = some v → ∃ key, (key, v) ∈ l ∧ sameL (sameV h 12) key args = true
  | [], h => by cases h
  | x :: l, hm => by
    have h' : bif_ (sameL (sameV h 12) x.1 args) (some x.2) (memFind h args l) = some v := hm
    rw [bif_eq] at h'
    split at h'
    · rename_i hs; cases h'; exact ⟨x.1, List.mem_cons_self, hs⟩
    · obtain ⟨key, h1, h2⟩ := memFind_mem h'; exact ⟨key, List.mem_cons_of_mem _ h1, h2⟩

theorem memT_ok {gl : Nat → Option (List AV)} {t : Mem} {cf : CallFn} (hgr : GlR gl) (ht : MemOk G.P gl t) (hcf : CallOk G gl cf) : CallOk G gl (memT t cf) := by
  intro g args h r he K fv avs hr hw hg hgv ha
  unfold memT at he
  split at he
  · rename_i f
    cases hm : memFind h args (memGet t f) with
    | none => rw [hm] at he; exact hcf _ _ _ _ he K fv avs hr hw hg hgv ha
    | some v =>
      rw [hm] at he
      have he' : some (Ret.val v, h) = some r := he
      cases he'
      obtain ⟨key, h1, h2⟩ := memFind_mem hm
      obtain ⟨x, h3, h4, h5⟩ := memGet_mem h1
      obtain ⟨⟨fn, hf, hb, hn⟩, hc⟩ := ht x h3 _ h5
      rw [h4] at hf hc
      cases hgv with
      | fn _ _ _ va vc g1 g2 =>
        cases g1
        cases g2
        have hrun : (do let d ← Deferred.ofValue (.func (.func f) ([] : List Value).toArray ([] : List Value).toArray) avs.toArray; invoke d.target d.args : Sem Next).run G.P K.w = .ok (.enter f avs.toArray) K.w := by
          obtain ⟨b, hb⟩ := Option.isSome_iff_exists.1 hb
          have := run_callFunc (P := G.P) (args := avs.toArray) (w := K.w) hf hb hn
          simpa [Deferred.ofValue, invoke, Sem.run_bind] using this
        rw [hrun]
        intro F n hF
        have hkey := sameL_ok (sameV_ok hr 12) h2 ha
        refine callsIn_plain hF ((callsIn_wide.2 (hc K.shut avs (show GlW gl K.w from hgr.world hg) (fun _ h => h) (fun _ h => h) hkey)).mono fun e w' ⟨⟨x, hx, hvx⟩, q2, q3, q4⟩ => ?_)
        subst hx
        obtain ⟨u1, u2⟩ := hr.grow q2 q3 q4
        exact ⟨K.on w', rfl, u1, u2, VR.closed (K1 := K.shut.fresh w') (fun _ h => h) rfl (fun b hb => hr.inO hb) hvx⟩
  · exact hcf _ _ _ _ he K fv avs hr hw hg hgv ha

theorem evM_ok {gl : Nat → Option (List AV)} {C : Ctx} {L : Nat} {t : Mem} (hmix : G.P.follows .mixedOrders = true) (hgr : GlR gl) (hC : CtxOk G gl C) (ht : MemOk G.P gl t) : ∀ d, CallOk G gl (evM C L t d)
  | 0 => fun g args h r he => by cases he
  | d + 1 => memT_ok hgr ht (evCall_ok hC (fun V hV hv => pre_ok hmix (by rw [hV]; exact evM_ok hmix hgr hC ht d) hv) (evM_ok hmix hgr hC ht d))

theorem mem_nil {gl : Nat → Option (List AV)} : MemOk P gl [] := fun x h => by cases h

/-- a closed law -/
theorem memE_calls {P : Program} {gl : Nat → Option (List AV)} {f : Nat} (h : MemE P gl f [] (.bool true)) (w : World) (hg : GlW gl w) : Calls P f #[] w fun e w' => e = .returned (.bool true) ∧ RowKit.Grown w w' := by
  obtain ⟨_, hc⟩ := h
  refine (hc { D := fun _ => False, bl := fun i => i, sh := fun _ => 0, O := fun _ => False, w := w } [] hg (fun _ h => h) (fun _ h => h) .nil).mono fun e w' ⟨⟨x, hx, hv⟩, h2, h3, h4⟩ => ?_
  cases hv
  exact ⟨hx, grown_of h2 h3 h4⟩

end
end Hx

