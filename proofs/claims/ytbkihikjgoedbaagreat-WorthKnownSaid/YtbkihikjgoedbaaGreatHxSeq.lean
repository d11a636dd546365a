/- Sequential regions: the machine's steps are the model's. -/
import Derived.Test.YtbkihikjgoedbaaGreatHxShape
import Derived.RangeFuncIn
namespace Hx
open Go

/-- the tables that never change -/
def GlOk (P : Program) (K : Kx) (gl : Nat → Option (List AV)) : Prop :=
  ∀ g cs, gl g = some cs → ∃ cvs, VRs P K cs cvs ∧ K.at g 0 cvs ∧ ¬ K.O g ∧ g < K.w.heap.size
theorem GlOk.mono {P : Program} {K K' : Kx} {gl : Nat → Option (List AV)} (hk : Kle K K') (h : GlOk P K gl) : GlOk P K' gl := fun g cs hg =>
  let ⟨cvs, h1, h2, h3, h4⟩ := h g cs hg
  ⟨cvs, h1.mono hk, hk.at h3 h4 h2, hk.nown h3 h4, Nat.lt_of_lt_of_le h4 hk.size⟩

/-- a deferred call -/
inductive DR (P : Program) (K : Kx) : AV × List AV → Deferred → Prop
  | mk (f : FuncId) (a c as : List AV) (va vc vas : List Value) : VRs P K a va → VRs P K c vc → VRs P K as vas →
      DR P K (.fn (.func f) a c, as) { target := .fn (.func f) vc.toArray, args := va.toArray ++ vas.toArray }
/-- the deferred calls, and the marks of the ranges over functions; m: the size of the heap where the function began -/
inductive DRs (P : Program) (K : Kx) (m : Option Nat) : Defs → List Deferred → Prop
  | nil : DRs P K m [] []
  | cons (x : AV × List AV) (d : Deferred) (l : Defs) (r : List Deferred) : DR P K x d → DRs P K m l r → DRs P K m (x :: l) (d :: r)
  | mark (b : Nat) (l : Defs) (r : List Deferred) : K.w.heap[b]? = some (.deferred (some [])) → ¬ K.O b → (∃ m0, m = some m0 ∧ m0 ≤ b) → (∀ d, d ∈ r → d.target ≠ .collected b) → DRs P K m l r →
      DRs P K m l ({ target := .collected b, args := #[] } :: r)
theorem DR.mono {P : Program} {K K' : Kx} (hk : Kle K K') {x : AV × List AV} {d : Deferred} (h : DR P K x d) : DR P K' x d := by
  cases h with
  | mk f a c as va vc vas h1 h2 h3 => exact .mk f a c as va vc vas (h1.mono hk) (h2.mono hk) (h3.mono hk)
theorem DRs.mono {P : Program} {K K' : Kx} (hk : Kle K K') {m : Option Nat} {l : Defs} {r : List Deferred} (h : DRs P K m l r) : DRs P K' m l r := by
  induction h with
  | nil => exact .nil
  | cons x d l r h _ ih => exact .cons x d l r (h.mono hk) ih
  | mark b l r h1 h2 h3 h4 _ ih =>
    have hb := (Array.getElem?_eq_some_iff.1 h1).1
    exact .mark b l r (by rw [hk.imm b hb h2]; exact h1) (hk.nown h2 hb) h3 h4 ih

/-- a step from one state to another -/
structure Stp (K : Kx) (h : Heap) (K' : Kx) (h' : Heap) : Prop where
  tn : Tn (fun i => h'.low ≤ i) h K K'
  ext : HExt h h'
  wf : h.wf → h'.wf
  dm : ∀ b, K'.D b → K.D b ∨ h.next ≤ b
theorem Stp.refl (K : Kx) (h : Heap) : Stp K h K h := ⟨Tn.refl _ _ _, HExt.refl _, fun h => h, fun _ h => .inl h⟩
theorem Stp.trans {G : Gx} {K K' K'' : Kx} {h h' h'' : Heap} {ks : List Nat} (hr : HR G K h ks) (a : Stp K h K' h') (b : Stp K' h' K'' h'') : Stp K h K'' h'' := by
  refine ⟨(a.tn.mono fun i hi => Nat.le_trans b.ext.low hi).trans b.tn fun i hi => ⟨fun hn hl => ?_, fun hl => ?_⟩, a.ext.trans b.ext, fun hw => b.wf (a.wf hw), fun i hi => (b.dm i hi).elim (a.dm i) fun h => .inr (Nat.le_trans a.ext.next h)⟩
  · rw [a.ext.same i (hr.lt i hi) (by have := b.ext.low; omega)]; exact hl
  · cases hg : h.get i with
    | some x => rfl
    | none => rw [a.ext.dead i (hr.lt i hi) hg] at hl; cases hl

/-- what a call ends in -/
def RetR (G : Gx) (K : Kx) (h : Heap) (r : Ret × Heap) : Ending → World → Prop := fun e w' =>
  ∃ K', w' = K'.w ∧ HR G K' r.2 [] ∧ Stp K h K' r.2 ∧ match r.1, e with
    | .val v, .returned x => VR G.P K' v x
    | .pan v, .panicked ch => ∃ x, ch = [{ v := x, recovered := false }] ∧ VR G.P K' v x
    | _, _ => False

/-- the fence: none -/
def plainF (F : Fence) : Prop := F.plain = Fence.wide
theorem plainF_fn {F : Fence} (h : plainF F) : (∀ f, F.fn f) ∧ F.depth = none := by
  have h' : F.plain = Fence.wide := h
  constructor
  · intro f; have : F.plain.fn = Fence.wide.fn := by rw [h']
    show F.plain.fn f; rw [this]; trivial
  · show F.plain.depth = none; rw [h']; rfl

/-- a function that is ranged over -/
def Ranged (g : AV) (args : List AV) : Prop := isFn g = true ∧ ∃ l, .fn (.yield l) [] [] ∈ args

/-- what the model does with a call -/
def CallN (G : Gx) (K : Kx) (h : Heap) (N : Prop) (r : Ret × Heap) : Result Next → Prop
  | .ok (.value x) w' => ¬ N ∧ RetR G K h r (.returned x) w'
  | .ok (.enter f args) w' => ∀ F n, plainF F → CallsIn F n G.P f args w' (RetR G K h r)
  | .ok (.round l f tmps assign body) w' => ¬ N ∧ ∀ F n, plainF F → RoundIn F n G.P l f tmps assign body w' (RetR G K h r)
  | _ => False

def CallOk (G : Gx) (gl : Nat → Option (List AV)) (cf : CallFn) : Prop :=
  ∀ g args h r, cf g args h = some r → ∀ K fv avs, HR G K h [] → h.wf → GlOk G.P K gl → VR G.P K g fv → VRs G.P K args avs →
    CallN G K h (Ranged g args) r ((do let d ← Deferred.ofValue fv avs.toArray; invoke d.target d.args : Sem Next).run G.P K.w)

/-- variables, heap, deferred calls -/
structure SR (G : Gx) (V : Vn) (m : Option Nat) (K : Kx) (a : Act) (vs : List AV) (h : Heap) (ds : Defs) : Prop where
  slots : Slots G.P K V.vsl vs a.tmps
  nt : V.nt ≤ a.tmps.size
  hr : HR G K h []
  wf : h.wf
  dfr : DRs G.P K m ds a.defers
  gl : GlOk G.P K V.gl

/-- the results of a region's operations, the newest first -/
def Stk (P : Program) (K : Kx) (a : Act) (stk : List AV) (ds : List (Option Nat)) : Prop :=
  ∀ t j, idxO t ds = some j → ∃ v x, stk[j]? = some v ∧ a.tmps[t]? = some x ∧ VR P K v x

theorem idxN_some {t : Nat} {l : List Nat} {i : Nat} (h : idxN t l = some i) : l[i]? = some t := by
  induction l generalizing i with
  | nil => cases h
  | cons x l ih =>
    unfold idxN at h
    split at h
    · rename_i e; cases h; simp [e]
    · rw [Option.map_eq_some_iff] at h; obtain ⟨j, h1, rfl⟩ := h; simpa using ih h1
theorem idxN_none {t : Nat} {l : List Nat} (h : idxN t l = none) : t ∉ l := by
  induction l with
  | nil => simp
  | cons x l ih =>
    unfold idxN at h
    split at h
    · cases h
    · rename_i e; rw [Option.map_eq_none_iff] at h; simp [ih h, Ne.symm e]

section
variable {G : Gx} {V : Vn} {m : Option Nat} {K : Kx} {a : Act} {stk vs : List AV} {ds : List (Option Nat)} {h : Heap} {dfs : Defs}

theorem ops_ok (hs : SR G V m K a vs h dfs) (ht : Stk G.P K a stk ds) : OpsOk G.P K (compX V ds) stk vs a.eval := by
  intro x f v hc hf
  cases x with
  | tmp t =>
    simp only [compX] at hc
    split at hc
    · rename_i j hj
      cases hc
      obtain ⟨v', x, h1, h2, h3⟩ := ht t j hj
      have hf' : getL stk j = some v := hf
      rw [getL_eq, h1] at hf'
      cases hf'
      show VR G.P K v (a.tmps.getD t undef)
      rw [Array.getD_eq_getD_getElem?, h2]; exact h3
    · rw [Option.map_eq_some_iff] at hc
      obtain ⟨i, hi, rfl⟩ := hc
      obtain ⟨v', x, h1, h2, h3⟩ := hs.slots.2 i t (idxN_some hi)
      have hf' : getL vs i = some v := hf
      rw [getL_eq, h1] at hf'
      cases hf'
      show VR G.P K v (a.tmps.getD t undef)
      rw [Array.getD_eq_getD_getElem?, h2]; exact h3
  | const c =>
    simp only [compX, Option.map_eq_some_iff] at hc
    obtain ⟨u, hu, rfl⟩ := hc
    cases hf
    exact ofValue_ok hu
  | global g =>
    simp only [compX, Option.map_eq_some_iff] at hc
    obtain ⟨cs, hu, rfl⟩ := hc
    cases hf
    obtain ⟨cvs, h1, h2, h3, h4⟩ := hs.gl g cs hu
    have := VR.iptr cs 0 g 0 cvs h1 h2 h3 h4
    simpa [Act.eval] using this
  | func f =>
    cases hc
    cases hf
    exact VR.fn f [] [] [] [] .nil .nil

theorem put_tmps (a : Act) (d : Option Nat) (v : Value) (t : Nat) : (a.put d v).tmps[t]? = if d = some t ∧ t < a.tmps.size then some v else a.tmps[t]? := by
  cases d with
  | none => simp [Act.put]
  | some d =>
    show (a.tmps.setIfInBounds d v)[t]? = _
    rw [Array.getElem?_setIfInBounds]
    by_cases h : d = t
    · subst h
      by_cases h2 : d < a.tmps.size
      · simp [h2]
      · simp [h2]
    · simp [h]
theorem put_size (a : Act) (d : Option Nat) (v : Value) : (a.put d v).tmps.size = a.tmps.size := by
  cases d <;> simp [Act.put]
theorem put_defers (a : Act) (d : Option Nat) (v : Value) : (a.put d v).defers = a.defers := by cases d <;> rfl

/-- a result is put in its place -/
theorem put_ok {K' : Kx} {h' : Heap} (hv : V.vsl.Nodup) (hs : SR G V m K a vs h dfs) (hk : Kle K K') (hr : HR G K' h' []) (hw : h'.wf) {dst : Option Nat} (hd : dstOk V dst = true) {v : AV} {x : Value} (hx : VR G.P K' v x)
    {dfs' : Defs} {a' : Act} (ha : a'.tmps = a.tmps) (hdf : DRs G.P K' m dfs' a'.defers) : SR G V m K' (a'.put dst x) (putV vs (dst.bind (idxN · V.vsl)) v) h' dfs' := by
  refine ⟨⟨?_, fun i t hi => ?_⟩, by rw [put_size, ha]; exact hs.nt, hr, hw, by rw [put_defers]; exact hdf, hs.gl.mono hk⟩
  · cases hb : dst.bind (idxN · V.vsl) with
    | none => exact hs.slots.1
    | some j => show (set1 vs j v).length = _; rw [set1_eq, List.length_set]; exact hs.slots.1
  · obtain ⟨v', y, h1, h2, h3⟩ := hs.slots.2 i t hi
    rw [put_tmps, ha]
    by_cases hdt : dst = some t
    · subst hdt
      have hlt : t < a.tmps.size := by simp [dstOk] at hd; exact Nat.lt_of_lt_of_le hd hs.nt
      rw [if_pos ⟨rfl, hlt⟩]
      cases hb : idxN t V.vsl with
      | none => exact absurd (List.mem_of_getElem? hi) (idxN_none hb)
      | some j =>
        have hj := idxN_some hb
        have : i = j := by
          obtain ⟨h5, h5'⟩ := (List.getElem?_eq_some_iff.1 hi)
          obtain ⟨h6, h6'⟩ := (List.getElem?_eq_some_iff.1 hj)
          have hp := List.pairwise_iff_getElem.1 hv
          rcases Nat.lt_trichotomy i j with h7 | h7 | h7
          · exact absurd (h5'.trans h6'.symm) (hp i j h5 h6 h7)
          · exact h7
          · exact absurd (h6'.trans h5'.symm) (hp j i h6 h5 h7)
        subst this
        refine ⟨v, x, ?_, rfl, hx⟩
        show (putV vs ((some t).bind (idxN · V.vsl)) v)[i]? = some v
        simp only [Option.bind_some, hb]
        show (set1 vs i v)[i]? = some v
        rw [set1_eq, List.getElem?_set, if_pos rfl, if_pos (List.getElem?_eq_some_iff.1 h1).1]
    · rw [if_neg (fun h => hdt h.1)]
      refine ⟨v', y, ?_, h2, h3.mono hk⟩
      cases hb : dst.bind (idxN · V.vsl) with
      | none => exact h1
      | some j =>
        show (set1 vs j v)[i]? = some v'
        rw [set1_eq, List.getElem?_set, if_neg]
        · exact h1
        · intro e
          subst e
          cases dst with
          | none => cases hb
          | some d =>
            have := idxN_some hb
            rw [hi] at this; cases this
            exact hdt rfl

theorem stk_ok {K' : Kx} (hs : SR G V m K a vs h dfs) (ht : Stk G.P K a stk ds) (hk : Kle K K') {dst : Option Nat} (hd : dstOk V dst = true) {v : AV} {x : Value} (hx : VR G.P K' v x) {a' : Act} (ha : a'.tmps = a.tmps) : Stk G.P K' (a'.put dst x) (v :: stk) (dst :: ds) := by
  intro t j hj
  rw [put_tmps, ha]
  unfold idxO at hj
  split at hj
  · rename_i e
    cases hj
    subst e
    have hlt : t < a.tmps.size := by simp [dstOk] at hd; exact Nat.lt_of_lt_of_le hd hs.nt
    rw [if_pos ⟨rfl, hlt⟩]
    exact ⟨v, x, rfl, rfl, hx⟩
  · rename_i e
    rw [Option.map_eq_some_iff] at hj
    obtain ⟨j', hj', rfl⟩ := hj
    rw [if_neg (fun h => e h.1)]
    obtain ⟨v', y, h1, h2, h3⟩ := ht t j' hj'
    exact ⟨v', y, by simpa using h1, h2, h3.mono hk⟩

theorem guard_ok (ht : Stk G.P K a stk ds) {all : Array Oper} {g : Option (Nat × Bool)} {c : Option (OF × Bool)} {b : Bool} (hc : compG all ds g = some c) (hb : guardOk c stk vs = some b) (o : Oper) (ho : o.guard = g) :
    Region.wanted o (yielded all a.tmps) = b := by
  unfold Region.wanted
  rw [ho]
  cases g with
  | none => cases hc; cases hb; rfl
  | some g =>
    obtain ⟨j, want⟩ := g
    simp only [compG] at hc
    split at hc
    · rename_i t hj
      rw [Option.map_eq_some_iff] at hc
      obtain ⟨p, hp, rfl⟩ := hc
      obtain ⟨v, x, h1, h2, h3⟩ := ht t p hp
      have hb' : ob (getL stk p) (guardB want) = some b := hb
      rw [getL_eq, h1] at hb'
      have hb' : guardB want v = some b := hb'
      simp only
      unfold yielded
      rw [hj, Option.bind_some]
      simp only [h2]
      unfold guardB at hb'
      split at hb'
      · simp only [bif_eq, Option.some.injEq] at hb'
        subst hb'
        cases h3
        rename_i q
        cases want <;> cases q <;> rfl
      · cases h3
        cases hb'
        rfl
      · cases hb'
    · cases hc


/-! The shape of the operations that are no plain ones. -/
theorem comp_call {P : Program} {co : CoF} {o : Op} {f : OF} {args : List OF} (hc : compOp P co o = some (.call f args)) :
    ∃ c x, o = .call c ∧ c.callee = .value x ∧ co x = some f ∧ coL co c.args.toList = some args := by
  unfold compOp at hc
  split at hc
  all_goals first
    | (simp at hc; done)
    | (split at hc <;> simp at hc; done)
    | (unfold cBuild at hc; repeat' split at hc
       all_goals first | (simp at hc; done))
    | (unfold cBuildSlice at hc; repeat' split at hc
       all_goals first | (simp at hc; done))
    | (unfold cMakeSlice at hc; repeat' split at hc
       all_goals first | (simp at hc; done))
    | (unfold cSlice at hc; repeat' split at hc
       all_goals first | (simp at hc; done))
    | (unfold cSlice3 at hc; repeat' split at hc
       all_goals first | (simp at hc; done))
    | (unfold cFieldAddr at hc; repeat' split at hc
       all_goals first | (simp at hc; done))
    | (unfold cField at hc; repeat' split at hc
       all_goals first | (simp at hc; done))
    | (unfold cIndexAddr at hc; repeat' split at hc
       all_goals first | (simp at hc; done))
    | (unfold cIndex at hc; repeat' split at hc
       all_goals first | (simp at hc; done))
    | (unfold cLookup at hc; repeat' split at hc
       all_goals first | (simp at hc; done))
    | (unfold cTypeAssert at hc; repeat' split at hc
       all_goals first | (simp at hc; done))
    | (unfold cMapUpdate at hc; repeat' split at hc
       all_goals first | (simp at hc; done))
    | (unfold cMapEntry at hc; repeat' split at hc
       all_goals first | (simp at hc; done))
    | skip
  · split at hc
    · split at hc <;> simp at hc
    · cases hc
  · rename_i c
    split at hc
    · rename_i x hx
      split at hc
      · rename_i g as hg has
        cases hc
        exact ⟨c, x, rfl, hx, hg, has⟩
      · cases hc
    · split at hc
      · unfold cBuiltin at hc
        split at hc
        · unfold cAppend at hc; repeat' split at hc
          all_goals simp at hc
        · unfold cLen at hc; repeat' split at hc
          all_goals simp at hc
        · simp at hc
        · simp at hc
        · split at hc <;> simp at hc
        · repeat' split at hc
          all_goals simp at hc
        · simp at hc
        · simp at hc
        · cases hc
      · cases hc
    · cases hc

end
end Hx
