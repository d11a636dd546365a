/- What has been shown of calls on given values is used where such calls occur. -/
import Derived.Test.YtbkihikjgoedbaaGreatHxTop
namespace Hx
open Go
noncomputable section

/-! Whether a value reads as an immutable one. -/
def sameL (p : AV → AV → Bool) : List AV → List AV → Bool := fun k =>
  List.rec (motive := fun _ => List AV → Bool) (fun l => List.rec true (fun _ _ _ => false) l)
    (fun x _ ih l => List.rec (motive := fun _ => Bool) false (fun y r _ => bif_ (p x y) (ih r) false) l) k
def rowOf (h : Heap) (b : Nat) : Option (List AV) := ob (h.get b) fun x => match x with
  | .row cs _ => some cs
  | _ => none
def sameR (p : AV → AV → Bool) (h : Heap) (b o : Nat) (cs : List AV) : Bool := Option.rec (motive := fun _ => Bool) false (fun r => sameL p cs (dropL o r)) (rowOf h b)
def same1 (h : Heap) (p : AV → AV → Bool) (k v : AV) : Bool :=
  match k with
  | .bool a => match v with
    | .bool b => bif_ a b (!b)
    | _ => false
  | .int x a => match v with
    | .int y b => bif_ (kEq x y) (eqI a b) false
    | _ => false
  | .nilp => match v with
    | .nilp => true
    | _ => false
  | .nils => match v with
    | .nils => true
    | _ => false
  | .nilm => match v with
    | .nilm => true
    | _ => false
  | .nilf => match v with
    | .nilf => true
    | _ => false
  | .nili => match v with
    | .nili => true
    | _ => false
  | .emp => match v with
    | .emp => true
    | .msl _ _ _ n => Nat.beq n 0
    | _ => false
  | .isl cs n => match v with
    | .msl _ b o m => bif_ (Nat.ble 1 n) (bif_ (Nat.beq n m) (sameR p h b o cs) false) false
    | .isl ds m => bif_ (Nat.beq n m) (sameL p cs ds) false
    | _ => false
  | .iptr cs o => match v with
    | .ptr b q => bif_ (Nat.beq o q) (sameR p h b 0 cs) false
    | .iptr ds q => bif_ (Nat.beq o q) (sameL p cs ds) false
    | _ => false
  | .agg a => match v with
    | .agg b => sameL p a b
    | _ => false
  | .fn f [] [] => match f with
    | .func f => match v with
      | .fn g [] [] => match g with
        | .func g => Nat.beq f g
        | _ => false
      | _ => false
    | _ => false
  | _ => false
def sameV (h : Heap) (d : Nat) : AV → AV → Bool := Nat.rec (motive := fun _ => AV → AV → Bool) (fun _ _ => false) (fun _ ih => same1 h ih) d

abbrev Mem := List (Nat × List (List AV × AV))
def memGet (t : Mem) (f : Nat) : List (List AV × AV) := List.rec [] (fun x _ ih => bif_ (Nat.beq f x.1) x.2 ih) t
def memFind (h : Heap) (args : List AV) (l : List (List AV × AV)) : Option AV := List.rec none (fun x _ ih => bif_ (sameL (sameV h 12) x.1 args) (some x.2) ih) l
def memT (t : Mem) (cf : CallFn) : CallFn := fun g args h =>
  match g with
  | .fn (.func f) [] [] => Option.rec (motive := fun _ => Option (Ret × Heap)) (cf g args h) (fun v => some (.val v, h)) (memFind h args (memGet t f))
  | _ => cf g args h
def evM (C : Ctx) (L : Nat) (t : Mem) (d : Nat) : CallFn := Nat.rec (motive := fun _ => CallFn) (fun _ _ _ => none) (fun _ ih => memT t (evCall C ih L)) d
def valOf (r : Option (Ret × Heap)) : Option Ret := ob r fun r => some r.1
end

/-- nothing is known, nothing may be written -/
def Kx.shut (K : Kx) : Kx := { K with D := fun _ => False, O := fun _ => False }

section
variable {G : Gx} {P : Program} {K : Kx} {h : Heap}

theorem sameL_ok {p : AV → AV → Bool} (hp : ∀ k v x, p k v = true → VR P K v x → VR P K.shut k x) : ∀ {ks vs : List AV} {xs : List Value}, sameL p ks vs = true → VRs P K vs xs → VRs P K.shut ks xs
  | [], [], xs, _, hv => by cases hv; exact .nil
  | [], _ :: _, xs, h, _ => by cases h
  | k :: ks, [], xs, h, _ => by cases h
  | k :: ks, v :: vs, xs, h, hv => by
    have h' : bif_ (p k v) (sameL p ks vs) false = true := h
    rw [bif_eq] at h'
    split at h'
    · rename_i hk
      cases hv with
      | cons _ x _ r h1 h2 => exact .cons _ _ _ _ (hp _ _ _ hk h1) (sameL_ok hp h' h2)
    · cases h'

theorem sameR_ok (hr : HR G K h []) {p : AV → AV → Bool} (hp : ∀ k v x, p k v = true → VR G.P K v x → VR G.P K.shut k x) {b o : Nat} {cs : List AV} (hd : K.D b) (hs : sameR p h b o cs = true) :
    ∃ cvs, VRs G.P K.shut cs cvs ∧ K.shut.at (K.bl b) (K.sh b + o) cvs ∧ K.bl b < K.w.heap.size := by
  unfold sameR at hs
  cases hro : rowOf h b with
  | none => rw [hro] at hs; cases hs
  | some r =>
    rw [hro] at hs
    have hs' : sameL p cs (dropL o r) = true := hs
    unfold rowOf at hro
    rw [ob_some] at hro
    obtain ⟨x, hx, hro⟩ := hro
    cases x <;> simp only [reduceCtorEq, Option.some.injEq] at hro
    subst hro
    obtain ⟨c, cvs, h1, h2, h3, h4⟩ := hr.blk b _ hd hx
    rw [dropL_eq] at hs'
    refine ⟨cvs.drop o, sameL_ok hp hs' (h2.drop o), fun i v hv => ?_, hr.inh b hd⟩
    rw [List.getElem?_drop] at hv
    have := h3 _ _ hv
    show K.w.cell? _ = _
    unfold World.cell?
    simp only [h1]
    rw [← Nat.add_assoc] at this
    simpa using this

theorem same1_ok (hr : HR G K h []) {p : AV → AV → Bool} (hp : ∀ k v x, p k v = true → VR G.P K v x → VR G.P K.shut k x) {k v : AV} {x : Value} (hs : same1 h p k v = true) (hv : VR G.P K v x) : VR G.P K.shut k x := by
  have atS : ∀ {b q : Nat} {cvs : List Value}, K.at b q cvs → K.shut.at b q cvs := fun h => h
  unfold same1 at hs
  split at hs
  · split at hs
    · rename_i a _ b
      cases hv
      rw [bif_eq] at hs
      have : a = b := by cases a <;> cases b <;> simp at hs <;> rfl
      subst this; exact .bool _
    · cases hs
  · split at hs
    · rename_i x a _ y b
      cases hv
      rw [bif_eq] at hs
      split at hs
      · rename_i hk
        have e1 : x = y := by cases x <;> cases y <;> first | rfl | (cases hk; done)
        have e2 : a = b := by
          cases a <;> cases b <;> simp only [eqI, Bool.false_eq_true] at hs
          · rw [Nat.eq_of_beq_eq_true hs]
          · rw [Nat.eq_of_beq_eq_true hs]
        subst e1 e2; exact .int _ _
      · cases hs
    · cases hs
  · split at hs
    · cases hv; exact .nilp
    · cases hs
  · split at hs
    · cases hv; exact .nils
    · cases hs
  · split at hs
    · cases hv; exact .nilm
    · cases hs
  · split at hs
    · cases hv; exact .nilf
    · cases hs
  · split at hs
    · cases hv; exact .nili
    · cases hs
  · split at hs
    · cases hv
      · exact .emp0
      · exact .emp1 _ _
    · have hn := Nat.eq_of_beq_eq_true hs
      subst hn
      cases hv
      · exact .emp1 _ _
      · exact .emp1 _ _
    · cases hs
  · split at hs
    · rw [bif_eq, bif_eq] at hs
      split at hs
      · rename_i h1
        split at hs
        · rename_i h2
          have h2 := Nat.eq_of_beq_eq_true h2
          subst h2
          cases hv with
          | msl e b o n cap c t fr hd hn hc hsz =>
            obtain ⟨cvs, g1, g2, g3⟩ := sameR_ok hr hp hd hs
            rw [Nat.add_comm] at g2
            exact .isl _ _ _ _ _ cvs g1 g2 (fun h => h) g3 hn
          | msl0 => cases h1
        · cases hs
      · cases hs
    · rw [bif_eq] at hs
      split at hs
      · rename_i h2
        have h2 := Nat.eq_of_beq_eq_true h2
        subst h2
        cases hv with
        | isl _ _ b q cap cvs h1 h2 h3 h4 h5 => exact .isl _ _ _ _ _ cvs (sameL_ok hp hs h1) (atS h2) (fun h => h) h4 h5
      · cases hs
    · cases hs
  · split at hs
    · rw [bif_eq] at hs
      split at hs
      · rename_i h2
        have h2 := Nat.eq_of_beq_eq_true h2
        subst h2
        cases hv with
        | ptr b o hd =>
          obtain ⟨cvs, g1, g2, g3⟩ := sameR_ok hr hp hd hs
          rw [Nat.add_zero] at g2
          have hx := fun o => VR.iptr (P := G.P) (K := K.shut) _ o _ _ cvs g1 g2 (fun h => h) g3
          exact (show ∀ (c : List AV) (B q o : Nat), VR G.P K.shut (.iptr c o) (.pointer (some ⟨B, q + o, none⟩)) → VR G.P K.shut (.iptr c o) (.pointer (some ⟨B, o + q, none⟩)) from fun c B q o h => by rw [Nat.add_comm o q]; exact h) _ _ _ _ (hx _)
      · cases hs
    · rw [bif_eq] at hs
      split at hs
      · rename_i h2
        have h2 := Nat.eq_of_beq_eq_true h2
        subst h2
        cases hv with
        | iptr _ _ b q cvs h1 h2 h3 h4 => exact .iptr _ _ _ _ cvs (sameL_ok hp hs h1) (atS h2) (fun h => h) h4
      · cases hs
    · cases hs
  · split at hs
    · cases hv with
      | agg _ vs h1 => exact .agg _ _ (sameL_ok hp hs h1)
    · cases hs
  · split at hs
    · split at hs
      · split at hs
        · have h2 := Nat.eq_of_beq_eq_true hs
          subst h2
          cases hv with
          | fn _ _ _ va vc h1 h2 => cases h1; cases h2; exact .fn _ [] [] [] [] .nil .nil
        · cases hs
      · cases hs
    · cases hs
  · cases hs

theorem sameV_ok (hr : HR G K h []) : ∀ (d : Nat) (k v : AV) (x : Value), sameV h d k v = true → VR G.P K v x → VR G.P K.shut k x
  | 0, k, v, x, hs, _ => by cases hs
  | d + 1, k, v, x, hs, hv => same1_ok hr (sameV_ok hr d) hs hv

/-- what has been shown of a call on immutable values -/
def MemE (P : Program) (gl : Nat → Option (List AV)) (f : Nat) (key : List AV) (v : AV) : Prop :=
  hasNoRef v = true ∧ (∃ fn, P.funcs[f]? = some fn ∧ fn.body.isSome = true ∧ (fn.name != "runtime.NumGoroutine") = true) ∧
  ∀ (K : Kx) (avs : List Value), GlW gl K.w → (∀ b, ¬ K.D b) → (∀ c, ¬ K.O c) → VRs P K key avs →
    Calls P f avs.toArray K.w fun e w' => (∃ x, e = .returned x ∧ VR P K v x) ∧ FrW K.w w' ∧ K.w.heap.size ≤ w'.heap.size ∧ ∀ i : Nat, i < K.w.heap.size → w'.heap[i]? = K.w.heap[i]?

theorem mem_of {P : Program} {gl : Nat → Option (List AV)} {bd : Nat → Option BInfo} {f : Nat} {fn : Func} (hf : P.funcs[f]? = some fn) (hb : fn.body.isSome = true) (hn : (fn.name != "runtime.NumGoroutine") = true) {cf : CallFn} (hok : CallOk (gxOf P bd) gl cf)
    {key : List AV} {v : AV} (hv : hasNoRef v = true) (he : valOf (cf (.fn (.func f) [] []) key emptyH) = some (.val v)) : MemE P gl f key v := by
  refine ⟨hv, ⟨fn, hf, hb, hn⟩, fun K avs hg hD hO ha => ?_⟩
  unfold valOf at he
  rw [ob_some] at he
  obtain ⟨⟨rt, h'⟩, he, hr⟩ := he
  simp only [Option.some.injEq] at hr
  subst hr
  have hr0 : HR (gxOf P bd) K emptyH [] := ⟨fun b h => (hD b h).elim, fun b h => (hD b h).elim, fun c => ⟨fun h => (hO c h).elim, fun h => h.elim (fun h => h.elim) fun ⟨b, h, _⟩ => (hD b h).elim⟩, fun b h => (hD b h).elim, fun b x h => (hD b h).elim, fun x y h => (hD x h).elim, fun c h => h.elim, Nat.zero_le _⟩
  have hgl : GlOk P K gl := fun g cs hgc => (let ⟨_, cvs, h1, h2, h3⟩ := hg g cs hgc; ⟨cvs, h1 P K, fun i v hv => by rw [Nat.zero_add]; exact h2 i v hv, hO _, h3⟩)
  have hcn := hok _ _ _ _ he K (.func (.func f) #[] #[]) avs hr0 (fun i _ => rfl) hgl (VR.fn (P := P) (K := K) f [] [] [] [] .nil .nil) ha
  have hrun : (do let d ← Deferred.ofValue (.func (.func f) #[] #[]) avs.toArray; invoke d.target d.args : Sem Next).run P K.w = .ok (.enter f avs.toArray) K.w := by
    obtain ⟨b, hb⟩ := Option.isSome_iff_exists.1 hb
    have := run_callFunc (P := P) (args := avs.toArray) (w := K.w) hf hb hn
    simpa [Deferred.ofValue, invoke, Sem.run_bind] using this
  have hcn' : CallN (gxOf P bd) K emptyH _ _ ((do let d ← Deferred.ofValue (.func (.func f) #[] #[]) avs.toArray; invoke d.target d.args : Sem Next).run P K.w) := hcn
  rw [hrun] at hcn'
  refine (callsIn_wide.1 (hcn' Fence.wide 0 rfl)).mono fun e w' ⟨K', hw, h2, h3, h4⟩ => ?_
  cases e with
  | returned x =>
    subst hw
    exact ⟨⟨x, rfl, hasNoRef_ok hv h4⟩, h3.tn.le.fr, h3.tn.le.size, fun i hi => h3.tn.le.imm i hi (hO i)⟩
  | panicked ch => exact h4.elim
  | outgrown => exact h4.elim

def MemOk (P : Program) (gl : Nat → Option (List AV)) (t : Mem) : Prop := ∀ x ∈ t, ∀ y ∈ x.2, MemE P gl x.1 y.1 y.2

theorem memGet_mem {f : Nat} : ∀ {t : Mem} {y : List AV × AV}, y ∈ memGet t f → ∃ x ∈ t, x.1 = f ∧ y ∈ x.2
  | [], y, h => by cases h
  | x :: t, y, h => by
    have h' : y ∈ bif_ (Nat.beq f x.1) x.2 (memGet t f) := h
    rw [bif_eq] at h'
    split at h'
    · rename_i hf; exact ⟨x, List.mem_cons_self, (Nat.eq_of_beq_eq_true hf).symm, h'⟩
    · obtain ⟨z, h1, h2⟩ := memGet_mem h'; exact ⟨z, List.mem_cons_of_mem _ h1, h2⟩
theorem memFind_mem {h : Heap} {args : List AV} {v : AV} : ∀ {l : List (List AV × AV)}, memFind h args l = some v → ∃ key, (key, v) ∈ l ∧ sameL (sameV h 12) key args = true
  | [], h => by cases h
  | x :: l, hm => by
    have h' : bif_ (sameL (sameV h 12) x.1 args) (some x.2) (memFind h args l) = some v := hm
    rw [bif_eq] at h'
    split at h'
    · rename_i hs; cases h'; exact ⟨x.1, List.mem_cons_self, hs⟩
    · obtain ⟨key, h1, h2⟩ := memFind_mem h'; exact ⟨key, List.mem_cons_of_mem _ h1, h2⟩

theorem memT_ok {gl : Nat → Option (List AV)} {t : Mem} {cf : CallFn} (hgr : GlR gl) (ht : MemOk G.P gl t) (hcf : CallOk G gl cf) : CallOk G gl (memT t cf) := by
  intro g args h r he K fv avs hr hw hg hgv ha
  unfold memT at he
  split at he
  · rename_i f
    cases hm : memFind h args (memGet t f) with
    | none => rw [hm] at he; exact hcf _ _ _ _ he K fv avs hr hw hg hgv ha
    | some v =>
      rw [hm] at he
      have he' : some (Ret.val v, h) = some r := he
      cases he'
      obtain ⟨key, h1, h2⟩ := memFind_mem hm
      obtain ⟨x, h3, h4, h5⟩ := memGet_mem h1
      obtain ⟨hnr, ⟨fn, hf, hb, hn⟩, hc⟩ := ht x h3 _ h5
      rw [h4] at hf hc
      cases hgv with
      | fn _ _ _ va vc g1 g2 =>
        cases g1
        cases g2
        have hrun : (do let d ← Deferred.ofValue (.func (.func f) ([] : List Value).toArray ([] : List Value).toArray) avs.toArray; invoke d.target d.args : Sem Next).run G.P K.w = .ok (.enter f avs.toArray) K.w := by
          obtain ⟨b, hb⟩ := Option.isSome_iff_exists.1 hb
          have := run_callFunc (P := G.P) (args := avs.toArray) (w := K.w) hf hb hn
          simpa [Deferred.ofValue, invoke, Sem.run_bind] using this
        rw [hrun]
        intro F n hF
        have hkey := sameL_ok (sameV_ok hr 12) h2 ha
        refine callsIn_plain hF ((callsIn_wide.2 (hc K.shut avs (show GlW gl K.w from hgr.world hg) (fun _ h => h) (fun _ h => h) hkey)).mono fun e w' ⟨⟨x, hx, hvx⟩, q2, q3, q4⟩ => ?_)
        subst hx
        obtain ⟨u1, u2⟩ := hr.grow q2 q3 q4
        exact ⟨K.on w', rfl, u1, u2, hasNoRef_ok hnr hvx⟩
  · exact hcf _ _ _ _ he K fv avs hr hw hg hgv ha

theorem evM_ok {gl : Nat → Option (List AV)} {C : Ctx} {L : Nat} {t : Mem} (hmix : G.P.follows .mixedOrders = true) (hgr : GlR gl) (hC : CtxOk G gl C) (ht : MemOk G.P gl t) : ∀ d, CallOk G gl (evM C L t d)
  | 0 => fun g args h r he => by cases he
  | d + 1 => memT_ok hgr ht (evCall_ok hC (fun V hV hv => pre_ok hmix (by rw [hV]; exact evM_ok hmix hgr hC ht d) hv) (evM_ok hmix hgr hC ht d))

theorem mem_nil {gl : Nat → Option (List AV)} : MemOk P gl [] := fun x h => by cases h

/-- a closed law -/
theorem memE_calls {P : Program} {gl : Nat → Option (List AV)} {f : Nat} (h : MemE P gl f [] (.bool true)) (w : World) (hg : GlW gl w) : Calls P f #[] w fun e w' => e = .returned (.bool true) ∧ RowKit.Grown w w' := by
  obtain ⟨_, _, hc⟩ := h
  refine (hc { D := fun _ => False, bl := fun i => i, sh := fun _ => 0, O := fun _ => False, w := w } [] hg (fun _ h => h) (fun _ h => h) .nil).mono fun e w' ⟨⟨x, hx, hv⟩, h2, h3, h4⟩ => ?_
  cases hv
  exact ⟨hx, grown_of h2 h3 h4⟩

end
end Hx
