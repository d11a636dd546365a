/- The abstract heap and the model's: what the operations on it do to the relation. -/
import Derived.Test.YtbkihikjgoedbaaGreatHxRel
namespace Hx
open Go

theorem Heap.get_push (h : Heap) (x : Blk) (b : Nat) : (h.push x).get b = if b = h.next then some x else h.get b := by
  unfold Heap.push Heap.get
  rw [fN_eq]
  exact Tr.get_set _ _ _ _
theorem Heap.next_push (h : Heap) (x : Blk) : (h.push x).next = h.next + 1 := by unfold Heap.push; rw [fN_eq]
theorem Heap.low_push (h : Heap) (x : Blk) : (h.push x).low = h.low := by unfold Heap.push; rw [fN_eq]
theorem Heap.get_alter (h : Heap) (b : Nat) (x : Option Blk) (j : Nat) : (h.alter b x).get j = if j = b then x else h.get j := by
  unfold Heap.alter Heap.get
  rw [fN_eq]
  exact Tr.get_set _ _ _ _
theorem Heap.next_alter (h : Heap) (b : Nat) (x : Option Blk) : (h.alter b x).next = h.next := by unfold Heap.alter; rw [fN_eq]
theorem Heap.low_alter (h : Heap) (b : Nat) (x : Option Blk) : (h.alter b x).low = min b h.low := by
  unfold Heap.alter
  rw [fN_eq, bif_eq]
  show (if Nat.ble b h.low = true then b else h.low) = _
  simp only [Nat.ble_eq]
  split <;> omega
theorem Heap.get_lower (h : Heap) (l b : Nat) : (h.lower l).get b = h.get b := by unfold Heap.lower Heap.get; rw [fN_eq]
theorem Heap.next_lower (h : Heap) (l : Nat) : (h.lower l).next = h.next := by unfold Heap.lower; rw [fN_eq]
theorem Heap.low_lower (h : Heap) (l : Nat) : (h.lower l).low = min l h.low := by
  unfold Heap.lower
  rw [fN_eq, bif_eq]
  show (if Nat.ble l h.low = true then l else h.low) = _
  simp only [Nat.ble_eq]
  split <;> omega

/-- what has stayed of an abstract heap -/
structure HExt (h h' : Heap) : Prop where
  next : h.next ≤ h'.next
  low : h'.low ≤ h.low
  same : ∀ b, b < h.next → b < h'.low → h'.get b = h.get b
  dead : ∀ b, b < h.next → h.get b = none → h'.get b = none
theorem HExt.refl (h : Heap) : HExt h h := ⟨Nat.le_refl _, Nat.le_refl _, fun _ _ _ => rfl, fun _ _ h => h⟩
theorem HExt.trans {h h' h'' : Heap} (a : HExt h h') (b : HExt h' h'') : HExt h h'' :=
  ⟨Nat.le_trans a.next b.next, Nat.le_trans b.low a.low, fun x h1 h2 => (b.same x (Nat.lt_of_lt_of_le h1 a.next) h2).trans (a.same x h1 (Nat.lt_of_lt_of_le h2 b.low)),
    fun x h1 h2 => b.dead x (Nat.lt_of_lt_of_le h1 a.next) (a.dead x h1 h2)⟩
theorem HExt.push (h : Heap) (x : Blk) : HExt h (h.push x) :=
  ⟨by rw [Heap.next_push]; omega, by rw [Heap.low_push]; exact Nat.le_refl _, fun b h1 _ => by rw [Heap.get_push, if_neg (by omega)], fun b h1 h2 => by rw [Heap.get_push, if_neg (by omega)]; exact h2⟩
theorem HExt.alter (h : Heap) (b : Nat) (x : Option Blk) (hx : (h.get b).isSome = true ∨ x = none) : HExt h (h.alter b x) :=
  ⟨by rw [Heap.next_alter]; exact Nat.le_refl _, by rw [Heap.low_alter]; omega, fun j _ h2 => by rw [Heap.low_alter] at h2; rw [Heap.get_alter, if_neg (by omega)], fun j _ h2 => by
    rw [Heap.get_alter]
    split
    · rename_i e; subst e
      rcases hx with hx | hx
      · rw [h2] at hx; cases hx
      · exact hx
    · exact h2⟩

/-- what a round of a range over a function needs -/
structure BInfo where
  vsl : List Nat
  ps : List Nat
  assign : Code
  body : Code
  nt : Nat

/-- what does not change: the program, the bodies of rounds, blocks that may be written by others alone, the size of the heap at the start -/
structure Gx where
  P : Program
  BD : Nat → Option BInfo
  A : Nat → Prop
  base : Nat

inductive MR (P : Program) (K : Kx) : List (AV × AV × Nat) → List MapEntry → Prop
  | nil : MR P K [] []
  | cons (k v : AV) (n : Nat) (e : MapEntry) (l : List (AV × AV × Nat)) (r : List MapEntry) : VR P K k e.key → VR P K v e.val → e.born = n → MR P K l r → MR P K ((k, v, n) :: l) (e :: r)

theorem MR.monoW {P : Program} {K K' : Kx} (hk : Klw K K') {l : List (AV × AV × Nat)} {r : List MapEntry} (h : MR P K l r) : MR P K' l r := by
  induction h with
  | nil => exact .nil
  | cons k v n e l r h1 h2 h3 _ ih => exact .cons k v n e l r (h1.monoW hk) (h2.monoW hk) h3 ih
theorem MR.mono {P : Program} {K K' : Kx} (hk : Kle K K') {l : List (AV × AV × Nat)} {r : List MapEntry} (h : MR P K l r) : MR P K' l r := h.monoW hk.w

/-- the stamps of the entries grow, and are less than the clock -/
def Stamps (l : List (AV × AV × Nat)) (n : Nat) : Prop := (∀ (i j : Nat) (a b : AV × AV × Nat), l[i]? = some a → l[j]? = some b → i < j → a.2.2 < b.2.2) ∧ ∀ (i : Nat) (a : AV × AV × Nat), l[i]? = some a → a.2.2 < n

def jumpC : Jump → Code
  | .ret => .ret
  | .exit i => .exit i
  | .goto i => .goto i

/-- the variables hold what the slots hold -/
def Slots (P : Program) (K : Kx) (vsl : List Nat) (vs : List AV) (tmps : Array Value) : Prop :=
  vs.length = vsl.length ∧ ∀ (i t : Nat), vsl[i]? = some t → ∃ (v : AV) (x : Value), vs[i]? = some v ∧ tmps[t]? = some x ∧ VR P K v x

def BR (G : Gx) (K : Kx) (b : Nat) : Blk → Prop
  | .row cs e => ∃ (c : Array Value) (cvs : List Value), K.w.heap[K.bl b]? = some (.cells c e (0, 0)) ∧ VRs G.P K cs cvs ∧ (∀ (i : Nat) (v : Value), cvs[i]? = some v → c[K.sh b + i]? = some v) ∧ K.sh b + cs.length ≤ c.size
  | .mp es n => ∃ (ces : Array MapEntry), K.w.heap[K.bl b]? = some (.map ces n) ∧ MR G.P K es ces.toList ∧ Stamps es n
  | .loop st pend vs ps bid => ∃ (L : Loop) (I : BInfo), K.w.heap[K.bl b]? = some (.loop L) ∧ G.BD bid = some I ∧ L.state = st ∧ L.pending = pend.map jumpC ∧ L.params = I.ps.toArray ∧
      L.assign = I.assign ∧ L.body = I.body ∧ Slots G.P K I.vsl vs L.tmps ∧ ps.length = I.ps.length ∧ (∀ (i p : Nat), ps[i]? = some p → I.vsl[p]? = I.ps[i]?) ∧ I.nt ≤ L.tmps.size

theorem Slots.monoW {P : Program} {K K' : Kx} (hk : Klw K K') {vsl : List Nat} {vs : List AV} {tmps : Array Value} (h : Slots P K vsl vs tmps) : Slots P K' vsl vs tmps :=
  ⟨h.1, fun i t ht => let ⟨v, x, h1, h2, h3⟩ := h.2 i t ht; ⟨v, x, h1, h2, h3.monoW hk⟩⟩

theorem BR.monoW {G : Gx} {K K' : Kx} (hk : Klw K K') {b : Nat} (hb : K.D b) (hs : K'.w.heap[K.bl b]? = K.w.heap[K.bl b]?) {x : Blk} (h : BR G K b x) : BR G K' b x := by
  cases x with
  | row cs e =>
    obtain ⟨c, cvs, h1, h2, h3, h4⟩ := h
    exact ⟨c, cvs, by rw [hk.bl b hb, hs]; exact h1, h2.monoW hk, by rw [hk.sh b hb]; exact h3, by rw [hk.sh b hb]; exact h4⟩
  | mp es n =>
    obtain ⟨ces, h1, h2, h3⟩ := h
    exact ⟨ces, by rw [hk.bl b hb, hs]; exact h1, h2.monoW hk, h3⟩
  | loop st pend vs ps bid =>
    obtain ⟨L, I, h1, h2, h3, h4, h5, h6, h7, h8, h9⟩ := h
    exact ⟨L, I, by rw [hk.bl b hb, hs]; exact h1, h2, h3, h4, h5, h6, h7, h8.monoW hk, h9⟩

theorem Slots.mono {P : Program} {K K' : Kx} (hk : Kle K K') {vsl : List Nat} {vs : List AV} {tmps : Array Value} (h : Slots P K vsl vs tmps) : Slots P K' vsl vs tmps := h.monoW hk.w
theorem BR.mono {G : Gx} {K K' : Kx} (hk : Kle K K') {b : Nat} (hb : K.D b) (hs : K'.w.heap[K.bl b]? = K.w.heap[K.bl b]?) {x : Blk} (h : BR G K b x) : BR G K' b x := h.monoW hk.w hb hs

noncomputable def fin (K : Kx) (h : Heap) (b : Nat) : Nat := K.sh b + (match h.get b with | some (.row cs _) => cs.length | _ => 0)

/-- the abstract heap stands for the world -/
structure HR (G : Gx) (K : Kx) (h : Heap) (ks : List Nat) : Prop where
  lt : ∀ b, K.D b → b < h.next
  inh : ∀ b, K.D b → K.bl b < K.w.heap.size
  own : ∀ c, K.O c ↔ G.A c ∨ ∃ b, K.D b ∧ (h.get b).isSome = true ∧ K.bl b = c
  old : ∀ b, K.D b → (h.get b).isSome = true → G.base ≤ K.bl b
  blk : ∀ b x, K.D b → h.get b = some x → BR G K b x
  dist : ∀ x y, K.D x → K.D y → (h.get x).isSome = true → (h.get y).isSome = true → x ≠ y → K.bl x = K.bl y →
    (x ∈ ks ∧ fin K h x ≤ fin K h y) ∨ (y ∈ ks ∧ fin K h y ≤ fin K h x)
  aold : ∀ c, G.A c → c < G.base
  bsz : G.base ≤ K.w.heap.size

/-- a step of the world from the heap h: E: the ids whose blocks may have been turned -/
structure Tn (E : Nat → Prop) (h : Heap) (K K' : Kx) : Prop where
  le : Kle K K'
  unt : ∀ b, K.D b → (h.get b).isSome = true → ¬ E b → K'.w.heap[K.bl b]? = K.w.heap[K.bl b]?
  nb : ∀ b, K'.D b → ¬ K.D b → K.w.heap.size ≤ K'.bl b ∨ ∃ a, K.D a ∧ (h.get a).isSome = true ∧ E a ∧ K'.bl b = K.bl a

theorem Tn.refl (E : Nat → Prop) (h : Heap) (K : Kx) : Tn E h K K := ⟨Kle.refl K, fun _ _ _ _ => rfl, fun _ h h' => absurd h h'⟩
theorem Tn.mono {E E' : Nat → Prop} {h : Heap} {K K' : Kx} (ht : Tn E h K K') (he : ∀ b, E b → E' b) : Tn E' h K K' :=
  ⟨ht.le, fun b hb hs hn => ht.unt b hb hs fun e => hn (he b e), fun b hb hn => (ht.nb b hb hn).imp id fun ⟨a, h1, h2, h3, h4⟩ => ⟨a, h1, h2, he a h3, h4⟩⟩
theorem Tn.heap {E : Nat → Prop} {h h' : Heap} {K K' : Kx} (ht : Tn E h K K') (he : ∀ b, K.D b → h'.get b = h.get b) : Tn E h' K K' :=
  ⟨ht.le, fun b hb hs hn => ht.unt b hb (by rwa [he b hb] at hs) hn, fun b hb hn => (ht.nb b hb hn).imp id fun ⟨a, h1, h2, h3⟩ => ⟨a, h1, by rwa [he a h1], h3⟩⟩
theorem Tn.trans {E : Nat → Prop} {h h' : Heap} {K K' K'' : Kx} (ht : Tn E h K K') (ht' : Tn E h' K' K'') (hs : ∀ b, K.D b → ((¬ E b → (h.get b).isSome = true → (h'.get b).isSome = true) ∧ ((h'.get b).isSome = true → (h.get b).isSome = true))) : Tn E h K K'' := by
  refine ⟨ht.le.trans ht'.le, fun b hb hl hn => ?_, fun b hb hn => ?_⟩
  · have := ht'.unt b (ht.le.D b hb) ((hs b hb).1 hn hl) hn
    rw [ht.le.bl b hb] at this
    rw [this, ht.unt b hb hl hn]
  · by_cases hk : K'.D b
    · rw [ht'.le.bl b hk]; exact ht.nb b hk hn
    · rcases ht'.nb b hb hk with h1 | ⟨a, h1, h2, h3, h4⟩
      · exact .inl (Nat.le_trans ht.le.size h1)
      · by_cases ha : K.D a
        · exact .inr ⟨a, ha, (hs a ha).2 h2, h3, h4.trans (ht.le.bl a ha)⟩
        · rw [h4]; exact ht.nb a h1 ha

/-- the state with one more block -/
def Kx.new (K : Kx) (b : Nat) (w' : World) : Kx where
  D := fun i => K.D i ∨ i = b
  bl := fun i => if i = b then K.w.heap.size else K.bl i
  sh := fun i => if i = b then 0 else K.sh i
  O := fun c => K.O c ∨ c = K.w.heap.size
  w := w'

theorem Kx.new_le {K : Kx} {b : Nat} {w' : World} {o : Obj} (hf : FrW K.w w') (hw : w'.heap = K.w.heap.push o) (hb : ¬ K.D b) : Kle K (K.new b w') := by
  have ne : ∀ i, K.D i → i ≠ b := fun i hi e => hb (e ▸ hi)
  refine ⟨fun i hi => .inl hi, fun i hi => if_neg (ne i hi), fun i hi => if_neg (ne i hi), fun c hc => ?_, fun c hc _ => ?_, fun i c e fr hc => ⟨c, fr, ?_, rfl⟩, fun i L hc => ⟨L, ?_⟩, ?_, hf⟩
  · rcases hc with h | h
    · exact .inl h
    · exact .inr (by omega)
  · show w'.heap[c]? = _
    rw [hw, Array.getElem?_push, if_neg (by omega)]
  rotate_left
  · show w'.heap[i]? = _
    have : i < K.w.heap.size := (Array.getElem?_eq_some_iff.1 hc).1
    rw [hw, Array.getElem?_push, if_neg (by omega)]
    exact hc
  rotate_left
  · show w'.heap[i]? = _
    have : i < K.w.heap.size := (Array.getElem?_eq_some_iff.1 hc).1
    rw [hw, Array.getElem?_push, if_neg (by omega)]
    exact hc
  · show _ ≤ w'.heap.size
    rw [hw]; simp

theorem Kx.new_tn {K : Kx} {b : Nat} {w' : World} {o : Obj} (hf : FrW K.w w') (hw : w'.heap = K.w.heap.push o) (hb : ¬ K.D b) (hi : ∀ b, K.D b → K.bl b < K.w.heap.size) (E : Nat → Prop) (h : Heap) : Tn E h K (K.new b w') := by
  refine ⟨Kx.new_le hf hw hb, fun i hd _ _ => ?_, fun i hd hn => ?_⟩
  · show w'.heap[K.bl i]? = _
    have := hi i hd
    rw [hw, Array.getElem?_push, if_neg (by omega)]
  · rcases hd with h | h
    · exact absurd h hn
    · left; show _ ≤ (if i = b then K.w.heap.size else K.bl i); rw [if_pos h]; exact Nat.le_refl _

/-- only the known blocks matter -/
theorem HR.agree {G : Gx} {K : Kx} {h h' : Heap} {ks : List Nat} (hr : HR G K h ks) (lt : ∀ b, K.D b → b < h'.next) (same : ∀ b, K.D b → h'.get b = h.get b) : HR G K h' ks := by
  have fi : ∀ i, K.D i → fin K h' i = fin K h i := fun i hi => by unfold fin; rw [same i hi]
  refine ⟨lt, hr.inh, fun c => ?_, fun b hb hs => hr.old b hb (by rwa [same b hb] at hs), fun b x hb hx => hr.blk b x hb (by rwa [same b hb] at hx), fun x y hx hy hsx hsy hne he => ?_, hr.aold, hr.bsz⟩
  · rw [hr.own c]
    constructor
    · rintro (h1 | ⟨b, h1, h2, h3⟩)
      · exact .inl h1
      · exact .inr ⟨b, h1, by rw [same b h1]; exact h2, h3⟩
    · rintro (h1 | ⟨b, h1, h2, h3⟩)
      · exact .inl h1
      · exact .inr ⟨b, h1, by rw [same b h1] at h2; exact h2, h3⟩
  · rw [fi x hx, fi y hy]
    exact hr.dist x y hx hy (by rwa [same x hx] at hsx) (by rwa [same y hy] at hsy) hne he

theorem HR.add {G : Gx} {K : Kx} {h : Heap} {ks : List Nat} (hr : HR G K h ks) {n : Nat} {x : Blk} {o : Obj} {w' : World} (hf : FrW K.w w') (hw : w'.heap = K.w.heap.push o) (hn : ¬ K.D n) (hl : n < h.next) (hg : h.get n = some x)
    (hx : BR G (K.new n w') n x) : HR G (K.new n w') h ks := by
  have ne : ∀ i, K.D i → i ≠ n := fun i hi e => hn (e ▸ hi)
  have bl : ∀ i, K.D i → (K.new n w').bl i = K.bl i := fun i hi => if_neg (ne i hi)
  have sh : ∀ i, K.D i → (K.new n w').sh i = K.sh i := fun i hi => if_neg (ne i hi)
  have bln : (K.new n w').bl n = K.w.heap.size := if_pos rfl
  have fi : ∀ i, K.D i → fin (K.new n w') h i = fin K h i := fun i hi => by unfold fin; rw [sh i hi]
  have sz : (K.new n w').w.heap.size = K.w.heap.size + 1 := by show w'.heap.size = _; rw [hw]; simp
  refine ⟨fun b hb => ?_, fun b hb => ?_, fun c => ?_, fun b hb hs => ?_, fun b y hb hy => ?_, fun p q hp hq hsp hsq hne he => ?_, hr.aold, by rw [sz]; exact Nat.le_succ_of_le hr.bsz⟩
  · rcases hb with h1 | h1
    · exact hr.lt b h1
    · omega
  · rw [sz]
    rcases hb with h1 | h1
    · rw [bl b h1]; have := hr.inh b h1; omega
    · rw [h1, bln]; omega
  · constructor
    · rintro (h1 | h1)
      · rcases (hr.own c).1 h1 with h2 | ⟨b, h2, h3, h4⟩
        · exact .inl h2
        · exact .inr ⟨b, .inl h2, h3, by rw [bl b h2]; exact h4⟩
      · exact .inr ⟨n, .inr rfl, by rw [hg]; rfl, by rw [bln]; exact h1.symm⟩
    · rintro (h1 | ⟨b, h1 | h1, h2, h3⟩)
      · exact .inl ((hr.own c).2 (.inl h1))
      · rw [bl b h1] at h3
        exact .inl ((hr.own c).2 (.inr ⟨b, h1, h2, h3⟩))
      · subst h1; rw [bln] at h3; exact .inr h3.symm
  · rcases hb with h1 | h1
    · rw [bl b h1]; exact hr.old b h1 hs
    · rw [h1, bln]; exact hr.bsz
  · rcases hb with h1 | h1
    · have ht := Kx.new_tn hf hw hn hr.inh (fun _ => False) h
      exact (hr.blk b y h1 hy).mono ht.le h1 (ht.unt b h1 (by rw [hy]; rfl) id)
    · subst h1; rw [hg] at hy; cases hy; exact hx
  · rcases hp with h1 | h1 <;> rcases hq with h2 | h2
    · rw [bl p h1, bl q h2] at he
      rw [fi p h1, fi q h2]
      exact hr.dist p q h1 h2 hsp hsq hne he
    · rw [h2, bln, bl p h1] at he; have := hr.inh p h1; omega
    · rw [h1, bln, bl q h2] at he; have := hr.inh q h2; omega
    · exact absurd (h1.trans h2.symm) hne

/-- the state in another world -/
def Kx.on (K : Kx) (w' : World) : Kx := { K with w := w' }

/-- one live block is turned -/
theorem HR.write {G : Gx} {K : Kx} {h : Heap} (hr : HR G K h []) {b : Nat} {x : Blk} {w' : World} (hf : FrW K.w w') (hd : K.D b) (hs : (h.get b).isSome = true)
    (hw : ∀ c, c ≠ K.bl b → w'.heap[c]? = K.w.heap[c]?) (hsz : w'.heap.size = K.w.heap.size)
    (hsh : ∀ (c : Array Value) (e : TypeId) (fr : Nat × Nat), K.w.heap[K.bl b]? = some (.cells c e fr) → ∃ (c' : Array Value) (fr' : Nat × Nat), w'.heap[K.bl b]? = some (.cells c' e fr') ∧ c'.size = c.size)
    (hlp : ∀ (L : Loop), K.w.heap[K.bl b]? = some (.loop L) → ∃ L' : Loop, w'.heap[K.bl b]? = some (.loop L'))
    (hx : Kle K (K.on w') → BR G (K.on w') b x) : HR G (K.on w') (h.put b x) [] ∧ Tn (fun i => (h.put b x).low ≤ i) h K (K.on w') := by
  have hO : K.O (K.bl b) := (hr.own _).2 (.inr ⟨b, hd, hs, rfl⟩)
  have hle : Kle K (K.on w') := by
    refine ⟨fun _ h => h, fun _ _ => rfl, fun _ _ => rfl, fun _ h => .inl h, fun c _ ho => hw c fun e => ho (e ▸ hO), fun c c' e fr hc => ?_, fun c L hc => ?_, Nat.le_of_eq hsz.symm, hf⟩
    · by_cases hcb : c = K.bl b
      · subst hcb; exact hsh c' e fr hc
      · exact ⟨c', fr, (hw c hcb).trans hc, rfl⟩
    · by_cases hcb : c = K.bl b
      · subst hcb; exact hlp L hc
      · exact ⟨L, (hw c hcb).trans hc⟩
  have ge : ∀ i, (h.put b x).get i = if i = b then some x else h.get i := fun i => Heap.get_alter _ _ _ _
  have lv : ∀ i, ((h.put b x).get i).isSome = true → (h.get i).isSome = true := fun i hi => by
    rw [ge] at hi; split at hi
    · rename_i e; subst e; exact hs
    · exact hi
  have lv' : ∀ i, (h.get i).isSome = true → ((h.put b x).get i).isSome = true := fun i hi => by
    rw [ge]; split
    · rfl
    · exact hi
  have nos : ∀ i, K.D i → (h.get i).isSome = true → i ≠ b → K.bl i ≠ K.bl b := fun i hi hsi hne he => by
    rcases hr.dist i b hi hd hsi hs hne he with ⟨h1, _⟩ | ⟨h1, _⟩ <;> simp at h1
  refine ⟨⟨fun i hi => ?_, fun i hi => ?_, fun c => ?_, fun i hi hsi => hr.old i hi (lv i hsi), fun i y hi hy => ?_, fun p q hp hq hsp hsq hne he => ?_, hr.aold, ?_⟩, ⟨hle, fun i hi hsi hn => ?_, fun i hi hn => absurd hi hn⟩⟩
  · rw [show (h.put b x).next = h.next from Heap.next_alter _ _ _]; exact hr.lt i hi
  · show _ < w'.heap.size; rw [hsz]; exact hr.inh i hi
  · show K.O c ↔ _
    rw [hr.own c]
    constructor
    · rintro (h1 | ⟨i, h1, h2, h3⟩)
      · exact .inl h1
      · exact .inr ⟨i, h1, lv' i h2, h3⟩
    · rintro (h1 | ⟨i, h1, h2, h3⟩)
      · exact .inl h1
      · exact .inr ⟨i, h1, lv i h2, h3⟩
  · rw [ge] at hy
    split at hy
    · rename_i e; subst e; cases hy; exact hx hle
    · rename_i e
      exact (hr.blk i y hi hy).mono hle hi (hw _ (nos i hi (by rw [hy]; rfl) e))
  · rcases hr.dist p q hp hq (lv p hsp) (lv q hsq) hne he with ⟨h1, _⟩ | ⟨h1, _⟩ <;> simp at h1
  · show _ ≤ w'.heap.size; rw [hsz]; exact hr.bsz
  · have hl : (h.put b x).low = min b h.low := Heap.low_alter _ _ _
    refine hw _ (nos i hi hsi fun e => hn ?_)
    show (h.put b x).low ≤ i
    rw [hl]; omega

theorem HR.fresh {G : Gx} {K : Kx} {h : Heap} {ks : List Nat} (hr : HR G K h ks) : ¬ K.D h.next := fun hd => Nat.lt_irrefl _ (hr.lt _ hd)

theorem HR.pushed {G : Gx} {K : Kx} {h : Heap} {ks : List Nat} (hr : HR G K h ks) (x : Blk) : HR G K (h.push x) ks :=
  hr.agree (fun b hb => by rw [Heap.next_push]; exact Nat.lt_succ_of_lt (hr.lt b hb)) (fun b hb => by rw [Heap.get_push, if_neg (Nat.ne_of_lt (hr.lt b hb))])

end Hx
