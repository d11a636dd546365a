/- Runs of the machine, and rules for them. -/
import Derived.Test.YtnkcimeebobjaaaDoorHx7
import Derived.ChangeArms
import Derived.DataReads
import Derived.WideShapes
import Derived.Carry
import Derived.ChangeCalls
/- Runs of the machine for all great enough bounds, and how they are composed. -/
namespace Hx
open Go

section
variable (F : Nat → Nat → CallFn)
/-- a call comes to its end, for all great enough bounds -/
def RunsV (g : AV) (as : List AV) (h : Heap) (r : Ret) (h' : Heap) : Prop := ∃ N, ∀ L d, N ≤ L → N ≤ d → F L d g as h = some (r, h')
def RunsC (c : Cmd) (s : St) (e : Ex) (s' : St) : Prop := ∃ N, ∀ L d, N ≤ L → N ≤ d → c (F L d) L s = some (e, s')
def W (c : Cmd) (s : St) (Q : Ex → St → Prop) : Prop := ∃ e s', RunsC F c s e s' ∧ Q e s'
def WO (l : List IT) (stk vs : List AV) (h : Heap) (ds : Defs) (Q : Ex → St → Prop) : Prop :=
  ∃ e s', (∃ N, ∀ L d, N ≤ L → N ≤ d → evSeq (F L d) l stk vs h ds = some (e, s')) ∧ Q e s'
def WT (l : List IT) (stk vs : List AV) (h : Heap) (ds : Defs) (Q : Ex → St → Prop) : Prop :=
  ∃ e s', (∃ N, ∀ L d, N ≤ L → N ≤ d → evTail (F L d) l stk vs h ds = some (e, s')) ∧ Q e s'
def WR (cs : List (Nat × AF)) (k : Nat) (l : List IT) (ks : List Nat) (stk vs : List AV) (h : Heap) (ds : Defs) (Q : Ex → St → Prop) : Prop :=
  ∃ e s', (∃ N, ∀ L d, N ≤ L → N ≤ d → evPre (F L d) cs k l ks stk vs h ds = some (e, s')) ∧ Q e s'
def OW {α : Type} (x : Option α) (K : α → Prop) : Prop := ∃ a, x = some a ∧ K a
/-- a call -/
def WV (g : AV) (as : List AV) (h : Heap) (Q : Ret → Heap → Prop) : Prop := ∃ r h', RunsV F g as h r h' ∧ Q r h'
def seqQ (b : Cmd) (Q : Ex → St → Prop) : Ex → St → Prop := fun e s => match e with
  | .normal => W F b s Q
  | e => Q e s
def blkE (id : Nat) (e : Ex) : Ex := match e with
  | .exit i => if i = id then .normal else .exit i
  | e => e
def blkQ (id : Nat) (Q : Ex → St → Prop) : Ex → St → Prop := fun e s => Q (blkE id e) s
def loopQ (I : Nat → St → Prop) (k : Nat) (Q : Ex → St → Prop) : Ex → St → Prop := fun e s => match e with
  | .normal => ∃ k', k' < k ∧ I k' s
  | e => Q e s
/-- the heap at the beginning of a function -/
def Heap.setLow (h : Heap) (l : Nat) : Heap := { h with low := l }
/-- the heap at the beginning of a function -/
def Heap.ent (h : Heap) : Heap := { h with low := h.next }
end

@[congr] theorem OW_congr {α : Type} {x y : Option α} {K : α → Prop} (h : x = y) : OW x K = OW y K := by rw [h]
@[congr] theorem ob_congr {α β : Type} {x y : Option α} {f : α → Option β} (h : x = y) : ob x f = ob y f := by rw [h]
@[congr] theorem bif_congr {α : Type} {b c : Bool} {x y : α} (h : b = c) : bif_ b x y = bif_ c x y := by rw [h]
theorem OW_some {α : Type} (a : α) (K : α → Prop) : OW (some a) K = K a := by
  apply propext
  exact ⟨fun ⟨b, h, hk⟩ => by cases h; exact hk, fun h => ⟨a, rfl, h⟩⟩
theorem OW_none {α : Type} (K : α → Prop) : OW none K = False := by
  apply propext
  exact Iff.intro (fun ⟨b, h, _⟩ => by cases h) (fun h => False.elim h)
theorem bifT {α : Type} {x y : α} : bif_ true x y = x := rfl
theorem bifF {α : Type} {x y : α} : bif_ false x y = y := rfl
theorem obS {α β : Type} (a : α) (f : α → Option β) : ob (some a) f = f a := rfl
theorem obN {α β : Type} (f : α → Option β) : ob none f = none := rfl

section
variable {F : Nat → Nat → CallFn} {Q : Ex → St → Prop}

theorem W.mono {c : Cmd} {s : St} {Q' : Ex → St → Prop} (h : W F c s Q) (hq : ∀ e s, Q e s → Q' e s) : W F c s Q' := by
  obtain ⟨e, s', h1, h2⟩ := h
  exact ⟨e, s', h1, hq _ _ h2⟩
theorem WV.mono {g : AV} {as : List AV} {h : Heap} {R R' : Ret → Heap → Prop} (hw : WV F g as h R) (hq : ∀ r h', R r h' → R' r h') : WV F g as h R' := by
  obtain ⟨e, s', h1, h2⟩ := hw
  exact ⟨e, s', h1, hq _ _ h2⟩

theorem W_seq {a b : Cmd} {s : St} (h : W F a s (seqQ F b Q)) : W F (cSeq a b) s Q := by
  obtain ⟨e, s1, ⟨N, hN⟩, h2⟩ := h
  cases e with
  | normal =>
    obtain ⟨e', s', ⟨N', hN'⟩, h3⟩ := (show W F b s1 Q from h2)
    refine ⟨e', s', ⟨max N N', fun L d hL hd => ?_⟩, h3⟩
    show thenR (a (F L d) L s) (b (F L d) L) = _
    rw [hN L d (by omega) (by omega)]
    exact hN' L d (by omega) (by omega)
  | exit i => exact ⟨_, s1, ⟨N, fun L d hL hd => by show thenR (a (F L d) L s) (b (F L d) L) = _; rw [hN L d hL hd]; rfl⟩, h2⟩
  | goto i => exact ⟨_, s1, ⟨N, fun L d hL hd => by show thenR (a (F L d) L s) (b (F L d) L) = _; rw [hN L d hL hd]; rfl⟩, h2⟩
  | ret => exact ⟨_, s1, ⟨N, fun L d hL hd => by show thenR (a (F L d) L s) (b (F L d) L) = _; rw [hN L d hL hd]; rfl⟩, h2⟩
  | panic v => exact ⟨_, s1, ⟨N, fun L d hL hd => by show thenR (a (F L d) L s) (b (F L d) L) = _; rw [hN L d hL hd]; rfl⟩, h2⟩
theorem seqQ_normal {b : Cmd} {s : St} : seqQ F b Q .normal s = W F b s Q := rfl
theorem seqQ_exit {b : Cmd} {s : St} {i : Nat} : seqQ F b Q (.exit i) s = Q (.exit i) s := rfl
theorem seqQ_ret {b : Cmd} {s : St} : seqQ F b Q .ret s = Q .ret s := rfl

theorem W_ops {l : List IT} {s : St} (h : WO F l [] s.vs s.h s.ds Q) : W F (cOps l) s Q := h
theorem W_opsM {l : List IT} {vs : List AV} {h : Heap} {ds : Defs} (hw : WO F l [] vs h ds Q) : W F (cOps l) ⟨vs, h, ds⟩ Q := hw
theorem W_pre {cs : List (Nat × AF)} {k : Nat} {l : List IT} {vs : List AV} {h : Heap} {ds : Defs} (hw : WR F cs k l [] [] vs h ds Q) : W F (cPre cs k l) ⟨vs, h, ds⟩ Q := hw
theorem W_nop {s : St} (h : Q .normal s) : W F cNop s Q := ⟨_, _, ⟨0, fun _ _ _ _ => rfl⟩, h⟩
theorem W_exit {s : St} {i : Nat} (h : Q (.exit i) s) : W F (cExit i) s Q := ⟨_, _, ⟨0, fun _ _ _ _ => rfl⟩, h⟩
theorem W_ret {s : St} (h : Q .ret s) : W F cRet s Q := ⟨_, _, ⟨0, fun _ _ _ _ => rfl⟩, h⟩
theorem W_blk {b : Cmd} {s : St} {i : Nat} (h : W F b s (blkQ i Q)) : W F (cBlk i b) s Q := by
  obtain ⟨e, s1, ⟨N, hN⟩, h2⟩ := h
  refine ⟨_, s1, ⟨N, fun L d hL hd => ?_⟩, h2⟩
  show ob (b (F L d) L s) (fun r => some (blkX i r)) = _
  rw [hN L d hL hd]
  cases e with
  | exit j =>
    show some ((bif_ (Nat.beq j i) Ex.normal (.exit j)), s1) = some ((if j = i then Ex.normal else .exit j), s1)
    rw [bif_eq]
    simp only [Nat.beq_eq]
  | _ => rfl
theorem blkQ_exit {i j : Nat} {s : St} : blkQ i Q (.exit j) s = Q (if j = i then .normal else .exit j) s := rfl
theorem blkQ_normal {i : Nat} {s : St} : blkQ i Q .normal s = Q .normal s := rfl
theorem blkQ_ret {i : Nat} {s : St} : blkQ i Q .ret s = Q .ret s := rfl
theorem loopQ_exit {I : Nat → St → Prop} {k : Nat} {j : Nat} {s : St} : loopQ I k Q (.exit j) s = Q (.exit j) s := rfl
theorem loopQ_ret {I : Nat → St → Prop} {k : Nat} {s : St} : loopQ I k Q .ret s = Q .ret s := rfl
theorem loopQ_normal {I : Nat → St → Prop} {k : Nat} {s : St} : loopQ I k Q .normal s = ∃ k', k' < k ∧ I k' s := rfl
theorem W_scope {b : Cmd} {s : St} (h : W F b s Q) (hg : ∀ i s, ¬ Q (.goto i) s) : W F (cScope b) s Q := by
  obtain ⟨e, s1, ⟨N, hN⟩, h2⟩ := h
  refine ⟨e, s1, ⟨N, fun L d hL hd => ?_⟩, h2⟩
  show ob (b (F L d) L s) noGoto = _
  rw [hN L d hL hd]
  cases e with
  | goto i => exact absurd h2 (hg _ _)
  | _ => rfl
theorem W_cnd {x : OF} {a b : Cmd} {s : St} {t : Bool} (hx : x [] s.vs = some (.bool t)) (h1 : t = true → W F a s Q) (h2 : t = false → W F b s Q) : W F (cCnd x a b) s Q := by
  cases t with
  | true =>
    obtain ⟨e, s1, ⟨N, hN⟩, h3⟩ := h1 rfl
    refine ⟨e, s1, ⟨N, fun L d hL hd => ?_⟩, h3⟩
    show ob (x [] s.vs) _ = _
    rw [hx]; exact hN L d hL hd
  | false =>
    obtain ⟨e, s1, ⟨N, hN⟩, h3⟩ := h2 rfl
    refine ⟨e, s1, ⟨N, fun L d hL hd => ?_⟩, h3⟩
    show ob (x [] s.vs) _ = _
    rw [hx]; exact hN L d hL hd
theorem W_cndP {x : OF} {a b : Cmd} {s : St} {p : Prop} [Decidable p] (hx : x [] s.vs = some (.bool (decide p))) (h1 : p → W F a s Q) (h2 : ¬ p → W F b s Q) : W F (cCnd x a b) s Q :=
  W_cnd hx (fun h => h1 (of_decide_eq_true h)) (fun h => h2 (of_decide_eq_false h))

/-- a loop: what holds ahead of each round (k: how many rounds are left at most) -/
theorem W_loop {b : Cmd} (I : Nat → St → Prop) (hstep : ∀ k s, I k s → W F b s (loopQ I k Q)) {k : Nat} {s : St} (h0 : I k s) : W F (cLoop b) s Q := by
  have key : ∀ k s, I k s → ∃ e s', (∃ N, ∀ L d n, N ≤ L → N ≤ d → N ≤ n → loopN (b (F L d) L) n s = some (e, s')) ∧ Q e s' := by
    intro k
    induction k using Nat.strongRecOn with
    | _ k ih =>
      intro s hs
      obtain ⟨e, s1, ⟨N, hN⟩, h2⟩ := hstep k s hs
      have one : ∀ L d n, N ≤ L → N ≤ d → N + 1 ≤ n → loopN (b (F L d) L) n s = (match (e, s1) with | (.normal, s) => loopN (b (F L d) L) (n - 1) s | r => some r) := by
        intro L d n hL hd hn
        obtain ⟨n, rfl⟩ : ∃ m, n = m + 1 := ⟨n - 1, by omega⟩
        show ob (b (F L d) L s) _ = _
        rw [hN L d hL hd]
        rfl
      cases e with
      | normal =>
        obtain ⟨k', hk', hI⟩ := h2
        obtain ⟨e', s', ⟨N', hN'⟩, h3⟩ := ih k' hk' s1 hI
        refine ⟨e', s', ⟨N + N' + 1, fun L d n hL hd hn => ?_⟩, h3⟩
        rw [one L d n (by omega) (by omega) (by omega)]
        exact hN' L d (n - 1) (by omega) (by omega) (by omega)
      | exit i => exact ⟨_, s1, ⟨N + 1, fun L d n hL hd hn => by rw [one L d n (by omega) (by omega) hn]⟩, h2⟩
      | goto i => exact ⟨_, s1, ⟨N + 1, fun L d n hL hd hn => by rw [one L d n (by omega) (by omega) hn]⟩, h2⟩
      | ret => exact ⟨_, s1, ⟨N + 1, fun L d n hL hd hn => by rw [one L d n (by omega) (by omega) hn]⟩, h2⟩
      | panic v => exact ⟨_, s1, ⟨N + 1, fun L d n hL hd hn => by rw [one L d n (by omega) (by omega) hn]⟩, h2⟩
  obtain ⟨e, s', ⟨N, hN⟩, h2⟩ := key k s h0
  exact ⟨e, s', ⟨N, fun L d hL hd => hN L d L hL hd hL⟩, h2⟩

/-! Operations in the text's order. -/
theorem WO_nil {stk vs : List AV} {h : Heap} {ds : Defs} (hq : Q .normal ⟨vs, h, ds⟩) : WO F [] stk vs h ds Q := ⟨_, _, ⟨0, fun _ _ _ _ => rfl⟩, hq⟩
theorem WO_nilE {stk vs : List AV} {h : Heap} {ds : Defs} : WO F [] stk vs h ds Q = Q .normal ⟨vs, h, ds⟩ := by
  apply propext
  refine ⟨fun ⟨e, s', ⟨N, hN⟩, hq⟩ => ?_, WO_nil⟩
  have := hN N N (Nat.le_refl _) (Nat.le_refl _)
  cases this; exact hq
theorem WO_a {f : AF} {wr : Option Nat} {chk : List (Nat × AF)} {r : List IT} {stk vs : List AV} {h : Heap} {ds : Defs} :
    WO F (⟨.a f, none, wr, chk⟩ :: r) stk vs h ds Q = OW (f stk vs h) (fun x => WO F r (x.1 :: stk) (putV vs wr x.1) (x.2.1.killO x.2.2) ds Q) := by
  have e0 : ∀ L d, evSeq (F L d) (⟨.a f, none, wr, chk⟩ :: r) stk vs h ds = ob (f stk vs h) fun x => evSeq (F L d) r (x.1 :: stk) (putV vs wr x.1) (x.2.1.killO x.2.2) ds := by
    intro L d
    show ob (ob (f stk vs h) fun r => some (aR ds r)) _ = _
    cases f stk vs h <;> rfl
  unfold WO OW
  apply propext
  constructor
  · rintro ⟨e, s', ⟨N, hN⟩, hq⟩
    have h1 := hN N N (Nat.le_refl _) (Nat.le_refl _)
    rw [e0, ob_some] at h1
    obtain ⟨x, hx, _⟩ := h1
    refine ⟨x, hx, e, s', ⟨N, fun L d hL hd => ?_⟩, hq⟩
    have := hN L d hL hd
    rw [e0, hx] at this
    exact this
  · rintro ⟨x, hx, e, s', ⟨N, hN⟩, hq⟩
    refine ⟨e, s', ⟨N, fun L d hL hd => ?_⟩, hq⟩
    rw [e0, hx]
    exact hN L d hL hd
theorem WO_e {f : EF} {wr : Option Nat} {chk : List (Nat × AF)} {r : List IT} {stk vs : List AV} {h : Heap} {ds : Defs} :
    WO F (⟨.e f, none, wr, chk⟩ :: r) stk vs h ds Q = OW (f stk vs h) (fun x => WO F r (x.1 :: stk) (putV vs wr x.1) x.2 ds Q) := by
  have e0 : ∀ L d, evSeq (F L d) (⟨.e f, none, wr, chk⟩ :: r) stk vs h ds = ob (f stk vs h) fun x => evSeq (F L d) r (x.1 :: stk) (putV vs wr x.1) x.2 ds := by
    intro L d
    show ob (ob (f stk vs h) fun r => some (OR.val r.1 r.2 ds)) _ = _
    cases f stk vs h <;> rfl
  unfold WO OW
  apply propext
  constructor
  · rintro ⟨e, s', ⟨N, hN⟩, hq⟩
    have h1 := hN N N (Nat.le_refl _) (Nat.le_refl _)
    rw [e0, ob_some] at h1
    obtain ⟨x, hx, _⟩ := h1
    refine ⟨x, hx, e, s', ⟨N, fun L d hL hd => ?_⟩, hq⟩
    have := hN L d hL hd
    rw [e0, hx] at this
    exact this
  · rintro ⟨x, hx, e, s', ⟨N, hN⟩, hq⟩
    refine ⟨e, s', ⟨N, fun L d hL hd => ?_⟩, hq⟩
    rw [e0, hx]
    exact hN L d hL hd
/-- a guarded operation -/
theorem WO_g {op : OpK} {g : OF} {want : Bool} {wr : Option Nat} {chk : List (Nat × AF)} {r : List IT} {stk vs : List AV} {h : Heap} {ds : Defs} :
    WO F (⟨op, some (g, want), wr, chk⟩ :: r) stk vs h ds Q = OW (ob (g stk vs) (guardB want)) (fun b => bif_ b (WO F (⟨op, none, wr, chk⟩ :: r) stk vs h ds Q) (WO F r (undefA :: stk) (putV vs wr undefA) h ds Q)) := by
  have e0 : ∀ L d, evSeq (F L d) (⟨op, some (g, want), wr, chk⟩ :: r) stk vs h ds = ob (ob (g stk vs) (guardB want)) fun b => bif_ b (evSeq (F L d) (⟨op, none, wr, chk⟩ :: r) stk vs h ds) (evSeq (F L d) r (undefA :: stk) (putV vs wr undefA) h ds) := by
    intro L d
    show ob (ob (g stk vs) (guardB want)) _ = _
    cases ob (g stk vs) (guardB want) with
    | none => rfl
    | some b => cases b <;> rfl
  unfold WO OW
  apply propext
  constructor
  · rintro ⟨e, s', ⟨N, hN⟩, hq⟩
    have h1 := hN N N (Nat.le_refl _) (Nat.le_refl _)
    rw [e0, ob_some] at h1
    obtain ⟨b, hb, _⟩ := h1
    refine ⟨b, hb, ?_⟩
    cases b with
    | true => exact ⟨e, s', ⟨N, fun L d hL hd => by have := hN L d hL hd; rw [e0, hb] at this; exact this⟩, hq⟩
    | false => exact ⟨e, s', ⟨N, fun L d hL hd => by have := hN L d hL hd; rw [e0, hb] at this; exact this⟩, hq⟩
  · rintro ⟨b, hb, hx⟩
    cases b with
    | true =>
      obtain ⟨e, s', ⟨N, hN⟩, hq⟩ := hx
      exact ⟨e, s', ⟨N, fun L d hL hd => by rw [e0, hb]; exact hN L d hL hd⟩, hq⟩
    | false =>
      obtain ⟨e, s', ⟨N, hN⟩, hq⟩ := hx
      exact ⟨e, s', ⟨N, fun L d hL hd => by rw [e0, hb]; exact hN L d hL hd⟩, hq⟩
/-- how a call goes on -/
def callQ (K : AV → Heap → Prop) (P : AV → Heap → Prop) : Ret → Heap → Prop := fun r h => match r with
  | .val v => K v h
  | .pan v => P v h
theorem callQ_val {K P : AV → Heap → Prop} {v : AV} {h : Heap} : callQ K P (.val v) h = K v h := rfl
theorem WO_call {f : OF} {args : List OF} {wr : Option Nat} {chk : List (Nat × AF)} {r : List IT} {stk vs : List AV} {h : Heap} {ds : Defs} {g : AV} {as : List AV}
    (hf : f stk vs = some g) (ha : mapF args stk vs = some as)
    (hc : WV F g as h (callQ (fun v h' => WO F r (v :: stk) (putV vs wr v) h' ds Q) (fun v h' => Q (.panic v) ⟨vs, h', ds⟩))) :
    WO F (⟨.call f args, none, wr, chk⟩ :: r) stk vs h ds Q := by
  obtain ⟨rt, h', ⟨N, hN⟩, hq⟩ := hc
  have e0 : ∀ L d, evSeq (F L d) (⟨.call f args, none, wr, chk⟩ :: r) stk vs h ds = ob (ob (F L d g as h) fun r => some (callR ds r)) fun x => match x with
      | .val v h ds => evSeq (F L d) r (v :: stk) (putV vs wr v) h ds
      | .pan v h => some (.panic v, ⟨vs, h, ds⟩) := by
    intro L d
    show ob (ob (f stk vs) fun g => ob (mapF args stk vs) fun as => ob (F L d g as h) fun r => some (callR ds r)) _ = _
    rw [hf, ha]
    rfl
  cases rt with
  | val v =>
    obtain ⟨e, s', ⟨N', hN'⟩, hq⟩ := (show WO F r (v :: stk) (putV vs wr v) h' ds Q from hq)
    refine ⟨e, s', ⟨max N N', fun L d hL hd => ?_⟩, hq⟩
    rw [e0, hN L d (by omega) (by omega)]
    exact hN' L d (by omega) (by omega)
  | pan v =>
    refine ⟨.panic v, ⟨vs, h', ds⟩, ⟨N, fun L d hL hd => ?_⟩, hq⟩
    rw [e0, hN L d (by omega) (by omega)]
    rfl

/-! Behind the head of a region that draws its order. -/
theorem WT_nilE {stk vs : List AV} {h : Heap} {ds : Defs} : WT F [] stk vs h ds Q = Q .normal ⟨vs, h, ds⟩ := by
  apply propext
  refine ⟨fun ⟨e, s', ⟨N, hN⟩, hq⟩ => ?_, fun hq => ⟨_, _, ⟨0, fun _ _ _ _ => rfl⟩, hq⟩⟩
  have := hN N N (Nat.le_refl _) (Nat.le_refl _)
  cases this; exact hq
theorem WT_a {f : AF} {wr : Option Nat} {r : List IT} {stk vs : List AV} {h : Heap} {ds : Defs} :
    WT F (⟨.a f, none, wr, []⟩ :: r) stk vs h ds Q = OW (f stk vs h) (fun x => WT F r (x.1 :: stk) (putV vs wr x.1) (x.2.1.killO x.2.2) ds Q) := by
  have e0 : ∀ L d, evTail (F L d) (⟨.a f, none, wr, []⟩ :: r) stk vs h ds = ob (f stk vs h) fun x => evTail (F L d) r (x.1 :: stk) (putV vs wr x.1) (x.2.1.killO x.2.2) ds := by
    intro L d
    show ob (ob (f stk vs h) fun r => some (aR ds r)) _ = _
    cases f stk vs h <;> rfl
  unfold WT OW
  apply propext
  constructor
  · rintro ⟨e, s', ⟨N, hN⟩, hq⟩
    have h1 := hN N N (Nat.le_refl _) (Nat.le_refl _)
    rw [e0, ob_some] at h1
    obtain ⟨x, hx, _⟩ := h1
    refine ⟨x, hx, e, s', ⟨N, fun L d hL hd => ?_⟩, hq⟩
    have := hN L d hL hd
    rw [e0, hx] at this
    exact this
  · rintro ⟨x, hx, e, s', ⟨N, hN⟩, hq⟩
    refine ⟨e, s', ⟨N, fun L d hL hd => ?_⟩, hq⟩
    rw [e0, hx]
    exact hN L d hL hd
theorem WT_e {f : EF} {wr : Option Nat} {chk : List (Nat × AF)} {r : List IT} {stk vs : List AV} {h : Heap} {ds : Defs} :
    WT F (⟨.e f, none, wr, chk⟩ :: r) stk vs h ds Q = OW (f stk vs h) (fun x => chkOk chk stk vs x.2 = true ∧ WT F r (x.1 :: stk) (putV vs wr x.1) x.2 ds Q) := by
  have e0 : ∀ L d, evTail (F L d) (⟨.e f, none, wr, chk⟩ :: r) stk vs h ds = ob (f stk vs h) fun x => bif_ (chkOk chk stk vs x.2) (evTail (F L d) r (x.1 :: stk) (putV vs wr x.1) x.2 ds) none := by
    intro L d
    show ob (ob (f stk vs h) fun r => some (OR.val r.1 r.2 ds)) _ = _
    cases f stk vs h <;> rfl
  unfold WT OW
  apply propext
  constructor
  · rintro ⟨e, s', ⟨N, hN⟩, hq⟩
    have h1 := hN N N (Nat.le_refl _) (Nat.le_refl _)
    rw [e0, ob_some] at h1
    obtain ⟨x, hx, hb⟩ := h1
    rw [bif_none] at hb
    refine ⟨x, hx, hb.1, e, s', ⟨N, fun L d hL hd => ?_⟩, hq⟩
    have := hN L d hL hd
    rw [e0, hx, obS, hb.1] at this
    exact this
  · rintro ⟨x, hx, hc, e, s', ⟨N, hN⟩, hq⟩
    refine ⟨e, s', ⟨N, fun L d hL hd => ?_⟩, hq⟩
    rw [e0, hx, obS, hc]
    exact hN L d hL hd
theorem WT_g {op : OpK} {g : OF} {want : Bool} {wr : Option Nat} {chk : List (Nat × AF)} {r : List IT} {stk vs : List AV} {h : Heap} {ds : Defs} :
    WT F (⟨op, some (g, want), wr, chk⟩ :: r) stk vs h ds Q = OW (ob (g stk vs) (guardB want)) (fun b => bif_ b (WT F (⟨op, none, wr, chk⟩ :: r) stk vs h ds Q) (WT F r (undefA :: stk) (putV vs wr undefA) h ds Q)) := by
  have e0 : ∀ L d, evTail (F L d) (⟨op, some (g, want), wr, chk⟩ :: r) stk vs h ds = ob (ob (g stk vs) (guardB want)) fun b => bif_ b (evTail (F L d) (⟨op, none, wr, chk⟩ :: r) stk vs h ds) (evTail (F L d) r (undefA :: stk) (putV vs wr undefA) h ds) := by
    intro L d
    show ob (ob (g stk vs) (guardB want)) _ = _
    cases ob (g stk vs) (guardB want) with
    | none => rfl
    | some b => cases b <;> rfl
  unfold WT OW
  apply propext
  constructor
  · rintro ⟨e, s', ⟨N, hN⟩, hq⟩
    have h1 := hN N N (Nat.le_refl _) (Nat.le_refl _)
    rw [e0, ob_some] at h1
    obtain ⟨b, hb, _⟩ := h1
    refine ⟨b, hb, ?_⟩
    cases b with
    | true => exact ⟨e, s', ⟨N, fun L d hL hd => by have := hN L d hL hd; rw [e0, hb] at this; exact this⟩, hq⟩
    | false => exact ⟨e, s', ⟨N, fun L d hL hd => by have := hN L d hL hd; rw [e0, hb] at this; exact this⟩, hq⟩
  · rintro ⟨b, hb, hx⟩
    cases b with
    | true =>
      obtain ⟨e, s', ⟨N, hN⟩, hq⟩ := hx
      exact ⟨e, s', ⟨N, fun L d hL hd => by rw [e0, hb]; exact hN L d hL hd⟩, hq⟩
    | false =>
      obtain ⟨e, s', ⟨N, hN⟩, hq⟩ := hx
      exact ⟨e, s', ⟨N, fun L d hL hd => by rw [e0, hb]; exact hN L d hL hd⟩, hq⟩
theorem WT_call {f : OF} {args : List OF} {wr : Option Nat} {chk : List (Nat × AF)} {r : List IT} {stk vs : List AV} {h : Heap} {ds : Defs} {g : AV} {as : List AV}
    (hf : f stk vs = some g) (ha : mapF args stk vs = some as)
    (hc : WV F g as h (callQ (fun v h' => chkOk chk stk vs h' = true ∧ WT F r (v :: stk) (putV vs wr v) h' ds Q) (fun _ _ => False))) :
    WT F (⟨.call f args, none, wr, chk⟩ :: r) stk vs h ds Q := by
  obtain ⟨rt, h', ⟨N, hN⟩, hq⟩ := hc
  have e0 : ∀ L d, evTail (F L d) (⟨.call f args, none, wr, chk⟩ :: r) stk vs h ds = ob (ob (F L d g as h) fun r => some (callR ds r)) fun x => match x with
      | .val v h ds => bif_ (chkOk chk stk vs h) (evTail (F L d) r (v :: stk) (putV vs wr v) h ds) none
      | .pan _ _ => none := by
    intro L d
    show ob (ob (f stk vs) fun g => ob (mapF args stk vs) fun as => ob (F L d g as h) fun r => some (callR ds r)) _ = _
    rw [hf, ha]
    rfl
  cases rt with
  | val v =>
    obtain ⟨hk, e, s', ⟨N', hN'⟩, hq⟩ := (show chkOk chk stk vs h' = true ∧ WT F r (v :: stk) (putV vs wr v) h' ds Q from hq)
    refine ⟨e, s', ⟨max N N', fun L d hL hd => ?_⟩, hq⟩
    rw [e0, hN L d (by omega) (by omega)]
    show bif_ (chkOk chk stk vs h') _ none = _
    rw [hk]
    exact hN' L d (by omega) (by omega)
  | pan v => exact hq.elim

/-! The head of a region that draws its order. -/
theorem WR_0 {cs : List (Nat × AF)} {l : List IT} {ks : List Nat} {stk vs : List AV} {h : Heap} {ds : Defs} (hc : chkOk cs stk vs (h.kills ks) = true) (hw : WT F l stk vs (h.kills ks) ds Q) : WR F cs 0 l ks stk vs h ds Q := by
  obtain ⟨e, s', ⟨N, hN⟩, hq⟩ := hw
  refine ⟨e, s', ⟨N, fun L d hL hd => ?_⟩, hq⟩
  show bif_ (chkOk cs stk vs (h.kills ks)) _ none = _
  rw [hc]
  exact hN L d hL hd
/-- an operation that ends no row's use -/
theorem WR_a {f : AF} {cs : List (Nat × AF)} {k : Nat} {wr : Option Nat} {chk : List (Nat × AF)} {r : List IT} {ks : List Nat} {stk vs : List AV} {h h' : Heap} {ds : Defs} {v : AV} (hf : f stk vs h = some (v, h', none))
    (hw : WR F cs k r ks (v :: stk) (putV vs wr v) h' ds Q) : WR F cs (k + 1) (⟨.a f, none, wr, chk⟩ :: r) ks stk vs h ds Q := by
  obtain ⟨e, s', ⟨N, hN⟩, hq⟩ := hw
  refine ⟨e, s', ⟨N, fun L d hL hd => ?_⟩, hq⟩
  show ob (f stk vs h) _ = _
  rw [hf]
  exact hN L d hL hd
theorem WR_ak {f : AF} {cs : List (Nat × AF)} {k : Nat} {wr : Option Nat} {chk : List (Nat × AF)} {r : List IT} {ks : List Nat} {stk vs : List AV} {h h' : Heap} {ds : Defs} {v : AV} {b : Nat} (hf : f stk vs h = some (v, h', some b)) (hb : memN b ks = false)
    (hw : WR F cs k r (b :: ks) (v :: stk) (putV vs wr v) h' ds Q) : WR F cs (k + 1) (⟨.a f, none, wr, chk⟩ :: r) ks stk vs h ds Q := by
  obtain ⟨e, s', ⟨N, hN⟩, hq⟩ := hw
  refine ⟨e, s', ⟨N, fun L d hL hd => ?_⟩, hq⟩
  show ob (f stk vs h) _ = _
  rw [hf]
  show bif_ (memN b ks) none _ = _
  rw [hb]
  exact hN L d hL hd
theorem WR_gT {op : OpK} {g : OF} {want : Bool} {cs : List (Nat × AF)} {k : Nat} {wr : Option Nat} {chk : List (Nat × AF)} {r : List IT} {ks : List Nat} {stk vs : List AV} {h : Heap} {ds : Defs} (hg : ob (g stk vs) (guardB want) = some true)
    (hw : WR F cs (k + 1) (⟨op, none, wr, chk⟩ :: r) ks stk vs h ds Q) : WR F cs (k + 1) (⟨op, some (g, want), wr, chk⟩ :: r) ks stk vs h ds Q := by
  obtain ⟨e, s', ⟨N, hN⟩, hq⟩ := hw
  refine ⟨e, s', ⟨N, fun L d hL hd => ?_⟩, hq⟩
  have := hN L d hL hd
  rw [← this]
  show ob (ob (g stk vs) (guardB want)) _ = _
  rw [hg]; rfl
theorem WR_gF {op : OpK} {g : OF} {want : Bool} {cs : List (Nat × AF)} {k : Nat} {wr : Option Nat} {chk : List (Nat × AF)} {r : List IT} {ks : List Nat} {stk vs : List AV} {h : Heap} {ds : Defs} (hg : ob (g stk vs) (guardB want) = some false)
    (hw : WR F cs k r ks (undefA :: stk) (putV vs wr undefA) h ds Q) : WR F cs (k + 1) (⟨op, some (g, want), wr, chk⟩ :: r) ks stk vs h ds Q := by
  obtain ⟨e, s', ⟨N, hN⟩, hq⟩ := hw
  refine ⟨e, s', ⟨N, fun L d hL hd => ?_⟩, hq⟩
  have := hN L d hL hd
  rw [← this]
  show ob (ob (g stk vs) (guardB want)) _ = _
  rw [hg]; rfl
/-- behind an operation of the head -/
def wrK (F : Nat → Nat → CallFn) (cs : List (Nat × AF)) (k : Nat) (r : List IT) (ks : List Nat) (stk vs : List AV) (ds : Defs) (wr : Option Nat) (Q : Ex → St → Prop) (x : AV × Heap × Option Nat) : Prop :=
  match x.2.2 with
  | none => WR F cs k r ks (x.1 :: stk) (putV vs wr x.1) x.2.1 ds Q
  | some b => memN b ks = false ∧ WR F cs k r (b :: ks) (x.1 :: stk) (putV vs wr x.1) x.2.1 ds Q
theorem wrK0 {cs : List (Nat × AF)} {k : Nat} {r : List IT} {ks : List Nat} {stk vs : List AV} {ds : Defs} {wr : Option Nat} {v : AV} {h : Heap} : wrK F cs k r ks stk vs ds wr Q (v, h, none) = WR F cs k r ks (v :: stk) (putV vs wr v) h ds Q := rfl
theorem wrKS {cs : List (Nat × AF)} {k : Nat} {r : List IT} {ks : List Nat} {stk vs : List AV} {ds : Defs} {wr : Option Nat} {v : AV} {h : Heap} {b : Nat} : wrK F cs k r ks stk vs ds wr Q (v, h, some b) = (memN b ks = false ∧ WR F cs k r (b :: ks) (v :: stk) (putV vs wr v) h ds Q) := rfl
theorem WR_aE {f : AF} {cs : List (Nat × AF)} {k : Nat} {wr : Option Nat} {chk : List (Nat × AF)} {r : List IT} {ks : List Nat} {stk vs : List AV} {h : Heap} {ds : Defs} :
    WR F cs (k + 1) (⟨.a f, none, wr, chk⟩ :: r) ks stk vs h ds Q = OW (f stk vs h) (wrK F cs k r ks stk vs ds wr Q) := by
  have e0 : ∀ L d, evPre (F L d) cs (k + 1) (⟨.a f, none, wr, chk⟩ :: r) ks stk vs h ds = ob (f stk vs h) fun x => match x.2.2 with
      | some b => bif_ (memN b ks) none (evPre (F L d) cs k r (b :: ks) (x.1 :: stk) (putV vs wr x.1) x.2.1 ds)
      | none => evPre (F L d) cs k r ks (x.1 :: stk) (putV vs wr x.1) x.2.1 ds := fun L d => rfl
  apply propext
  constructor
  · rintro ⟨e, s', ⟨N, hN⟩, hq⟩
    cases hf : f stk vs h with
    | none => have := hN N N (Nat.le_refl _) (Nat.le_refl _); rw [e0, hf] at this; cases this
    | some x =>
      obtain ⟨v, h', kk⟩ := x
      refine ⟨_, rfl, ?_⟩
      cases kk with
      | none => exact ⟨e, s', ⟨N, fun L d hL hd => by have := hN L d hL hd; rw [e0, hf] at this; exact this⟩, hq⟩
      | some b =>
        cases hm : memN b ks with
        | true => have := hN N N (Nat.le_refl _) (Nat.le_refl _); rw [e0, hf] at this; simp only [obS, hm, bifT] at this; cases this
        | false => exact ⟨hm, e, s', ⟨N, fun L d hL hd => by have := hN L d hL hd; rw [e0, hf] at this; simp only [obS, hm, bifF] at this; exact this⟩, hq⟩
  · rintro ⟨⟨v, h', kk⟩, hf, hx⟩
    cases kk with
    | none => exact WR_a hf hx
    | some b => exact WR_ak hf hx.1 hx.2
theorem WR_gE {op : OpK} {g : OF} {want : Bool} {cs : List (Nat × AF)} {k : Nat} {wr : Option Nat} {chk : List (Nat × AF)} {r : List IT} {ks : List Nat} {stk vs : List AV} {h : Heap} {ds : Defs} :
    WR F cs (k + 1) (⟨op, some (g, want), wr, chk⟩ :: r) ks stk vs h ds Q = OW (ob (g stk vs) (guardB want)) (fun b => bif_ b (WR F cs (k + 1) (⟨op, none, wr, chk⟩ :: r) ks stk vs h ds Q) (WR F cs k r ks (undefA :: stk) (putV vs wr undefA) h ds Q)) := by
  apply propext
  constructor
  · rintro ⟨e, s', ⟨N, hN⟩, hq⟩
    have e0 : ∀ L d, evPre (F L d) cs (k + 1) (⟨op, some (g, want), wr, chk⟩ :: r) ks stk vs h ds = ob (ob (g stk vs) (guardB want)) fun b => bif_ b (evPre (F L d) cs (k + 1) (⟨op, none, wr, chk⟩ :: r) ks stk vs h ds) (evPre (F L d) cs k r ks (undefA :: stk) (putV vs wr undefA) h ds) := by
      intro L d
      show ob (ob (g stk vs) (guardB want)) _ = _
      cases ob (g stk vs) (guardB want) with
      | none => rfl
      | some b => cases b <;> rfl
    cases hg : ob (g stk vs) (guardB want) with
    | none => have := hN N N (Nat.le_refl _) (Nat.le_refl _); rw [e0, hg] at this; cases this
    | some b =>
      refine ⟨b, rfl, ?_⟩
      cases b with
      | true => exact ⟨e, s', ⟨N, fun L d hL hd => by have := hN L d hL hd; rw [e0, hg] at this; exact this⟩, hq⟩
      | false => exact ⟨e, s', ⟨N, fun L d hL hd => by have := hN L d hL hd; rw [e0, hg] at this; exact this⟩, hq⟩
  · rintro ⟨b, hg, hx⟩
    cases b with
    | true => exact WR_gT hg hx
    | false => exact WR_gF hg hx
theorem WR_0E {cs : List (Nat × AF)} {l : List IT} {ks : List Nat} {stk vs : List AV} {h : Heap} {ds : Defs} : WR F cs 0 l ks stk vs h ds Q = (chkOk cs stk vs (h.kills ks) = true ∧ WT F l stk vs (h.kills ks) ds Q) := by
  apply propext
  constructor
  · rintro ⟨e, s', ⟨N, hN⟩, hq⟩
    have e0 : ∀ L d, evPre (F L d) cs 0 l ks stk vs h ds = bif_ (chkOk cs stk vs (h.kills ks)) (evTail (F L d) l stk vs (h.kills ks) ds) none := fun _ _ => rfl
    cases hc : chkOk cs stk vs (h.kills ks) with
    | false => have := hN N N (Nat.le_refl _) (Nat.le_refl _); rw [e0, hc] at this; cases this
    | true => exact ⟨rfl, e, s', ⟨N, fun L d hL hd => by have := hN L d hL hd; rw [e0, hc] at this; exact this⟩, hq⟩
  · rintro ⟨hc, hw⟩
    exact WR_0 hc hw
theorem WR_call {f : OF} {args : List OF} {cs : List (Nat × AF)} {k : Nat} {wr : Option Nat} {chk : List (Nat × AF)} {r : List IT} {stk vs : List AV} {h : Heap} {ds : Defs} {g : AV} {as : List AV}
    (hf : f stk vs = some g) (ha : mapF args stk vs = some as)
    (hc : WV F g as h.ent (callQ (fun v h' => h.next ≤ h'.low ∧ WR F cs k r [] (v :: stk) (putV vs wr v) (h'.setLow h.low) ds Q) (fun _ _ => False))) :
    WR F cs (k + 1) (⟨.call f args, none, wr, chk⟩ :: r) [] stk vs h ds Q := by
  obtain ⟨rt, h', ⟨N, hN⟩, hq⟩ := hc
  cases rt with
  | val v =>
    obtain ⟨hl, e, s', ⟨N', hN'⟩, hq⟩ := (show h.next ≤ h'.low ∧ WR F cs k r [] (v :: stk) (putV vs wr v) (h'.setLow h.low) ds Q from hq)
    refine ⟨e, s', ⟨max N N', fun L d hL hd => ?_⟩, hq⟩
    show ob (ob (f stk vs) fun g => ob (mapF args stk vs) fun as => atomC (F L d) h g as) _ = _
    rw [hf, ha]
    show ob (atomC (F L d) h g as) _ = _
    unfold atomC
    rw [show F L d g as { h with low := h.next } = some (.val v, h') from hN L d (by omega) (by omega)]
    show ob (bif_ (Nat.ble h.next h'.low) _ none) _ = _
    rw [Nat.ble_eq_true_of_le hl]
    exact hN' L d (by omega) (by omega)
  | pan v => exact hq.elim
end

/-! Calls. -/
section
variable {F : Nat → Nat → CallFn} {C : Ctx} {t : Mem}
/-- the machine with a table of what has been shown -/
def IsEv (C : Ctx) (t : Mem) (F : Nat → Nat → CallFn) : Prop := ∀ L d, F L (d + 1) = memT t (evCall C (F L d) L)
theorem isEv_evM (C : Ctx) (t : Mem) : IsEv C t (fun L d => evM C L t d) := fun _ _ => rfl

/-- how a function's body ends (without deferred calls) -/
def finQ (fi : FnI) (h0 : Heap) (R : Ret → Heap → Prop) : Ex → St → Prop := fun e s => s.ds = [] ∧ match e with
  | .normal | .ret => OW (mapO (resultA s.vs s.h) fi.res) (fun l => R (retV h0 s.h (tupV l)).1 (retV h0 s.h (tupV l)).2)
  | .panic v => R (.pan v) (s.h.lower h0.low)
  | _ => False
theorem WV_of {f : Nat} {fi : FnI} {first cap as vs : List AV} {h : Heap} {R : Ret → Heap → Prop} (hF : IsEv C t F) (hC : C.fn f = some fi) (hm : (first = [] ∧ cap = [] → memGet t f = []))
    (hv : initVs fi (catL first (catL as cap)) = some vs) (hb : W F fi.body ⟨vs, h.ent, []⟩ (finQ fi h R)) : WV F (.fn (.func f) first cap) as h R := by
  obtain ⟨e, s', ⟨N, hN⟩, hds, hq⟩ := hb
  have step : ∀ L d, N ≤ L → N + 1 ≤ d → F L d (.fn (.func f) first cap) as h = finish C (F L (d - 1)) L fi h e s' := by
    intro L d hL hd
    obtain ⟨d, rfl⟩ : ∃ m, d = m + 1 := ⟨d - 1, by omega⟩
    rw [hF]
    have h1 : evCall C (F L d) L (.fn (.func f) first cap) as h = finish C (F L d) L fi h e s' := by
      show callF C (F L d) L f (catL first (catL as cap)) h = _
      unfold callF
      rw [hC]
      show ob (initVs fi (catL first (catL as cap))) _ = _
      rw [hv]
      show ob (fi.body (F L d) L ⟨vs, h.ent, []⟩) _ = _
      rw [hN L d hL (by omega)]
      rfl
    show memT t (evCall C (F L d) L) (.fn (.func f) first cap) as h = _
    unfold memT
    cases first with
    | nil => cases cap with
      | nil =>
        show Option.rec (motive := fun _ => Option (Ret × Heap)) (evCall C (F L d) L (.fn (.func f) [] []) as h) (fun v => some (Ret.val v, h)) (memFind h as (memGet t f)) = _
        rw [hm ⟨rfl, rfl⟩]; exact h1
      | cons => exact h1
    | cons => exact h1
  have unw : ∀ L d p, unwindA C (F L d) L [] p s'.h = some (p, s'.h) := fun _ _ _ => rfl
  cases e with
  | normal =>
    obtain ⟨l, hl, hr⟩ := hq
    refine ⟨_, _, ⟨N + 1, fun L d hL hd => ?_⟩, hr⟩
    rw [step L d (by omega) hd]
    unfold finish
    rw [hds]
    show ob (mapO (resultA s'.vs s'.h) fi.res) _ = _
    rw [hl]; rfl
  | ret =>
    obtain ⟨l, hl, hr⟩ := hq
    refine ⟨_, _, ⟨N + 1, fun L d hL hd => ?_⟩, hr⟩
    rw [step L d (by omega) hd]
    unfold finish
    rw [hds]
    show ob (mapO (resultA s'.vs s'.h) fi.res) _ = _
    rw [hl]; rfl
  | panic v =>
    refine ⟨_, _, ⟨N + 1, fun L d hL hd => ?_⟩, hq⟩
    rw [step L d (by omega) hd]
    unfold finish
    rw [hds]
    rfl
  | exit i => exact hq.elim
  | goto i => exact hq.elim
/-- what stands in the table -/
theorem WV_mem {f : Nat} {as : List AV} {v : AV} {h : Heap} {R : Ret → Heap → Prop} (hF : IsEv C t F) (hm : memFind h as (memGet t f) = some v) (hr : R (.val v) h) : WV F (.fn (.func f) [] []) as h R := by
  refine ⟨_, _, ⟨1, fun L d hL hd => ?_⟩, hr⟩
  obtain ⟨d, rfl⟩ : ∃ m, d = m + 1 := ⟨d - 1, by omega⟩
  rw [hF]
  unfold memT
  show Option.rec (motive := fun _ => Option (Ret × Heap)) _ (fun v => some (Ret.val v, h)) (memFind h as (memGet t f)) = _
  rw [hm]
theorem setLow_ent {h : Heap} : h.ent.setLow h.low = h := rfl
theorem ent_get {h : Heap} {b : Nat} : h.ent.get b = h.get b := rfl
theorem ent_next {h : Heap} : h.ent.next = h.next := rfl
theorem ent_low {h : Heap} : h.ent.low = h.next := rfl
theorem ent_low_le {h : Heap} : h.next ≤ h.ent.low := Nat.le_refl _
theorem resVE {vs : List AV} {h : Heap} {i : Nat} : resultA vs h (.var i) = getL vs i := rfl
theorem mapO0 {α β : Type} {f : α → Option β} : mapO f [] = some [] := rfl
theorem mapOS {α β : Type} {f : α → Option β} {x : α} {l : List α} : mapO f (x :: l) = ob (f x) fun y => ob (mapO f l) fun ys => some (y :: ys) := rfl
/-- a result without references: the heap is as it was -/
theorem fin_out {fi : FnI} {h0 h : Heap} {R : Ret → Heap → Prop} {vs l : List AV} {v : AV} (hl : h0.next ≤ h.low) (hr : mapO (resultA vs h) fi.res = some l) (ht : tupV l = v) (hv : hasNoRef v = true) (hR : R (.val v) h0) : finQ fi h0 R .ret ⟨vs, h, []⟩ := by
  refine ⟨rfl, l, hr, ?_⟩
  show R (retV h0 h (tupV l)).1 (retV h0 h (tupV l)).2
  rw [ht]
  unfold retV
  rw [hv, Nat.ble_eq_true_of_le hl]
  exact hR
theorem fin_outN {fi : FnI} {h0 h : Heap} {R : Ret → Heap → Prop} {vs l : List AV} {v : AV} (hl : h0.next ≤ h.low) (hr : mapO (resultA vs h) fi.res = some l) (ht : tupV l = v) (hv : hasNoRef v = true) (hR : R (.val v) h0) : finQ fi h0 R .normal ⟨vs, h, []⟩ := fin_out hl hr ht hv hR
/-- a result, with references or without -/
theorem fin_ref {fi : FnI} {h0 h : Heap} {R : Ret → Heap → Prop} {vs l : List AV} {v : AV} (hr : mapO (resultA vs h) fi.res = some l) (ht : tupV l = v) (hR : R (.val v) (h.lower h0.low)) (hN : hasNoRef v = true → h0.next ≤ h.low → R (.val v) h0) : finQ fi h0 R .ret ⟨vs, h, []⟩ := by
  refine ⟨rfl, l, hr, ?_⟩
  show R (retV h0 h (tupV l)).1 (retV h0 h (tupV l)).2
  rw [ht]
  unfold retV
  cases hv : hasNoRef v with
  | false => exact hR
  | true =>
    cases hl : Nat.ble h0.next h.low with
    | false => exact hR
    | true => exact hN hv (Nat.le_of_ble_eq_true hl)
theorem fin_refN {fi : FnI} {h0 h : Heap} {R : Ret → Heap → Prop} {vs l : List AV} {v : AV} (hr : mapO (resultA vs h) fi.res = some l) (ht : tupV l = v) (hR : R (.val v) (h.lower h0.low)) (hN : hasNoRef v = true → h0.next ≤ h.low → R (.val v) h0) : finQ fi h0 R .normal ⟨vs, h, []⟩ := fin_ref hr ht hR hN
theorem retV_out {h0 h : Heap} {v : AV} (hl : h0.next ≤ h.low) (hv : hasNoRef v = true) : retV h0 h v = (.val v, h0) := by
  unfold retV
  rw [hv, Nat.ble_eq_true_of_le hl]
  rfl
end
end Hx

/- What the machine's operations come to. -/
namespace Hx
open Go

theorem oVarE {i : Nat} {stk vs : List AV} : oVar i stk vs = getL vs i := id rfl
theorem oStkE {i : Nat} {stk vs : List AV} : oStk i stk vs = getL stk i := id rfl
theorem oConE {v : AV} {stk vs : List AV} : oCon v stk vs = some v := id rfl
theorem getL0 {α : Type} {x : α} {l : List α} : getL (x :: l) 0 = some x := rfl
theorem getLS {α : Type} {x : α} {l : List α} {n : Nat} : getL (x :: l) (n + 1) = getL l n := rfl
theorem set10 {α : Type} {x y : α} {l : List α} : set1 (y :: l) 0 x = x :: l := rfl
theorem set1S {α : Type} {x y : α} {l : List α} {n : Nat} : set1 (y :: l) (n + 1) x = y :: set1 l n x := rfl
theorem putV0 {vs : List AV} {v : AV} : putV vs none v = vs := rfl
theorem putVS {vs : List AV} {i : Nat} {v : AV} : putV vs (some i) v = set1 vs i v := rfl
theorem mapF0 {stk vs : List AV} : mapF [] stk vs = some [] := rfl
theorem mapFS {x : OF} {l : List OF} {stk vs : List AV} : mapF (x :: l) stk vs = ob (x stk vs) fun y => ob (mapF l stk vs) fun ys => some (y :: ys) := id rfl
theorem killO0 {h : Heap} : h.killO none = h := id rfl
theorem killOS {h : Heap} {b : Nat} : h.killO (some b) = h.kill b := id rfl
theorem kills0 {h : Heap} : h.kills [] = h := rfl
theorem killsS {h : Heap} {b : Nat} {l : List Nat} : h.kills (b :: l) = (h.kill b).kills l := rfl
theorem guardT {b : Bool} : guardB true (.bool b) = some b := by cases b <;> rfl
theorem guardF {b : Bool} : guardB false (.bool b) = some (!b) := by cases b <;> rfl
theorem guardU {w : Bool} : guardB w undefA = some false := rfl
theorem kIE {k : IntKind} {n : Int} : kI k n = some (.int k n) := by unfold kI; rw [fI_eq]
theorem kBE {b : Bool} : kB b = some (.bool b) := by unfold kB; rw [fB_eq]
theorem chk0 {stk vs : List AV} {h : Heap} : chkOk [] stk vs h = true := rfl

theorem eqIE (a b : Int) : eqI a b = decide (a = b) := by
  cases a <;> cases b
  · rename_i a b
    by_cases h : a = b
    · subst h; simp [eqI]
    · have : ¬ (Int.ofNat a = Int.ofNat b) := fun e => h (Int.ofNat.inj e)
      simp only [eqI, this, decide_false]
      exact Bool.eq_false_iff.2 fun e => h (Nat.eq_of_beq_eq_true e)
  · simp [eqI]
  · simp [eqI]
  · rename_i a b
    by_cases h : a = b
    · subst h; simp [eqI]
    · have : ¬ (Int.negSucc a = Int.negSucc b) := fun e => h (Int.negSucc.inj e)
      simp only [eqI, this, decide_false]
      exact Bool.eq_false_iff.2 fun e => h (Nat.eq_of_beq_eq_true e)
theorem ltIE (a b : Int) : ltI a b = decide (a < b) := by
  cases a <;> cases b
  · rename_i a b
    simp only [ltI]
    by_cases h : a < b
    · rw [decide_eq_true (show Int.ofNat a < Int.ofNat b by simpa using h)]; exact Nat.ble_eq_true_of_le h
    · rw [decide_eq_false (show ¬ Int.ofNat a < Int.ofNat b by simpa using h)]
      exact Bool.eq_false_iff.2 fun e => h (Nat.le_of_ble_eq_true e)
  · rename_i a b
    simp only [ltI]
    rw [decide_eq_false (show ¬ Int.ofNat a < Int.negSucc b by simp only [Int.ofNat_eq_natCast]; omega)]
  · rename_i a b
    simp only [ltI]
    rw [decide_eq_true (show Int.negSucc a < Int.ofNat b by simp only [Int.ofNat_eq_natCast]; omega)]
  · rename_i a b
    simp only [ltI]
    by_cases h : b < a
    · rw [decide_eq_true (show Int.negSucc a < Int.negSucc b by omega)]; exact Nat.ble_eq_true_of_le h
    · rw [decide_eq_false (show ¬ Int.negSucc a < Int.negSucc b by omega)]
      exact Bool.eq_false_iff.2 fun e => h (Nat.le_of_ble_eq_true e)
theorem kEqE (k : IntKind) : kEq k k = true := by cases k <;> rfl

theorem wrap_i64 {n : Int} (h1 : -9223372036854775808 ≤ n) (h2 : n ≤ 9223372036854775807) : wrapF .i64 n = n := by
  cases n with
  | ofNat m =>
    have : Nat.ble m 9223372036854775807 = true := Nat.ble_eq_true_of_le (by simp only [Int.ofNat_eq_natCast] at h2; omega)
    show bif_ (Nat.ble m 9223372036854775807) _ _ = _
    rw [this]; rfl
  | negSucc m =>
    have : Nat.ble m 9223372036854775807 = true := Nat.ble_eq_true_of_le (by omega)
    show bif_ (true && Nat.ble m 9223372036854775807) _ _ = _
    rw [this]; rfl
theorem wrap_u64 {n : Int} (h1 : 0 ≤ n) (h2 : n ≤ 18446744073709551615) : wrapF .u64 n = n := by
  cases n with
  | ofNat m =>
    have : Nat.ble m 18446744073709551615 = true := Nat.ble_eq_true_of_le (by simp only [Int.ofNat_eq_natCast] at h2; omega)
    show bif_ (Nat.ble m 18446744073709551615) _ _ = _
    rw [this]; rfl
  | negSucc m => omega
theorem wrap_u8 {n : Int} (h1 : 0 ≤ n) (h2 : n ≤ 255) : wrapF .u8 n = n := by
  cases n with
  | ofNat m =>
    have : Nat.ble m 255 = true := Nat.ble_eq_true_of_le (by simp only [Int.ofNat_eq_natCast] at h2; omega)
    show bif_ (Nat.ble m 255) _ _ = _
    rw [this]; rfl
  | negSucc m => omega

section
variable {c : EqC} {k : IntKind} {a b : Int}
theorem bin_add : binop c .add (.int k a) (.int k b) = some (.int k (wrapF k (a + b))) := by
  show bif_ (kEq k k) (kI k (wrapF k (a + b))) none = _
  rw [kEqE, bifT, kIE]
theorem bin_sub : binop c .sub (.int k a) (.int k b) = some (.int k (wrapF k (a - b))) := by
  show bif_ (kEq k k) (kI k (wrapF k (a - b))) none = _
  rw [kEqE, bifT, kIE]
theorem bin_mul : binop c .mul (.int k a) (.int k b) = some (.int k (wrapF k (a * b))) := by
  show bif_ (kEq k k) (kI k (wrapF k (a * b))) none = _
  rw [kEqE, bifT, kIE]
theorem bin_quo (hb : b ≠ 0) : binop c .quo (.int k a) (.int k b) = some (.int k (wrapF k (a.tdiv b))) := by
  show bif_ (kEq k k) (bif_ (eqI b 0) none (kI k (wrapF k (a.tdiv b)))) none = _
  rw [kEqE, bifT, kIE, eqIE, decide_eq_false hb, bifF]
theorem bin_rem (hb : b ≠ 0) : binop c .rem (.int k a) (.int k b) = some (.int k (a.tmod b)) := by
  show bif_ (kEq k k) (bif_ (eqI b 0) none (kI k (a.tmod b))) none = _
  rw [kEqE, bifT, kIE, eqIE, decide_eq_false hb, bifF]
theorem bin_eql : binop c .eql (.int k a) (.int k b) = some (.bool (decide (a = b))) := by
  show bif_ (kEq k k) (kB (eqI a b)) none = _
  rw [kEqE, bifT, kBE, eqIE]
theorem bin_neq : binop c .neq (.int k a) (.int k b) = some (.bool (decide (a ≠ b))) := by
  show bif_ (kEq k k) (kB (!eqI a b)) none = _
  rw [kEqE, bifT, kBE, eqIE]
  simp
theorem bin_lss : binop c .lss (.int k a) (.int k b) = some (.bool (decide (a < b))) := by
  show bif_ (kEq k k) (kB (ltI a b)) none = _
  rw [kEqE, bifT, kBE, ltIE]
theorem not_lt_dec (a b : Int) : (!decide (a < b)) = decide (b ≤ a) := by
  rw [← decide_not]; exact decide_eq_decide.2 Int.not_lt
theorem bin_leq : binop c .leq (.int k a) (.int k b) = some (.bool (decide (a ≤ b))) := by
  show bif_ (kEq k k) (kB (!ltI b a)) none = _
  rw [kEqE, bifT, kBE, ltIE, not_lt_dec]
theorem bin_gtr : binop c .gtr (.int k a) (.int k b) = some (.bool (decide (a > b))) := by
  show bif_ (kEq k k) (kB (ltI b a)) none = _
  rw [kEqE, bifT, kBE, ltIE]
theorem bin_geq : binop c .geq (.int k a) (.int k b) = some (.bool (decide (a ≥ b))) := by
  show bif_ (kEq k k) (kB (!ltI a b)) none = _
  rw [kEqE, bifT, kBE, ltIE, not_lt_dec]
theorem bin_beql {x y : Bool} : binop .boo .eql (.bool x) (.bool y) = some (.bool (x == y)) := by
  show ob (some (x == y)) kB = _
  rw [obS, kBE]
theorem bin_bneq {x y : Bool} : binop .boo .neq (.bool x) (.bool y) = some (.bool (!(x == y))) := by
  show ob (some (x == y)) (fun b => kB (!b)) = _
  rw [obS, kBE]
theorem un_neg : unop .neg (.int k a) = some (.int k (wrapF k (0 - a))) := kIE
theorem un_not {x : Bool} : unop .not (.bool x) = some (.bool (!x)) := kBE
end
theorem natOfC {k : IntKind} {n : Nat} : natOf (.int k (n : Int)) = some n := id rfl
theorem natOf0 {k : IntKind} : natOf (.int k 0) = some 0 := id rfl
theorem natOf1 {k : IntKind} : natOf (.int k 1) = some 1 := id rfl
theorem natOfN {k : IntKind} {n : Int} (h : 0 ≤ n) : natOf (.int k n) = some n.toNat := by
  cases n with
  | ofNat m => rfl
  | negSucc m => omega
theorem bound0 {d : Nat} {stk vs : List AV} : boundA d none stk vs = some d := id rfl
theorem boundS {d : Nat} {x : OF} {stk vs : List AV} : boundA d (some x) stk vs = ob (x stk vs) natOf := id rfl
theorem conv_int {k k' : IntKind} {n : Int} : convA k (.int k' n) = some (.int k (wrapF k n)) := kIE
theorem extE {vs : List AV} {i : Nat} : extA (.tup vs) i = getL vs i := id rfl
theorem rOE {h : Heap} {v : AV} : rO h (some v) = some (v, h, none) := id rfl
theorem packF {v : AV} : pack false [v] = some v := id rfl
theorem packT {l : List AV} : pack true l = some (.agg l) := id rfl

/-! The operations themselves. -/
section
variable {stk vs : List AV} {h : Heap}
theorem aMvE {x : OF} : aMv x stk vs h = rO h (x stk vs) := id rfl
theorem aBinE {op : BinOp} {c : EqC} {x y : OF} : aBin op c x y stk vs h = ob (x stk vs) fun a => ob (y stk vs) fun b => rO h (binop c op a b) := id rfl
theorem aUnE {op : UnOp} {x : OF} : aUn op x stk vs h = ob (x stk vs) fun a => rO h (unop op a) := id rfl
theorem aConvE {k : IntKind} {x : OF} : aConv k x stk vs h = ob (x stk vs) fun a => rO h (convA k a) := id rfl
theorem aExtE {x : OF} {i : Nat} : aExt x i stk vs h = ob (x stk vs) fun v => rO h (extA v i) := id rfl
theorem aLensE {x : OF} : aLens x stk vs h = ob (x stk vs) fun v => rO h (lensA v) := id rfl
theorem aIxsE {sz : Nat} {x i : OF} : aIxs sz x i stk vs h = ob (x stk vs) fun v => ob (i stk vs) fun i => ob (natOf i) fun i => rO h (ixsA sz v i) := id rfl
theorem aIxaE {n sz : Nat} {x i : OF} : aIxa n sz x i stk vs h = ob (x stk vs) fun v => ob (i stk vs) fun i => ob (natOf i) fun i => rO h (ixaA n sz v i) := id rfl
theorem aLoadE {n : Nat} {g : Bool} {a : OF} : aLoad n g a stk vs h = ob (a stk vs) fun v => ob (loadN h n v) fun cs => rO h (pack g cs) := id rfl
theorem aFadE {off : Nat} {x : OF} : aFad off x stk vs h = ob (x stk vs) fun v => rO h (fadA off v) := id rfl
theorem aFldE {off n : Nat} {g : Bool} {x : OF} : aFld off n g x stk vs h = ob (x stk vs) fun v => rO h (fldA off n g v) := id rfl
theorem aAppE {e sz by_ : Nat} {s x : OF} : aApp e sz by_ s x stk vs h = ob (s stk vs) fun s => ob (x stk vs) fun x => appA h e sz by_ s x := id rfl
theorem aSlcE {e sz : Nat} {x : OF} {lo hi : Option OF} : aSlc e sz x lo hi stk vs h = ob (x stk vs) fun v => ob (lenA v) fun len => ob (boundA 0 lo stk vs) fun l => ob (boundA len hi stk vs) fun u => rO h (slcA e sz v l u len) := id rfl
theorem aMksE {e sz by_ : Nat} {z : List AV} {l c : OF} : aMks e sz by_ z l c stk vs h = ob (l stk vs) fun a => ob (c stk vs) fun b => mksA h e sz by_ z a b := id rfl
theorem aMkfE {f : Fn} {a c : List OF} : aMkf f a c stk vs h = ob (mapF a stk vs) fun x => ob (mapF c stk vs) fun y => some (.fn f x y, h, none) := id rfl
theorem aMmE {mx : Bool} {x : OF} {l : List OF} : aMm mx x l stk vs h = ob (x stk vs) fun x => ob (mapF l stk vs) fun l => rO h (mmA mx x l) := id rfl
noncomputable def pickF (a b : OF) (stk vs : List AV) (h : Heap) (t : AV) : AR := match t with
  | .bool t => rO h (bif_ t (a stk vs) (b stk vs))
  | _ => none
theorem aPickE {c a b : OF} : aPick c a b stk vs h = ob (c stk vs) (pickF a b stk vs h) := id rfl
theorem pickB {a b : OF} {t : Bool} : pickF a b stk vs h (.bool t) = rO h (bif_ t (a stk vs) (b stk vs)) := id rfl
theorem aNewE {cs : List AV} {e : Nat} : aNew cs e stk vs h = some (.ptr h.next 0, h.push (.row cs e), none) := id rfl
theorem aBoxE {e : Nat} {x : OF} : aBox e x stk vs h = ob (x stk vs) fun v => some (.ptr h.next 0, h.push (.row v.cells e), none) := id rfl
theorem aAggE {z : List AV} {p : Parts} : aAgg z p stk vs h = ob (fillParts stk vs p z) fun cs => some (.agg cs, h, none) := id rfl
theorem aBslE {e n : Nat} {z : List AV} {p : Parts} : aBsl e n z p stk vs h = ob (fillParts stk vs p (rep z n)) fun cs => some (.msl e h.next 0 n, h.push (.row cs e), none) := id rfl
theorem aChkE {x : OF} : aChk x stk vs h = ob (x stk vs) fun v => rO h (chkA v) := id rfl
theorem eStoreE {n : Nat} {a x : OF} : eStore n a x stk vs h = ob (a stk vs) fun a => ob (x stk vs) fun v => bif_ (Nat.beq (lenL v.cells) n) (ob (storeN h a v.cells) fun h' => some (undefA, h')) none := id rfl
theorem mm_min {k k' : IntKind} {a b : Int} : mmA false (.int k a) [.int k' b] = some (.int k (min a b)) := by
  show ob (some (AV.int k (bif_ (ltI b a) b a))) (fun v => some v) = _
  rw [obS, ltIE, bif_eq]
  congr 2
  by_cases h : b < a
  · simp [h]; omega
  · simp [h]; omega
theorem mm_max {k k' : IntKind} {a b : Int} : mmA true (.int k a) [.int k' b] = some (.int k (max a b)) := by
  show ob (some (AV.int k (bif_ (ltI a b) b a))) (fun v => some v) = _
  rw [obS, ltIE, bif_eq]
  congr 2
  by_cases h : a < b
  · simp [h]; omega
  · simp [h]; omega
end

/-! The heap. -/
section
variable {h : Heap} {b c : Nat} {x : Blk}
theorem low_if (b l : Nat) : bif_ (Nat.ble b l) b l = min b l := by
  rw [bif_eq]
  by_cases h : b ≤ l
  · rw [Nat.ble_eq_true_of_le h, if_pos rfl]; omega
  · rw [show Nat.ble b l = false from Bool.eq_false_iff.2 fun e => h (Nat.le_of_ble_eq_true e)]; simp; omega
theorem alterE (h : Heap) (b : Nat) (x : Option Blk) : h.alter b x = { t := h.t.set b x, next := h.next, low := min b h.low } := by
  unfold Heap.alter; rw [fN_eq, low_if]
theorem pushE (h : Heap) (x : Blk) : h.push x = { t := h.t.set h.next (some x), next := h.next + 1, low := h.low } := by
  unfold Heap.push; rw [fN_eq]
theorem get_put : (h.put b x).get c = if c = b then some x else h.get c := by
  unfold Heap.put; rw [alterE]; exact Tr.get_set _ _ _ _
theorem get_kill : (h.kill b).get c = if c = b then none else h.get c := by
  unfold Heap.kill; rw [alterE]; exact Tr.get_set _ _ _ _
theorem get_push : (h.push x).get c = if c = h.next then some x else h.get c := by
  rw [pushE]; exact Tr.get_set _ _ _ _
theorem next_put : (h.put b x).next = h.next := by unfold Heap.put; rw [alterE]
theorem next_kill : (h.kill b).next = h.next := by unfold Heap.kill; rw [alterE]
theorem next_push : (h.push x).next = h.next + 1 := by rw [pushE]
theorem low_put : (h.put b x).low = min b h.low := by unfold Heap.put; rw [alterE]
theorem low_kill : (h.kill b).low = min b h.low := by unfold Heap.kill; rw [alterE]
theorem low_push : (h.push x).low = h.low := by rw [pushE]
theorem lowerE (h : Heap) (l : Nat) : h.lower l = { t := h.t, next := h.next, low := min l h.low } := by
  unfold Heap.lower; rw [fN_eq, low_if]
end

/-! What is put together. -/
section
variable {stk vs : List AV} {h : Heap}
theorem fill0 {cs : List AV} : fillParts stk vs [] cs = some cs := id rfl
theorem fillS {p : (Nat × Nat) × OF} {ps : Parts} {cs : List AV} : fillParts stk vs (p :: ps) cs = ob (p.2 stk vs) fun v => bif_ (Nat.beq (lenL v.cells) p.1.2) (ob (setL p.1.1 v.cells cs) (fillParts stk vs ps)) none := id rfl
theorem setL0 {α : Type} {xs l : List α} : setL 0 xs l = overL xs l := id rfl
theorem setLS {α : Type} {xs r : List α} {y : α} {n : Nat} : setL (n + 1) xs (y :: r) = ob (setL n xs r) fun t => some (y :: t) := id rfl
theorem over0 {α : Type} {l : List α} : overL [] l = some l := id rfl
theorem overS {α : Type} {xs r : List α} {x y : α} : overL (x :: xs) (y :: r) = ob (overL xs r) fun t => some (x :: t) := id rfl
theorem rep0 {α : Type} {l : List α} : rep l 0 = [] := id rfl
theorem repS {α : Type} {l : List α} {n : Nat} : rep l (n + 1) = catL l (rep l n) := id rfl
theorem cat0 {α : Type} {r : List α} : catL [] r = r := id rfl
theorem catS {α : Type} {x : α} {l r : List α} : catL (x :: l) r = x :: catL l r := id rfl
theorem len0 {α : Type} : lenL ([] : List α) = 0 := id rfl
theorem lenS {α : Type} {x : α} {l : List α} : lenL (x :: l) = lenL l + 1 := id rfl
theorem beqR {n : Nat} : Nat.beq n n = true := Nat.beq_refl n
theorem cells_agg {l : List AV} : (AV.agg l).cells = l := id rfl
theorem cells_bool {b : Bool} : (AV.bool b).cells = [.bool b] := id rfl
theorem cells_msl {e b o n : Nat} : (AV.msl e b o n).cells = [.msl e b o n] := id rfl
theorem cells_isl {l : List AV} {n : Nat} : (AV.isl l n).cells = [.isl l n] := id rfl
theorem cells_nils : AV.nils.cells = [.nils] := id rfl
theorem cells_ptr {b o : Nat} : (AV.ptr b o).cells = [.ptr b o] := id rfl
theorem cells_fn {f : Fn} {a c : List AV} : (AV.fn f a c).cells = [.fn f a c] := id rfl
theorem cells_mp {b : Nat} : (AV.mp b).cells = [.mp b] := id rfl
theorem cells_nilf : AV.nilf.cells = [.nilf] := id rfl
/-- make -/
theorem mksE {e sz by_ n : Nat} {z : List AV} {k : IntKind} (hn : n * by_ ≤ 1099511627776) (hn' : n ≤ 1099511627776) (hz : 1 ≤ sz) : mksA h e sz by_ z (.int k (n : Int)) (.int k (n : Int)) = some (.msl e h.next 0 n, h.push (.row (List.replicate n z).flatten e), none) := by
  show bif_ (Nat.ble n n && roomy n by_ && Nat.ble 1 sz) (fN n fun n => some (AV.msl e h.next 0 n, h.push (.row (rep z n) e), none)) none = _
  rw [Nat.ble_eq_true_of_le (Nat.le_refl n), Nat.ble_eq_true_of_le hz, show roomy n by_ = true by unfold roomy; rw [Nat.ble_eq_true_of_le hn, Nat.ble_eq_true_of_le hn']; rfl]
  simp only [Bool.and_true, bifT]
  rw [fN_eq, rep_eq]
theorem roomy_t {n by_ : Nat} (hn : n * by_ ≤ 1099511627776) (hn' : n ≤ 1099511627776) : roomy n by_ = true := by
  unfold roomy; rw [Nat.ble_eq_true_of_le hn, Nat.ble_eq_true_of_le hn']; rfl
/-- append to nothing -/
theorem app_nils {e sz by_ n : Nat} {x : AV} {new : List AV} (hl : lenA x = some n) (hc : sliceCells h sz n x = some new) (hn : 1 ≤ n) (hr : n * by_ ≤ 1099511627776) (hr' : n ≤ 1099511627776) :
    appA h e sz by_ .nils x = some (.msl e h.next 0 n, h.push (.row new e), none) := by
  unfold appA
  rw [hl, obS, hc, obS]
  show bif_ (Nat.beq n 0) _ (bif_ (roomy n by_) (fN n _) none) = _
  rw [show Nat.beq n 0 = false by cases n with | zero => omega | succ n => rfl, bifF, roomy_t hr hr', bifT, fN_eq]
theorem app_msl {e sz by_ n b o len : Nat} {x : AV} {row new : List AV} (hg : h.get b = some (.row row e)) (hl : lenA x = some n) (hc : sliceCells h sz n x = some new) (hn : 1 ≤ n) (hz : 1 ≤ sz) (hf : flat new = true) (ho : o + len * sz = row.length) (hr : (len + n) * by_ ≤ 1099511627776) (hr' : len + n ≤ 1099511627776) :
    appA h e sz by_ (.msl e b o len) x = some (.msl e h.next 0 (len + n), h.push (.row (row.drop o ++ new) e), some b) := by
  unfold appA
  rw [hl, obS, hc, obS]
  show ob (getRow h b) _ = _
  unfold getRow
  rw [hg]
  show bif_ (Nat.beq e e && Nat.beq e e && roomy (len + n) by_ && Nat.beq (o + len * sz) (lenL row) && Nat.ble 1 n && Nat.ble 1 sz && flat new) (fN (len + n) _) none = _
  rw [Nat.beq_refl, roomy_t hr hr', lenL_eq, ho, Nat.beq_refl, Nat.ble_eq_true_of_le hn, Nat.ble_eq_true_of_le hz, hf]
  simp only [Bool.and_true, bifT]
  rw [fN_eq, dropL_eq, catL_eq]
end
theorem flat_ints {k : IntKind} : ∀ l : List Int, flat (l.map (.int k ·)) = true
  | [] => rfl
  | _x :: l => flat_ints l
theorem mul_bd {a b A B : Int} (h1 : -A ≤ a) (h2 : a ≤ A) (h3 : -B ≤ b) (h4 : b ≤ B) : -(A * B) ≤ a * b ∧ a * b ≤ A * B := by
  have ha : a.natAbs ≤ A.natAbs := by omega
  have hb : b.natAbs ≤ B.natAbs := by omega
  have h := Nat.mul_le_mul ha hb
  rw [← Int.natAbs_mul, ← Int.natAbs_mul] at h
  have h0 : 0 ≤ A * B := Int.mul_nonneg (by omega) (by omega)
  omega

section
variable {c : EqC} {k k' : IntKind} {a b : Int}
theorem bits_u64 (op : BinOp) (f : Nat → Nat → Nat) (hop : isShift op = false) (hop' : ∀ x y, intOp op .u64 x y = ob (bitsF op .u64 x y) fun n => kI .u64 n) (hf : ∀ x y, bitsN op x y = some (.ofNat (f x y))) (h1 : 0 ≤ a) (h2 : a ≤ 18446744073709551615) (h3 : 0 ≤ b) (h4 : b ≤ 18446744073709551615) : binop c op (.int .u64 a) (.int .u64 b) = some (.int .u64 ((f a.toNat b.toNat : Nat) : Int)) := by
  obtain ⟨x, rfl⟩ := Int.eq_ofNat_of_zero_le h1
  obtain ⟨y, rfl⟩ := Int.eq_ofNat_of_zero_le h3
  show bif_ (isShift op) _ (bif_ (kEq .u64 .u64) (intOp op .u64 (x : Int) (y : Int)) none) = _
  rw [hop, bifF, kEqE, bifT, hop']
  show ob (bif_ (Nat.ble x 18446744073709551615 && Nat.ble y 18446744073709551615) (bitsN op x y) _) _ = _
  rw [Nat.ble_eq_true_of_le (by omega), Nat.ble_eq_true_of_le (by omega)]
  show ob (bitsN op x y) _ = _
  rw [hf, obS, kIE]
  simp
theorem bin_and (h1 : 0 ≤ a) (h2 : a ≤ 18446744073709551615) (h3 : 0 ≤ b) (h4 : b ≤ 18446744073709551615) : binop c .and (.int .u64 a) (.int .u64 b) = some (.int .u64 ((a.toNat &&& b.toNat : Nat) : Int)) :=
  bits_u64 .and (· &&& ·) rfl (fun _ _ => rfl) (fun _ _ => rfl) h1 h2 h3 h4
theorem bin_or (h1 : 0 ≤ a) (h2 : a ≤ 18446744073709551615) (h3 : 0 ≤ b) (h4 : b ≤ 18446744073709551615) : binop c .or (.int .u64 a) (.int .u64 b) = some (.int .u64 ((a.toNat ||| b.toNat : Nat) : Int)) :=
  bits_u64 .or (· ||| ·) rfl (fun _ _ => rfl) (fun _ _ => rfl) h1 h2 h3 h4
theorem bin_xor (h1 : 0 ≤ a) (h2 : a ≤ 18446744073709551615) (h3 : 0 ≤ b) (h4 : b ≤ 18446744073709551615) : binop c .xor (.int .u64 a) (.int .u64 b) = some (.int .u64 ((a.toNat ^^^ b.toNat : Nat) : Int)) :=
  bits_u64 .xor (· ^^^ ·) rfl (fun _ _ => rfl) (fun _ _ => rfl) h1 h2 h3 h4
theorem bin_andNot (h1 : 0 ≤ a) (h2 : a ≤ 18446744073709551615) (h3 : 0 ≤ b) (h4 : b ≤ 18446744073709551615) : binop c .andNot (.int .u64 a) (.int .u64 b) = some (.int .u64 ((a.toNat ^^^ (a.toNat &&& b.toNat) : Nat) : Int)) :=
  bits_u64 .andNot (fun x y => x ^^^ (x &&& y)) rfl (fun _ _ => rfl) (fun _ _ => rfl) h1 h2 h3 h4
theorem bin_shr (h1 : 0 ≤ a) (h3 : 0 ≤ b) : binop c .shr (.int k a) (.int k' b) = some (.int k ((a.toNat / 2 ^ (min b.toNat k.bits) : Nat) : Int)) := by
  obtain ⟨x, rfl⟩ := Int.eq_ofNat_of_zero_le h1
  obtain ⟨y, rfl⟩ := Int.eq_ofNat_of_zero_le h3
  show kI k (.ofNat (x / 2 ^ (Nat.min y k.bits))) = _
  rw [kIE]; simp
theorem bin_shl (h1 : 0 ≤ a) (h3 : 0 ≤ b) : binop c .shl (.int k a) (.int k' b) = some (.int k (wrapF k ((a.toNat * 2 ^ (min b.toNat k.bits) : Nat) : Int))) := by
  obtain ⟨x, rfl⟩ := Int.eq_ofNat_of_zero_le h1
  obtain ⟨y, rfl⟩ := Int.eq_ofNat_of_zero_le h3
  show kI k (wrapF k (.ofNat (x * 2 ^ (Nat.min y k.bits)))) = _
  rw [kIE]; simp
end

theorem bin_shr64 {c : EqC} {k' : IntKind} {a b : Int} (h1 : 0 ≤ a) (h3 : 0 ≤ b) (h4 : b ≤ 64) : binop c .shr (.int .u64 a) (.int k' b) = some (.int .u64 ((a.toNat / 2 ^ b.toNat : Nat) : Int)) := by
  rw [bin_shr h1 h3, Nat.min_eq_left (show b.toNat ≤ IntKind.u64.bits by show b.toNat ≤ 64; omega)]
theorem bin_shl64 {c : EqC} {k' : IntKind} {a b : Int} (h1 : 0 ≤ a) (h3 : 0 ≤ b) (h4 : b ≤ 64) : binop c .shl (.int .u64 a) (.int k' b) = some (.int .u64 (wrapF .u64 ((a.toNat * 2 ^ b.toNat : Nat) : Int))) := by
  rw [bin_shl h1 h3, Nat.min_eq_left (show b.toNat ≤ IntKind.u64.bits by show b.toNat ≤ 64; omega)]
theorem and_mask32 {x : Nat} (h : x < 4294967296) : x &&& 4294967295 = x := by
  rw [show 4294967295 = 2 ^ 32 - 1 from rfl, Nat.and_two_pow_sub_one_eq_mod]; omega
theorem aIxcE {x i : OF} {stk vs : List AV} {h : Heap} : aIxc x i stk vs h = ob (x stk vs) fun v => ob (i stk vs) fun i => ob (natOf i) fun i => rO h (ixcA v i) := id rfl
theorem ixc_str {s : ByteArray} {i : Nat} (h : i < s.data.size) : ixcA (.str s) i = some (.int .u8 ((s.data[i].toNat : Nat) : Int)) := by
  show ob (s.data[i]?) (fun b => kI .u8 (.ofNat b.toNat)) = _
  rw [Array.getElem?_eq_getElem h, obS, kIE]; rfl
theorem OW_ixc {s : ByteArray} {i : Nat} {h : Heap} {K : AV × Heap × Option Nat → Prop} (hi : i < s.data.size) (hk : ∀ c : Nat, c ≤ 255 → K (.int .u8 (c : Int), h, none)) : OW (rO h (ixcA (.str s) i)) K := by
  rw [ixc_str hi]
  exact ⟨_, rfl, hk _ (by have := s.data[i].toNat_lt; omega)⟩
end Hx

/- Lists in memory. -/
namespace Hx
open Go

/-- a slice of n elements (of sz cells each, of type e) reads as these cells -/
def RdS (h : Heap) (e sz n : Nat) (v : AV) (cs : List AV) : Prop :=
  match v with
  | .nils | .emp => n = 0 ∧ cs = []
  | .msl e' b o m => e' = e ∧ m = n ∧ b < h.next ∧ ∃ row t, h.get b = some (.row row t) ∧ cut row o (n * sz) = some cs
  | .isl l m => m = n ∧ cut l 0 (n * sz) = some cs
  | _ => False
/-- a place reads as these cells (and what may lie behind them) -/
def RdP (h : Heap) (p : AV) (cs : List AV) : Prop :=
  match p with
  | .ptr b o => b < h.next ∧ ∃ row t, h.get b = some (.row row t) ∧ o + cs.length ≤ row.length ∧ (row.drop o).take cs.length = cs
  | .iptr l o => o + cs.length ≤ l.length ∧ (l.drop o).take cs.length = cs
  | _ => False

/-- what was there is there -/
structure Ext (h h' : Heap) : Prop where
  next : h.next ≤ h'.next
  get : ∀ b, b < h.next → h'.get b = h.get b
theorem Ext.refl (h : Heap) : Ext h h := ⟨Nat.le_refl _, fun _ _ => rfl⟩
theorem Ext.trans {a b c : Heap} (h : Ext a b) (h' : Ext b c) : Ext a c := ⟨Nat.le_trans h.next h'.next, fun i hi => by rw [h'.get i (Nat.lt_of_lt_of_le hi h.next), h.get i hi]⟩
theorem Ext.push {h h' : Heap} {x : Blk} (he : Ext h h') : Ext h (h'.push x) := ⟨by rw [next_push]; have := he.next; omega, fun b hb => by rw [get_push, if_neg (by have := he.next; omega), he.get b hb]⟩
theorem Ext.put {h h' : Heap} {b : Nat} {x : Blk} (he : Ext h h') (hb : h.next ≤ b) : Ext h (h'.put b x) := ⟨by rw [next_put]; exact he.next, fun c hc => by rw [get_put, if_neg (by omega), he.get c hc]⟩
theorem Ext.kill {h h' : Heap} {b : Nat} (he : Ext h h') (hb : h.next ≤ b) : Ext h (h'.kill b) := ⟨by rw [next_kill]; exact he.next, fun c hc => by rw [get_kill, if_neg (by omega), he.get c hc]⟩
theorem Ext.low {h h' : Heap} {l : Nat} (he : Ext h h') : Ext h { h' with low := l } := ⟨he.next, he.get⟩
theorem Ext.low' {h h' : Heap} {l : Nat} (he : Ext h h') : Ext { h with low := l } h' := ⟨he.next, he.get⟩

theorem Ext.ent (h : Heap) : Ext h h.ent := ⟨Nat.le_refl _, fun _ _ => rfl⟩
theorem Ext.ent' {h h' : Heap} (he : Ext h.ent h') : Ext h h' := ⟨he.next, he.get⟩

theorem cut_len {α : Type} {l cs : List α} {o n : Nat} (h : cut l o n = some cs) : cs.length = n ∧ o + n ≤ l.length ∨ n = 0 ∧ cs = [] := by
  rw [cut_eq] at h
  split at h
  · rename_i h1
    cases h
    rw [List.length_take, List.length_drop]
    by_cases h2 : n = 0
    · right; subst h2; simp
    · left; omega
  · cases h
theorem cut_cs {α : Type} {l cs : List α} {o n : Nat} (h : cut l o n = some cs) : cs = (l.drop o).take n ∧ n ≤ l.length - o := by
  rw [cut_eq] at h
  split at h
  · rename_i h1
    cases h
    exact ⟨rfl, h1⟩
  · cases h
theorem cut_mk {α : Type} {l : List α} {o n : Nat} (h : n ≤ l.length - o) : cut l o n = some ((l.drop o).take n) := by
  rw [cut_eq, if_pos h]

section
variable {h h' : Heap} {e sz n : Nat} {v p : AV} {cs : List AV}
theorem RdS.ext (hr : RdS h e sz n v cs) (he : Ext h h') : RdS h' e sz n v cs := by
  cases v <;> simp only [RdS] at hr ⊢
  · exact hr
  · exact hr
  · obtain ⟨h1, h2, h3, row, t, h4, h5⟩ := hr
    exact ⟨h1, h2, Nat.lt_of_lt_of_le h3 he.next, row, t, by rw [he.get _ h3]; exact h4, h5⟩
  · exact hr
theorem RdP.ext (hr : RdP h p cs) (he : Ext h h') : RdP h' p cs := by
  cases p <;> simp only [RdP] at hr ⊢
  · obtain ⟨h3, row, t, h4, h5⟩ := hr
    exact ⟨Nat.lt_of_lt_of_le h3 he.next, row, t, by rw [he.get _ h3]; exact h4, h5⟩
  · exact hr
theorem RdS.len (hr : RdS h e sz n v cs) : cs.length = n * sz := by
  cases v <;> simp only [RdS] at hr
  · rw [hr.1, hr.2]; simp
  · rw [hr.1, hr.2]; simp
  · obtain ⟨h1, h2, h3, row, t, h4, h5⟩ := hr
    rcases cut_len h5 with h6 | h6
    · exact h6.1
    · rw [h6.2, h6.1]; rfl
  · rcases cut_len hr.2 with h6 | h6
    · exact h6.1
    · rw [h6.2, h6.1]; rfl
theorem RdS.lenA (hr : RdS h e sz n v cs) : lenA v = some n := by
  cases v <;> simp only [RdS] at hr
  · rw [hr.1]; rfl
  · rw [hr.1]; rfl
  · obtain ⟨h1, h2, _⟩ := hr
    subst h2; rfl
  · obtain ⟨h2, _⟩ := hr
    subst h2; rfl
theorem RdS.lens (hr : RdS h e sz n v cs) : lensA v = some (.int .i64 (n : Int)) := by
  unfold lensA; rw [hr.lenA, obS, fN_eq]; rfl
theorem RdS.cells (hr : RdS h e sz n v cs) : sliceCells h sz n v = some cs := by
  cases v <;> simp only [RdS] at hr
  · rw [hr.1, hr.2]; rfl
  · rw [hr.1, hr.2]; rfl
  · obtain ⟨h1, h2, h3, row, t, h4, h5⟩ := hr
    subst h2
    show bif_ (Nat.ble _ _) (ob (getRow h _) fun r => cut r.1 _ _) none = _
    rw [Nat.ble_eq_true_of_le (Nat.le_refl _), bifT]
    unfold getRow
    rw [h4]; exact h5
  · obtain ⟨h2, h5⟩ := hr
    subst h2
    show bif_ (Nat.ble _ _) (cut _ 0 _) none = _
    rw [Nat.ble_eq_true_of_le (Nat.le_refl _), bifT]
    exact h5
/-- the place of an element -/
theorem RdS.ixs (hr : RdS h e sz n v cs) (hz : 0 < sz) {i : Nat} (hi : i < n) : ∃ p, ixsA sz v i = some p ∧ RdP h p ((cs.drop (i * sz)).take sz) := by
  have hle : i * sz + sz ≤ n * sz := by rw [← Nat.succ_mul]; exact Nat.mul_le_mul_right _ hi
  cases v <;> simp only [RdS] at hr
  · omega
  · omega
  · rename_i e' b o m
    obtain ⟨h1, h2, h3, row, t, h4, h5⟩ := hr
    subst h2
    obtain ⟨h6, h7⟩ := cut_cs h5
    refine ⟨.ptr b (o + i * sz), ?_, ?_⟩
    · show bif_ (Nat.ble _ _) (fN _ fun o => some (AV.ptr _ o)) none = _
      rw [Nat.ble_eq_true_of_le hi, bifT, fN_eq]
    · refine ⟨h3, row, t, h4, ?_⟩
      rw [h6]
      simp only [List.length_take, List.length_drop, List.drop_take, List.take_take, List.drop_drop]
      constructor
      · omega
      · congr 1; omega
  · rename_i cs' m
    obtain ⟨h2, h5⟩ := hr
    subst h2
    obtain ⟨h6, h7⟩ := cut_cs h5
    refine ⟨.iptr cs' (i * sz), ?_, ?_⟩
    · show bif_ (Nat.ble _ _) (fN _ fun o => some (AV.iptr _ o)) none = _
      rw [Nat.ble_eq_true_of_le hi, bifT, fN_eq]
    · show _ ∧ _
      rw [h6]
      simp only [List.length_take, List.length_drop, List.drop_take, List.take_take, List.drop_drop]
      constructor
      · omega
      · simp only [Nat.zero_add]; congr 1; omega
theorem RdP.load (hr : RdP h p cs) : loadN h cs.length p = some cs := by
  cases p <;> simp only [RdP] at hr
  · obtain ⟨h3, row, t, h4, h5, h6⟩ := hr
    show ob (getRow h _) (fun r => cut r.1 _ _) = _
    unfold getRow
    rw [h4]
    show cut row _ _ = _
    rw [cut_mk (by omega), h6]
  · obtain ⟨h5, h6⟩ := hr
    show cut _ _ _ = _
    rw [cut_mk (by omega), h6]
theorem RdP.loadN (hr : RdP h p cs) (hn : cs.length = n) : loadN h n p = some cs := by subst hn; exact hr.load
theorem RdP.fad (hr : RdP h p cs) {off k : Nat} (ho : off + k ≤ cs.length) : ∃ q, fadA off p = some q ∧ RdP h q ((cs.drop off).take k) := by
  cases p <;> simp only [RdP] at hr
  · rename_i b o
    obtain ⟨h3, row, t, h4, h5, h6⟩ := hr
    refine ⟨.ptr b (o + off), by show fN _ (fun o => some (AV.ptr _ o)) = _; rw [fN_eq], h3, row, t, h4, ?_⟩
    generalize cs.length = m at *
    subst h6
    simp only [List.length_take, List.length_drop, List.drop_take, List.take_take, List.drop_drop]
    exact ⟨by omega, by congr 1; omega⟩
  · rename_i l o
    obtain ⟨h5, h6⟩ := hr
    refine ⟨.iptr l (o + off), by show fN _ (fun o => some (AV.iptr _ o)) = _; rw [fN_eq], ?_⟩
    show _ ∧ _
    generalize cs.length = m at *
    subst h6
    simp only [List.length_take, List.length_drop, List.drop_take, List.take_take, List.drop_drop]
    exact ⟨by omega, by congr 1; omega⟩
/-- a part of a slice -/
theorem RdS.slc (hr : RdS h e sz n v cs) {l u : Nat} (hl : l ≤ u) (hu : u ≤ n) : ∃ w, slcA e sz v l u n = some w ∧ RdS h e sz (u - l) w ((cs.drop (l * sz)).take ((u - l) * sz)) := by
  have e1 : bif_ (Nat.ble l u && Nat.ble u n) = fun (x y : Option AV) => x := by rw [Nat.ble_eq_true_of_le hl, Nat.ble_eq_true_of_le hu]; rfl
  have hle : l * sz + (u - l) * sz ≤ n * sz := by rw [← Nat.add_mul]; exact Nat.mul_le_mul_right _ (by omega)
  unfold slcA
  rw [e1]
  cases v <;> simp only [RdS] at hr
  · exact ⟨_, rfl, by omega, by rw [hr.2]; simp⟩
  · exact ⟨_, rfl, by omega, by rw [hr.2]; simp⟩
  · rename_i e' b o m
    obtain ⟨h1, h2, h3, row, t, h4, h5⟩ := hr
    subst h1 h2
    obtain ⟨h6, h7⟩ := cut_cs h5
    refine ⟨.msl e' b (o + l * sz) (u - l), by dsimp only; rw [fN_eq, fN_eq, show Nat.beq _ _ = true from Nat.beq_refl _, bifT], rfl, rfl, h3, row, t, h4, ?_⟩
    rw [cut_mk (by omega), h6]
    simp only [List.drop_take, List.take_take, List.drop_drop]
    congr 2; omega
  · rename_i l' m
    obtain ⟨h2, h5⟩ := hr
    subst h2
    obtain ⟨h6, h7⟩ := cut_cs h5
    refine ⟨.isl ((l'.drop (l * sz)).take ((u - l) * sz)) (u - l), by dsimp only; rw [cut_mk (by omega), obS, fN_eq], rfl, ?_⟩
    rw [cut_mk (by simp only [List.length_take, List.length_drop]; omega), h6]
    simp only [List.drop_take, List.take_take, List.drop_drop, List.drop_zero]
    congr 2; omega
end

/-! Lists of integers. -/
def Ints (k : IntKind) (h : Heap) (e : Nat) (v : AV) (l : List Int) : Prop := RdS h e 1 l.length v (l.map (.int k ·))
section
variable {k : IntKind} {h h' : Heap} {e n : Nat} {v p : AV} {l : List Int}
theorem Ints.ext (hr : Ints k h e v l) (he : Ext h h') : Ints k h' e v l := RdS.ext hr he
theorem Ints.lens (hr : Ints k h e v l) : lensA v = some (.int .i64 (l.length : Int)) := RdS.lens hr
/-- reading an element -/
theorem Ints.at (hr : Ints k h e v l) {i : Nat} (hi : i < l.length) : ∃ p, ixsA 1 v i = some p ∧ Hx.loadN h 1 p = some [.int k l[i]] := by
  obtain ⟨p, h1, h2⟩ := RdS.ixs hr (Nat.zero_lt_one) hi
  refine ⟨p, h1, ?_⟩
  have : ((l.map (AV.int k ·)).drop (i * 1)).take 1 = [.int k l[i]] := by
    rw [Nat.mul_one, List.drop_eq_getElem_cons (by simpa using hi)]
    simp
  rw [this] at h2
  exact h2.load
theorem Ints.slc (hr : Ints k h e v l) {a u : Nat} (hl : a ≤ u) (hu : u ≤ l.length) : ∃ w, slcA e 1 v a u l.length = some w ∧ Ints k h e w ((l.drop a).take (u - a)) := by
  obtain ⟨w, h1, h2⟩ := RdS.slc hr hl hu
  refine ⟨w, h1, ?_⟩
  unfold Ints
  rw [List.map_take, List.map_drop, List.length_take, List.length_drop, Nat.min_eq_left (by omega)]
  simpa using h2
end

/-! Lists that may be written. -/
/-- the block b holds these integers, and nothing else -/
def Own (k : IntKind) (h : Heap) (e b : Nat) (l : List Int) : Prop := b < h.next ∧ h.get b = some (.row (l.map (.int k ·)) e)
section
variable {k : IntKind} {h h' : Heap} {e b n : Nat} {l : List Int}
theorem Own.ints (ho : Own k h e b l) : Ints k h e (.msl e b 0 l.length) l := ⟨rfl, rfl, ho.1, _, _, ho.2, by rw [Nat.mul_one, cut_mk (by simp), List.drop_zero, List.take_of_length_le (by simp)]⟩
theorem Own.lower {l' : Nat} (ho : Own k h e b l) : Own k (h.lower l') e b l := by rw [lowerE]; exact ho
theorem Own.ext (ho : Own k h e b l) (he : Ext h h') : Own k h' e b l := ⟨Nat.lt_of_lt_of_le ho.1 he.next, by rw [he.get b ho.1]; exact ho.2⟩
theorem Own.load (ho : Own k h e b l) {i : Nat} (hi : i < l.length) : loadN h 1 (.ptr b i) = some [.int k l[i]] := by
  show ob (getRow h b) (fun r => cut r.1 i 1) = _
  unfold getRow
  rw [ho.2]
  show cut _ i 1 = _
  rw [cut_mk (by simp; omega), List.drop_eq_getElem_cons (by simpa using hi)]
  simp
theorem Own.store (ho : Own k h e b l) {i : Nat} (hi : i < l.length) (x : Int) : storeN h (.ptr b i) [.int k x] = some (h.put b (.row ((l.set i x).map (.int k ·)) e)) := by
  show bif_ (flat [AV.int k x]) (ob (getRow h b) fun r => ob (setL i [AV.int k x] r.1) fun cs => some (h.put b (.row cs r.2))) none = _
  rw [show flat [AV.int k x] = true from rfl, bifT]
  unfold getRow
  rw [ho.2]
  show ob (setL i [AV.int k x] _) _ = _
  rw [setL_eq, if_pos (by simp; omega), obS]
  congr 3
  rw [List.map_set, List.set_eq_take_append_cons_drop, if_pos (by simpa using hi)]
  simp
theorem Own.put (ho : Own k h e b l) (l' : List Int) : Own k (h.put b (.row (l'.map (.int k ·)) e)) e b l' := ⟨by rw [next_put]; exact ho.1, by rw [get_put, if_pos rfl]⟩
theorem Own.putO {b' : Nat} {x : Blk} (ho : Own k h e b l) (hb : b ≠ b') : Own k (h.put b' x) e b l := ⟨by rw [next_put]; exact ho.1, by rw [get_put, if_neg hb]; exact ho.2⟩
theorem Own.pushO {x : Blk} (ho : Own k h e b l) : Own k (h.push x) e b l := ⟨by rw [next_push]; have := ho.1; omega, by rw [get_push, if_neg (by have := ho.1; omega)]; exact ho.2⟩
theorem Own.killO {b' : Nat} (ho : Own k h e b l) (hb : b ≠ b') : Own k (h.kill b') e b l := ⟨by rw [next_kill]; exact ho.1, by rw [get_kill, if_neg hb]; exact ho.2⟩
theorem Own.mk (l : List Int) : Own k (h.push (.row (l.map (.int k ·)) e)) e h.next l := ⟨by rw [next_push]; omega, by rw [get_push, if_pos rfl]⟩
end
theorem ixs_msl {e b n i : Nat} (hi : i < n) : ixsA 1 (.msl e b 0 n) i = some (.ptr b i) := by
  show bif_ (Nat.ble (i + 1) n) (fN (0 + i * 1) fun o => some (AV.ptr b o)) none = _
  rw [Nat.ble_eq_true_of_le hi, bifT, fN_eq, Nat.zero_add, Nat.mul_one]
theorem cellsInt {k : IntKind} {x : Int} : (AV.int k x).cells = [.int k x] := rfl
theorem beq_len1 {v : AV} : Nat.beq (lenL [v]) 1 = true := rfl
theorem lens_msl {e b o n : Nat} : lensA (.msl e b o n) = some (.int .i64 (n : Int)) := by
  show ob (some n) _ = _
  rw [obS, fN_eq]; rfl
theorem lens_nils : lensA .nils = some (.int .i64 0) := rfl
theorem lenA_msl {e b o n : Nat} : lenA (.msl e b o n) = some n := rfl

/-! .. as arrays -/
section
variable {k : IntKind} {h h' : Heap} {e b n : Nat} {d : Array Int}
theorem getElemB_toList {i : Nat} (hi : i < d.size) : d.toList[i]'(by simpa using hi) = d[i]! := by
  rw [getElem!_pos d i hi]; simp
theorem Own.loadA (ho : Own k h e b d.toList) {i : Nat} (hi : i < d.size) : loadN h 1 (.ptr b i) = some [.int k d[i]!] := by
  rw [ho.load (by simpa using hi), getElemB_toList hi]
theorem Own.storeA (ho : Own k h e b d.toList) {i : Nat} (hi : i < d.size) (x : Int) : storeN h (.ptr b i) [.int k x] = some (h.put b (.row ((d.setIfInBounds i x).toList.map (.int k ·)) e)) := by
  rw [ho.store (by simpa using hi) x, Array.toList_setIfInBounds]
end

section
variable {k : IntKind} {h : Heap} {e b n : Nat} {l : List Int}
theorem Ints.app_nils (hl : l ≠ []) {v : AV} (hv : Ints k h e v l) (by_ : Nat) (hr : l.length * by_ ≤ 1099511627776) (hr' : l.length ≤ 1099511627776) :
    appA h e 1 by_ .nils v = some (.msl e h.next 0 l.length, h.push (.row (l.map (.int k ·)) e), none) :=
  Hx.app_nils (RdS.lenA hv) (RdS.cells hv) (List.length_pos_iff.2 hl) hr hr'
theorem Own.app {m : List Int} {v : AV} (ho : Own k h e b l) (hm : m ≠ []) (hv : Ints k h e v m) (by_ : Nat) (hr : (l.length + m.length) * by_ ≤ 1099511627776) (hr' : l.length + m.length ≤ 1099511627776) :
    appA h e 1 by_ (.msl e b 0 l.length) v = some (.msl e h.next 0 (l.length + m.length), h.push (.row ((l ++ m).map (.int k ·)) e), some b) := by
  rw [app_msl ho.2 (RdS.lenA hv) (RdS.cells hv) (List.length_pos_iff.2 hm) (Nat.le_refl 1) (flat_ints _) (by simp) hr hr']
  simp
end

/-- but for the block b all is as it was -/
structure Upd (h h' : Heap) (b : Nat) : Prop where
  next : h'.next = h.next
  get : ∀ c, c ≠ b → h'.get c = h.get c
  low : min b (min h.low h.next) ≤ h'.low
  lowle : h'.low ≤ h.low
  same : b < h'.low → h'.get b = h.get b
theorem Upd.refl (h : Heap) (b : Nat) : Upd h h b := ⟨rfl, fun _ _ => rfl, by omega, Nat.le_refl _, fun _ => rfl⟩
theorem Upd.put {h h' : Heap} {b : Nat} {x : Blk} (hu : Upd h h' b) : Upd h (h'.put b x) b := ⟨by rw [next_put, hu.next], fun c hc => by rw [get_put, if_neg hc, hu.get c hc], by rw [low_put]; have := hu.low; omega, by rw [low_put]; have := hu.lowle; omega, fun h1 => by rw [low_put] at h1; omega⟩
theorem Upd.trans {h h' h'' : Heap} {b : Nat} (hu : Upd h h' b) (hv : Upd h' h'' b) : Upd h h'' b := ⟨by rw [hv.next, hu.next], fun c hc => by rw [hv.get c hc, hu.get c hc], by have := hu.low; have := hv.low; have := hu.next; omega, Nat.le_trans hv.lowle hu.lowle, fun h1 => by rw [hv.same h1, hu.same (Nat.lt_of_lt_of_le h1 hv.lowle)]⟩
theorem Upd.lower {h h' : Heap} {b : Nat} (hu : Upd h.ent h' b) : Upd h (h'.lower h.low) b := by
  have h1 := hu.low
  rw [ent_low, ent_next] at h1
  refine ⟨by rw [lowerE]; exact hu.next, fun c hc => by rw [lowerE]; exact hu.get c hc, ?_, ?_, fun h2 => ?_⟩
  · rw [lowerE]; show _ ≤ min _ _; omega
  · rw [lowerE]; show min _ _ ≤ _; omega
  · rw [lowerE] at h2 ⊢
    exact hu.same (Nat.lt_of_lt_of_le h2 (Nat.min_le_right _ _))
theorem fin_upd {fi : FnI} {h h1 : Heap} {b e : Nat} {vs : List AV} {d : List Int} (hu : Upd h.ent h1 b) (ho : Own .i64 h1 e b d) (hr : fi.res = []) : finQ fi h (fun r h' => r = .val (.tup []) ∧ Upd h h' b ∧ Own .i64 h' e b d) .ret ⟨vs, h1, []⟩ := by
  refine fin_ref (l := []) (by rw [hr]; rfl) rfl ⟨rfl, hu.lower, ho.lower⟩ (fun _ hl => ⟨rfl, Upd.refl _ _, ?_⟩)
  have hb : b < h.next := by have := ho.1; rw [hu.next] at this; exact this
  exact ⟨hb, by rw [← ho.2]; exact (hu.same (by omega)).symm⟩
theorem fin_updN {fi : FnI} {h h1 : Heap} {b e : Nat} {vs : List AV} {d : List Int} (hu : Upd h.ent h1 b) (ho : Own .i64 h1 e b d) (hr : fi.res = []) : finQ fi h (fun r h' => r = .val (.tup []) ∧ Upd h h' b ∧ Own .i64 h' e b d) .normal ⟨vs, h1, []⟩ := fin_upd hu ho hr
/-- the comparison -/
def CmpOk (F : Nat → Nat → CallFn) (g : AV) (h : Heap) (b : Nat) (lt : Int → Int → Bool) (D : Int → Prop) : Prop :=
  ∀ h', h.next ≤ h'.next → (∀ c, c ≠ b → c < h.next → h'.get c = h.get c) → ∀ x y, D x → D y → WV F g [.int .i64 x, .int .i64 y] h' (fun r h'' => h'' = h' ∧ ∃ c, r = .val (.int .i64 c) ∧ (c < 0 ↔ lt x y = true))

/-! Copying. -/
section
variable {k : IntKind} {h : Heap} {e b : Nat} {l : List Int}
theorem Own.cells (ho : Own k h e b l) {o j n : Nat} (hj : j ≤ n) (hn : o + j ≤ l.length) : sliceCells h 1 j (.msl e b o n) = some (((l.drop o).take j).map (.int k ·)) := by
  show bif_ (Nat.ble j n) (ob (getRow h b) fun r => cut r.1 o (j * 1)) none = _
  rw [Nat.ble_eq_true_of_le hj, bifT]
  unfold getRow
  rw [ho.2]
  show cut _ o (j * 1) = _
  rw [Nat.mul_one, cut_mk (by simp; omega), List.map_take, List.map_drop]
theorem Own.storeL (ho : Own k h e b l) {o : Nat} {src : List Int} (hn : o + src.length ≤ l.length) : storeN h (.ptr b o) (src.map (.int k ·)) = some (h.put b (.row ((l.take o ++ src ++ l.drop (o + src.length)).map (.int k ·)) e)) := by
  show bif_ (flat (src.map (AV.int k ·))) (ob (getRow h b) fun r => ob (setL o (src.map (AV.int k ·)) r.1) fun cs => some (h.put b (.row cs r.2))) none = _
  rw [flat_ints, bifT]
  unfold getRow
  rw [ho.2]
  show ob (setL o _ _) _ = _
  rw [setL_eq, if_pos (by simp; omega), obS]
  simp
theorem Own.cpy (ho : Own k h e b l) {o n m : Nat} {s : AV} {src : List Int} (hs : lenA s = some m) (hl : src.length = min m n) (hc : sliceCells h 1 (min m n) s = some (src.map (.int k ·))) (hn : o + min m n ≤ l.length) :
    cpyE h 1 (.msl e b o n) s = some (.int .i64 ((min m n : Nat) : Int), h.put b (.row ((l.take o ++ src ++ l.drop (o + min m n)).map (.int k ·)) e)) := by
  unfold cpyE
  rw [hs, obS, lenA_msl, obS, low_if, fN_eq, hc, obS]
  show ob (storeN h (.ptr b o) _) _ = _
  rw [ho.storeL (by omega), hl]
  rfl
end
theorem eCpyE {sz : Nat} {d s : OF} {stk vs : List AV} {h : Heap} : eCpy sz d s stk vs h = ob (d stk vs) fun d => ob (s stk vs) fun s => cpyE h sz d s := id rfl
theorem slc_msl {e sz b o n l u : Nat} (hl : l ≤ u) (hu : u ≤ n) : slcA e sz (.msl e b o n) l u n = some (.msl e b (o + l * sz) (u - l)) := by
  unfold slcA
  rw [Nat.ble_eq_true_of_le hl, Nat.ble_eq_true_of_le hu]
  show bif_ true _ none = _
  rw [bifT]
  dsimp only
  rw [fN_eq, fN_eq, show Nat.beq e e = true from Nat.beq_refl e, bifT]
theorem flat_rep {α : Type} (n : Nat) (a : α) : (List.replicate n [a]).flatten = List.replicate n a := by
  induction n with
  | zero => rfl
  | succ n ih => simp [List.replicate_succ, ih]
theorem Own.mkZ {k : IntKind} (h : Heap) (e n : Nat) (z : Int) : Own k (h.push (.row (List.replicate n [AV.int k z]).flatten e)) e h.next (List.replicate n z) := by
  rw [flat_rep, ← List.map_replicate (f := fun x => AV.int k x)]
  exact Own.mk _
theorem Own.one {k : IntKind} (h : Heap) (e : Nat) (z : Int) : Own k (h.push (.row [AV.int k z] e)) e h.next [z] := Own.mk (k := k) [z]

/-- what was there is there; blocks may have come -/
structure Grow (h h' : Heap) : Prop where
  ext : Ext h h'
  low : min h.low h.next ≤ h'.low
  lowle : h'.low ≤ h.low
theorem Grow.refl (h : Heap) : Grow h h := ⟨Ext.refl h, by omega, Nat.le_refl _⟩
theorem Grow.of {h h1 : Heap} (he : Ext h.ent h1) (hl : h.next ≤ h1.low) : Grow h (h1.lower h.low) := by
  rw [lowerE]
  exact ⟨⟨he.next, he.get⟩, by show _ ≤ min _ _; omega, by show min _ _ ≤ _; omega⟩
theorem Grow.trans {a b c : Heap} (h : Grow a b) (h' : Grow b c) : Grow a c := ⟨h.ext.trans h'.ext, by have := h.low; have := h'.low; have := h.ext.next; omega, Nat.le_trans h'.lowle h.lowle⟩
/-- a result: fresh blocks, or none -/
theorem fin_new {fi : FnI} {h0 h : Heap} {R : Ret → Heap → Prop} {vs l : List AV} {v : AV} (he : Ext h0.ent h) (hl : h0.next ≤ h.low) (hr : mapO (resultA vs h) fi.res = some l) (ht : tupV l = v) (hR : Grow h0 (h.lower h0.low) → R (.val v) (h.lower h0.low)) (hN : hasNoRef v = true → R (.val v) h0) : finQ fi h0 R .ret ⟨vs, h, []⟩ :=
  fin_ref hr ht (hR (Grow.of he hl)) (fun hv _ => hN hv)

theorem CmpOk.ent {F : Nat → Nat → CallFn} {g : AV} {h : Heap} {b : Nat} {lt : Int → Int → Bool} {D : Int → Prop} (hc : CmpOk F g h b lt D) : CmpOk F g h.ent b lt D := fun h' h1 h2 => hc h' h1 h2
theorem Own.sameL {k : IntKind} {h h' : Heap} {e b : Nat} {l : List Int} (ho : Own k h e b l) (h1 : h.next ≤ h'.next) (h2 : h'.get b = h.get b) : Own k h' e b l := ⟨Nat.lt_of_lt_of_le ho.1 h1, by rw [h2]; exact ho.2⟩
theorem Own.same {k : IntKind} {h h' : Heap} {e b : Nat} {l : List Int} (ho : Own k h e b l) (h1 : h'.next = h.next) (h2 : h'.get b = h.get b) : Own k h' e b l := ⟨by rw [h1]; exact ho.1, by rw [h2]; exact ho.2⟩
theorem Ext.upd {h0 h h' : Heap} {b : Nat} (he : Ext h0 h) (hu : Upd h h' b) (hb : h0.next ≤ b) : Ext h0 h' := ⟨by rw [hu.next]; exact he.next, fun c hc => by rw [hu.get c (by omega), he.get c hc]⟩

/-- nothing, or a block of the function's own (base: the function's first heap) -/
def OwnN (k : IntKind) (base : Nat) (h : Heap) (e : Nat) (v : AV) (l : List Int) : Prop := (l = [] ∧ v = .nils) ∨ ∃ b, v = .msl e b 0 l.length ∧ Own k h e b l ∧ base ≤ b
theorem OwnN.ints {k : IntKind} {base : Nat} {h : Heap} {e : Nat} {v : AV} {l : List Int} (ho : OwnN k base h e v l) : Ints k h e v l := by
  rcases ho with ⟨rfl, rfl⟩ | ⟨b, rfl, ho, _⟩
  · exact ⟨rfl, rfl⟩
  · exact ho.ints
theorem OwnN.own {k : IntKind} {base : Nat} {h : Heap} {e : Nat} {v : AV} {l : List Int} (ho : OwnN k base h e v l) (hl : l ≠ []) : ∃ b, v = .msl e b 0 l.length ∧ Own k h e b l ∧ base ≤ b := by
  rcases ho with ⟨h, _⟩ | ho
  · exact absurd h hl
  · exact ho
/-- one number more -/
theorem OwnN.app1 {k : IntKind} {h0 h : Heap} {e : Nat} {v : AV} {l : List Int} (y : Int) (by_ : Nat) (ho : OwnN k h0.next h e v l) (he : Ext h0 h) (hl : h0.next ≤ h.low) (hr : (l.length + 1) * by_ ≤ 1099511627776) (hr' : l.length + 1 ≤ 1099511627776) :
    ∃ v' h' x, appA (h.push (.row [.int k y] e)) e 1 by_ v (.msl e h.next 0 1) = some (v', h', x) ∧ OwnN k h0.next (h'.killO x) e v' (l ++ [y]) ∧ Ext h0 (h'.killO x) ∧ h0.next ≤ (h'.killO x).low ∧ v' = .msl e (h.next + 1) 0 (l.length + 1) ∧
      ∀ e' b' l', Own k h e' b' l' → (∀ o n, v ≠ .msl e b' o n) → Own k (h'.killO x) e' b' l' := by
  have h1 := Own.one (k := k) h e y
  have hn := he.next
  rcases ho with ⟨rfl, rfl⟩ | ⟨b, rfl, ho, hb⟩
  · have := Ints.app_nils (l := [y]) (by simp) h1.ints by_ (by simpa using hr) (by simp)
    refine ⟨_, _, _, this, .inr ⟨_, rfl, Own.mk _, by rw [next_push]; omega⟩, ?_, ?_, by rw [next_push]; rfl, fun e' b' l' ho' _ => ?_⟩
    · exact he.push.push
    · show _ ≤ (Heap.push _ _).low; rw [low_push, low_push]; exact hl
    · exact ho'.pushO.pushO
  · have := (ho.pushO (x := .row [.int k y] e)).app (m := [y]) (by simp) h1.ints by_ (by simpa using hr) (by simpa using hr')
    refine ⟨_, _, _, this, .inr ⟨_, by rw [List.length_append], (Own.mk _).killO (by rw [next_push]; have := ho.1; omega), by rw [next_push]; omega⟩, ?_, ?_, by rw [next_push]; rfl, fun e' b' l' ho' hne => ?_⟩
    · exact he.push.push.kill hb
    · show _ ≤ (Heap.kill _ _).low; rw [low_kill, low_push, low_push]; omega
    · exact ho'.pushO.pushO.killO (fun h => hne 0 l.length (by rw [h]))

/-- .. the base apart from the bound of what was turned -/
theorem OwnN.app2 {k : IntKind} {h0 h : Heap} {e : Nat} {v : AV} {l : List Int} (y : Int) (by_ : Nat) (ho : OwnN k h0.next h e v l) (he : Ext h0 h) {lo : Nat} (hl : lo ≤ h.low) (hlo : lo ≤ h0.next) (hr : (l.length + 1) * by_ ≤ 1099511627776) (hr' : l.length + 1 ≤ 1099511627776) :
    ∃ v' h' x, appA (h.push (.row [.int k y] e)) e 1 by_ v (.msl e h.next 0 1) = some (v', h', x) ∧ OwnN k h0.next (h'.killO x) e v' (l ++ [y]) ∧ Ext h0 (h'.killO x) ∧ lo ≤ (h'.killO x).low ∧ v' = .msl e (h.next + 1) 0 (l.length + 1) ∧
      ∀ e' b' l', Own k h e' b' l' → (∀ o n, v ≠ .msl e b' o n) → Own k (h'.killO x) e' b' l' := by
  have h1 := Own.one (k := k) h e y
  have hn := he.next
  rcases ho with ⟨rfl, rfl⟩ | ⟨b, rfl, ho, hb⟩
  · have := Ints.app_nils (l := [y]) (by simp) h1.ints by_ (by simpa using hr) (by simp)
    refine ⟨_, _, _, this, .inr ⟨_, rfl, Own.mk _, by rw [next_push]; omega⟩, ?_, ?_, by rw [next_push]; rfl, fun e' b' l' ho' _ => ?_⟩
    · exact he.push.push
    · show _ ≤ (Heap.push _ _).low; rw [low_push, low_push]; exact hl
    · exact ho'.pushO.pushO
  · have := (ho.pushO (x := .row [.int k y] e)).app (m := [y]) (by simp) h1.ints by_ (by simpa using hr) (by simpa using hr')
    refine ⟨_, _, _, this, .inr ⟨_, by rw [List.length_append], (Own.mk _).killO (by rw [next_push]; have := ho.1; omega), by rw [next_push]; omega⟩, ?_, ?_, by rw [next_push]; rfl, fun e' b' l' ho' hne => ?_⟩
    · exact he.push.push.kill hb
    · show _ ≤ (Heap.kill _ _).low; rw [low_kill, low_push, low_push]; omega
    · exact ho'.pushO.pushO.killO (fun h => hne 0 l.length (by rw [h]))

theorem finQ.mono {fi : FnI} {h : Heap} {R R' : Ret → Heap → Prop} {e : Ex} {s : St} (hq : finQ fi h R e s) (hr : ∀ r h', R r h' → R' r h') : finQ fi h R' e s := by
  obtain ⟨h1, h2⟩ := hq
  refine ⟨h1, ?_⟩
  cases e with
  | normal => obtain ⟨l, h3, h4⟩ := h2; exact ⟨l, h3, hr _ _ h4⟩
  | ret => obtain ⟨l, h3, h4⟩ := h2; exact ⟨l, h3, hr _ _ h4⟩
  | panic v => exact hr _ _ h2
  | exit i => exact h2
  | goto i => exact h2
theorem fin_updV {fi : FnI} {h h1 : Heap} {b e : Nat} {vs l : List AV} {v : AV} {d : List Int} (hu : Upd h.ent h1 b) (ho : Own .i64 h1 e b d) (hr : mapO (resultA vs h1) fi.res = some l) (ht : tupV l = v) : finQ fi h (fun r h' => r = .val v ∧ Upd h h' b ∧ Own .i64 h' e b d) .ret ⟨vs, h1, []⟩ := by
  refine fin_ref hr ht ⟨rfl, hu.lower, ho.lower⟩ (fun _ hl => ⟨rfl, Upd.refl _ _, ?_⟩)
  have hb : b < h.next := by have := ho.1; rw [hu.next] at this; exact this
  exact ⟨hb, by rw [← ho.2]; exact (hu.same (by omega)).symm⟩

/-- but for the block b all that was is as it was; blocks may have come -/
structure Updw (h h' : Heap) (b : Nat) : Prop where
  next : h.next ≤ h'.next
  get : ∀ c, c ≠ b → c < h.next → h'.get c = h.get c
  low : min b (min h.low h.next) ≤ h'.low
  lowle : h'.low ≤ h.low
  same : b < h'.low → h'.get b = h.get b
theorem Upd.weak {h h' : Heap} {b : Nat} (hu : Upd h h' b) : Updw h h' b := ⟨Nat.le_of_eq hu.next.symm, fun c h1 _ => hu.get c h1, hu.low, hu.lowle, hu.same⟩
theorem Updw.refl (h : Heap) (b : Nat) : Updw h h b := (Upd.refl h b).weak
theorem Updw.trans {h h' h'' : Heap} {b : Nat} (hu : Updw h h' b) (hv : Updw h' h'' b) : Updw h h'' b := ⟨Nat.le_trans hu.next hv.next, fun c hc hl => by rw [hv.get c hc (Nat.lt_of_lt_of_le hl hu.next), hu.get c hc hl], by have := hu.low; have := hv.low; have := hu.next; omega, Nat.le_trans hv.lowle hu.lowle, fun h1 => by rw [hv.same h1, hu.same (Nat.lt_of_lt_of_le h1 hv.lowle)]⟩
theorem Updw.push {h h' : Heap} {b : Nat} {x : Blk} (hu : Updw h h' b) (hb : b < h.next) : Updw h (h'.push x) b := ⟨by rw [next_push]; have := hu.next; omega, fun c hc hl => by rw [get_push, if_neg (by have := hu.next; omega), hu.get c hc hl], by rw [low_push]; exact hu.low, by rw [low_push]; exact hu.lowle, fun h1 => by rw [low_push] at h1; rw [get_push, if_neg (by have := hu.next; omega), hu.same h1]⟩
/-- a block that came later is turned -/
theorem Updw.other {h h' h'' : Heap} {b c : Nat} (hu : Updw h h' b) (hv : Upd h' h'' c) (hb : b < h.next) (hc : h.next ≤ c) : Updw h h'' b := ⟨by rw [hv.next]; exact hu.next, fun i hi hl => by rw [hv.get i (by omega), hu.get i hi hl], by have := hu.low; have := hv.low; have := hu.next; omega, Nat.le_trans hv.lowle hu.lowle, fun h1 => by rw [hv.get b (by omega), hu.same (Nat.lt_of_lt_of_le h1 hv.lowle)]⟩
theorem Updw.lower {h h' : Heap} {b : Nat} (hu : Updw h.ent h' b) : Updw h (h'.lower h.low) b := by
  have h1 := hu.low
  have h0 := hu.next
  rw [ent_low, ent_next] at h1
  rw [ent_next] at h0
  refine ⟨by rw [lowerE]; exact h0, fun c hc hl => by rw [lowerE]; exact hu.get c hc hl, ?_, ?_, fun h2 => ?_⟩
  · rw [lowerE]; show _ ≤ min _ _; omega
  · rw [lowerE]; show min _ _ ≤ _; omega
  · rw [lowerE] at h2 ⊢
    exact hu.same (Nat.lt_of_lt_of_le h2 (Nat.min_le_right _ _))
theorem fin_updw {fi : FnI} {h h1 : Heap} {b e : Nat} {vs : List AV} {d : List Int} (hu : Updw h.ent h1 b) (hb : b < h.next) (ho : Own .i64 h1 e b d) (hr : fi.res = []) : finQ fi h (fun r h' => r = .val (.tup []) ∧ Updw h h' b ∧ Own .i64 h' e b d) .ret ⟨vs, h1, []⟩ := by
  refine fin_ref (l := []) (by rw [hr]; rfl) rfl ⟨rfl, hu.lower, ho.lower⟩ (fun _ hl => ⟨rfl, Updw.refl _ _, ?_⟩)
  exact ⟨hb, by rw [← ho.2]; exact (hu.same (by omega)).symm⟩
theorem fin_updwN {fi : FnI} {h h1 : Heap} {b e : Nat} {vs : List AV} {d : List Int} (hu : Updw h.ent h1 b) (hb : b < h.next) (ho : Own .i64 h1 e b d) (hr : fi.res = []) : finQ fi h (fun r h' => r = .val (.tup []) ∧ Updw h h' b ∧ Own .i64 h' e b d) .normal ⟨vs, h1, []⟩ := fin_updw hu hb ho hr
/-- as fin_updV, at any kind -/
theorem fin_updK {k : IntKind} {fi : FnI} {h h1 : Heap} {b e : Nat} {vs l : List AV} {v : AV} {d : List Int} (hu : Upd h.ent h1 b) (ho : Own k h1 e b d) (hr : mapO (resultA vs h1) fi.res = some l) (ht : tupV l = v) : finQ fi h (fun r h' => r = .val v ∧ Upd h h' b ∧ Own k h' e b d) .ret ⟨vs, h1, []⟩ := by
  refine fin_ref hr ht ⟨rfl, hu.lower, ho.lower⟩ (fun _ hl => ⟨rfl, Upd.refl _ _, ?_⟩)
  have hb : b < h.next := by have := ho.1; rw [hu.next] at this; exact this
  exact ⟨hb, by rw [← ho.2]; exact (hu.same (by omega)).symm⟩
theorem Ext.updw {h0 h h' : Heap} {b : Nat} (he : Ext h0 h) (hu : Updw h h' b) (hb : h0.next ≤ b) : Ext h0 h' := ⟨Nat.le_trans he.next hu.next, fun c hc => by rw [hu.get c (by omega) (Nat.lt_of_lt_of_le hc he.next), he.get c hc]⟩
end Hx

/- The rules of the walk, as one set. -/
namespace Hx
attribute [go_sem] eCpyE bin_and bin_or bin_xor bin_andNot bin_shr64 bin_shl64 aIxcE fill0 fillS setL0 setLS over0 overS rep0 repS cat0 catS len0 lenS beqR cells_agg cells_bool cells_msl cells_isl cells_nils cells_ptr cells_fn cells_mp cells_nilf WO_a WO_e WO_g WO_nilE WT_a WT_e WT_g WT_nilE WR_aE WR_gE WR_0E wrK0 wrKS chk0 kills0 killsS cellsInt beq_len1 lens_msl lens_nils lenA_msl aPickE pickB oVarE oStkE oConE getL0 getLS set10 set1S putV0 putVS mapF0 mapFS killO0 killOS guardT guardF guardU aMvE aBinE aUnE aConvE aExtE aLensE aIxsE aIxaE aLoadE aFadE aFldE aAppE aSlcE aMksE aMkfE aMmE aNewE aBoxE aAggE aBslE aChkE eStoreE rOE packF packT bin_add bin_sub bin_mul bin_eql bin_neq bin_lss bin_leq bin_gtr bin_geq bin_beql bin_bneq un_neg un_not natOfC natOf0 natOf1 bound0 boundS conv_int extE mm_min mm_max seqQ_normal seqQ_exit seqQ_ret blkQ_exit blkQ_normal blkQ_ret loopQ_normal loopQ_exit loopQ_ret callQ_val
attribute [go_sem] true_and and_true decide_true decide_false Bool.not_true Bool.not_false Int.ofNat_eq_natCast Int.cast_ofNat_Int if_true if_false Int.toNat_natCast Nat.zero_add
attribute [go_sem ↓] OW_some obS bifT bifF
end Hx

/- What a call is given, as values of the machine that are never written. -/
namespace Hx
open Go

/-- fields one behind the other -/
def contig (P : Program) : List Field → Nat → Nat → Bool
  | [], n, m => decide (n = m)
  | f :: r, n, m => decide (f.offset = n) && contig P r (n + P.cellsOf f.type) m
/-- bools, integers, and slices, structs and arrays of these -/
def plainT (P : Program) : Nat → TypeId → Bool
  | 0, _ => false
  | d + 1, t => match P.underlying t with
    | some .bool | some (.int _) => decide (P.cellsOf t = 1)
    | some (.slice e) => plainT P d e && decide (1 ≤ P.cellsOf e) && decide (P.cellsOf t = 1)
    | some (.struct fs) => fs.toList.all (fun f => plainT P d f.type) && contig P fs.toList 0 (P.cellsOf t)
    | some (.array n e) => plainT P d e && decide (P.cellsOf t = n * P.cellsOf e)
    | _ => false
/-- the same predicate of two lists' elements -/
def All2 {α β : Type} (p : α → β → Prop) : List α → List β → Prop
  | [], [] => True
  | a :: as, b :: bs => p a b ∧ All2 p as bs
  | _, _ => False
/-- values of the type -/
def Shp (P : Program) : Nat → TypeId → List AV → Prop
  | 0, _, _ => False
  | d + 1, t, as => match P.underlying t with
    | some .bool => ∃ b, as = [.bool b]
    | some (.int k) => ∃ n, as = [.int k n] ∧ (Lit.int k n).wf = true
    | some (.slice e) => as = [.nils] ∨ as = [.emp] ∨ ∃ ls : List (List AV), ls ≠ [] ∧ as = [.isl ls.flatten ls.length] ∧ ∀ l ∈ ls, Shp P d e l ∧ l.length = P.cellsOf e
    | some (.struct fs) => ∃ ls : List (List AV), as = ls.flatten ∧ All2 (fun f l => Shp P d f.type l ∧ l.length = P.cellsOf f.type) fs.toList ls
    | some (.array n e) => ∃ ls : List (List AV), as = ls.flatten ∧ ls.length = n ∧ ∀ l ∈ ls, Shp P d e l ∧ l.length = P.cellsOf e
    | _ => False

section
variable {H : Type} {enc : TypeId × Value → H} {P : Program} {base : Nat} {sp : Nat → Bool} {held : Bool} {K : Kx}

theorem VRs.flat {ls : List (List AV)} {cs : List (List Value)} (h : All2 (VRs P K) ls cs) : VRs P K ls.flatten cs.flatten := by
  induction ls generalizing cs with
  | nil => cases cs with
    | nil => exact .nil
    | cons => exact h.elim
  | cons l ls ih => cases cs with
    | nil => exact h.elim
    | cons c cs => exact h.1.append (ih h.2)

theorem pick_all {α β : Type} {p : α → β → Prop} : ∀ {l : List α}, (∀ a ∈ l, ∃ b, p a b) → ∃ m : List β, All2 p l m
  | [], _ => ⟨[], trivial⟩
  | a :: l, h => by
    obtain ⟨b, hb⟩ := h a List.mem_cons_self
    obtain ⟨m, hm⟩ := pick_all (l := l) fun x hx => h x (List.mem_cons_of_mem _ hx)
    exact ⟨b :: m, hb, hm⟩
theorem All2.swap {α β : Type} {p : α → β → Prop} : ∀ {l : List α} {m : List β}, All2 p l m → All2 (fun b a => p a b) m l
  | [], [], _ => trivial
  | _ :: _, _ :: _, h => ⟨h.1, h.2.swap⟩
  | [], _ :: _, h => h.elim
  | _ :: _, [], h => h.elim
theorem All2.imp {α β : Type} {p q : α → β → Prop} (hpq : ∀ a b, p a b → q a b) : ∀ {l : List α} {m : List β}, All2 p l m → All2 q l m
  | [], [], _ => trivial
  | _ :: _, _ :: _, h => ⟨hpq _ _ h.1, h.2.imp hpq⟩
  | [], _ :: _, h => h.elim
  | _ :: _, [], h => h.elim
theorem All2.length {α β : Type} {p : α → β → Prop} : ∀ {l : List α} {m : List β}, All2 p l m → m.length = l.length
  | [], [], _ => rfl
  | _ :: _, _ :: _, h => by simp [h.2.length]
  | [], _ :: _, h => h.elim
  | _ :: _, [], h => h.elim
theorem All2.right {α β : Type} {p : α → β → Prop} {q : β → Prop} (hpq : ∀ a b, p a b → q b) : ∀ {l : List α} {m : List β}, All2 p l m → ∀ b ∈ m, q b
  | [], [], _, b, hb => by cases hb
  | _ :: _, _ :: _, h, b, hb => by
    rcases List.mem_cons.1 hb with rfl | hb
    · exact hpq _ _ h.1
    · exact h.2.right hpq b hb
  | [], _ :: _, h, _, _ => h.elim
  | _ :: _, [], h, _, _ => h.elim

/-- pieces of a list, one behind the other -/
theorem pieces {cs : List Value} {w : Nat} : ∀ (n i : Nat), (i + n) * w ≤ cs.length → ((List.range n).map fun j => (cs.drop ((i + j) * w)).take w).flatten = (cs.drop (i * w)).take (n * w)
  | 0, i, _ => by simp
  | n + 1, i, h => by
    rw [List.range_succ_eq_map, List.map_cons, List.map_map, List.flatten_cons]
    have := pieces (cs := cs) (w := w) n (i + 1) (by rw [show i + 1 + n = i + (n + 1) by omega]; exact h)
    have e : ((fun j => (cs.drop ((i + j) * w)).take w) ∘ Nat.succ) = fun j => (cs.drop ((i + 1 + j) * w)).take w := by
      funext j; simp only [Function.comp]; rw [show i + j.succ = i + 1 + j by omega]
    rw [e, this, Nat.add_zero, Nat.add_mul, Nat.one_mul, Nat.add_mul, Nat.one_mul, Nat.add_comm (n * w) w, List.take_add, List.drop_drop]

theorem struct_cells {cs : List Value} : ∀ (fs : List Field) (n m : Nat), contig P fs n m = true → cs.length = m → (fs.map fun f => (cs.drop f.offset).take (P.cellsOf f.type)).flatten = cs.drop n ∧ ∀ f ∈ fs, ((cs.drop f.offset).take (P.cellsOf f.type)).length = P.cellsOf f.type
  | [], n, m, h, hl => by
    simp only [contig, decide_eq_true_eq] at h
    subst h
    exact ⟨by simp [hl], fun f hf => by cases hf⟩
  | f :: r, n, m, h, hl => by
    simp only [contig, Bool.and_eq_true, decide_eq_true_eq] at h
    obtain ⟨h1, h2⟩ := h
    obtain ⟨h3, h4⟩ := struct_cells r _ _ h2 hl
    have hle : ∀ (fs : List Field) (n : Nat), contig P fs n m = true → n ≤ m := by
      intro fs
      induction fs with
      | nil => intro n h; simp only [contig, decide_eq_true_eq] at h; omega
      | cons f r ih => intro n h; simp only [contig, Bool.and_eq_true, decide_eq_true_eq] at h; have := ih _ h.2; omega
    have := hle _ _ h2
    refine ⟨?_, fun g hg => ?_⟩
    · rw [List.map_cons, List.flatten_cons, h3, h1, ← List.drop_drop, List.take_append_drop]
    · rcases List.mem_cons.1 hg with rfl | hg
      · rw [List.length_take, List.length_drop]; omega
      · exact h4 g hg

theorem All2.get {α β : Type} {p : α → β → Prop} : ∀ {l : List α} {m : List β}, All2 p l m → ∀ (k : Nat) (a : α) (b : β), l[k]? = some a → m[k]? = some b → p a b
  | [], _, _, k, a, b, h, _ => by simp at h
  | _ :: _, [], h, _, _, _, _, _ => h.elim
  | x :: l, y :: m, h, 0, a, b, h1, h2 => by simp at h1 h2; subst h1 h2; exact h.1
  | x :: l, y :: m, h, k + 1, a, b, h1, h2 => h.2.get k a b (by simpa using h1) (by simpa using h2)
theorem All2.map_both {α β γ δ : Type} {p : α → β → Prop} {q : γ → δ → Prop} {f : α → γ} {g : β → δ} (hpq : ∀ a b, p a b → q (f a) (g b)) : ∀ {l : List α} {m : List β}, All2 p l m → All2 q (l.map f) (m.map g)
  | [], [], _ => trivial
  | _ :: _, _ :: _, h => ⟨hpq _ _ h.1, h.2.map_both hpq⟩
  | [], _ :: _, h => h.elim
  | _ :: _, [], h => h.elim
theorem all2_self {α : Type} {p : α → α → Prop} : ∀ {l : List α}, (∀ a ∈ l, p a a) → All2 p l l
  | [], _ => trivial
  | a :: _l, h => ⟨h a List.mem_cons_self, all2_self fun x hx => h x (List.mem_cons_of_mem _ hx)⟩
theorem at_flat {W : World} {b w : Nat} : ∀ (cvs : List (List Value)) (o : Nat), (∀ k c, cvs[k]? = some c → c.length = w ∧ ∀ r v, c[r]? = some v → W.cell? ⟨b, o + (k * w + r), none⟩ = some v) → ∀ i v, cvs.flatten[i]? = some v → W.cell? ⟨b, o + i, none⟩ = some v
  | [], _, _, i, v, h => by simp at h
  | c :: cs, o, hc, i, v, h => by
    obtain ⟨h1, h2⟩ := hc 0 c rfl
    rw [List.flatten_cons] at h
    by_cases hi : i < w
    · rw [List.getElem?_append_left (by omega)] at h
      have := h2 i v h
      rwa [Nat.zero_mul, Nat.zero_add] at this
    · rw [List.getElem?_append_right (by omega), h1] at h
      have := at_flat cs (o + w) (fun k c' hk => by
        obtain ⟨h3, h4⟩ := hc (k + 1) c' (by simpa using hk)
        refine ⟨h3, fun r v hr => ?_⟩
        have := h4 r v hr
        rwa [show o + ((k + 1) * w + r) = o + w + (k * w + r) by rw [Nat.add_mul]; omega] at this) (i - w) v h
      rwa [show o + w + (i - w) = o + i by omega] at this
theorem addr_addN (b o n : Nat) : (⟨b, o, none⟩ : Addr).add n = ⟨b, o + n, none⟩ := by
  unfold Addr.add
  split
  · rename_i h; subst h; rfl
  · rfl
theorem mapM_each {α β : Type} {f : α → Option β} : ∀ {l : List α} {xs : List β}, l.mapM f = some xs → ∀ a ∈ l, ∃ x, f a = some x
  | [], _, _, a, h => by cases h
  | b :: l, xs, h, a, ha => by
    rw [List.mapM_cons] at h
    cases hb : f b with
    | none => rw [hb] at h; cases h
    | some y =>
      rw [hb] at h
      cases hl : l.mapM f with
      | none => rw [hl] at h; cases h
      | some ys =>
        rcases List.mem_cons.1 ha with rfl | ha
        · exact ⟨y, hb⟩
        · exact mapM_each hl a ha

theorem trod_vrs (hO : ∀ b, ¬ K.O b) : ∀ (d : Nat) (t : TypeId), plainT P d t = true → ∀ (fuel : Nat) (cs : List Value) (x : DataW H × List MemPlace), DataW.trod enc P K.w base sp held fuel t cs = some x → ∃ as, VRs P K as cs ∧ Shp P d t as ∧ as.length = P.cellsOf t := by
  intro d
  induction d with
  | zero => intro t h; cases h
  | succ d ih =>
    intro t hp fuel cs x h
    have one : ∀ (a : AV) (v : Value), VR P K a v → VRs P K [a] [v] := fun a v h => .cons _ _ _ _ h .nil
    unfold plainT at hp
    cases fuel with
    | zero => simp [DataW.trod] at h
    | succ n =>
    split at hp
    · rename_i ht
      unfold DataW.trod at h
      rw [ht] at h
      split at h <;> simp_all
      exact ⟨_, one _ _ (.bool _), by unfold Shp; rw [ht]; exact ⟨_, rfl⟩, rfl⟩
    · rename_i k ht
      unfold DataW.trod at h
      rw [ht] at h
      split at h <;> simp_all
      obtain ⟨⟨rfl, hw⟩, _⟩ := h
      exact ⟨_, one _ _ (.int _ _), by unfold Shp; rw [ht]; exact ⟨_, rfl, hw⟩, rfl⟩
    · rename_i e ht
      simp only [Bool.and_eq_true, decide_eq_true_eq] at hp
      obtain ⟨⟨hp1, hp2⟩, hp3⟩ := hp
      rcases DataW.trod_slice ht h with ⟨rfl, _⟩ | ⟨a, len, cap, elems, rest, m, _, rfl, _, hb, hl, hm, hlen, hel, _, _⟩
      · exact ⟨_, one _ _ .nils, by unfold Shp; rw [ht]; exact .inl rfl, hp3.symm⟩
      · cases len with
        | zero => exact ⟨_, one _ _ (.emp1 _ _), by unfold Shp; rw [ht]; exact .inr (.inl rfl), hp3.symm⟩
        | succ len =>
          have each : ∀ i ∈ List.range (len + 1), ∃ q : List AV × List Value, K.w.cells? base (a.add (i * P.cellsOf e)) (P.cellsOf e) = some q.2 ∧ VRs P K q.1 q.2 ∧ Shp P d e q.1 ∧ q.1.length = P.cellsOf e := by
            intro i hi
            rw [List.mem_range] at hi
            have h1 := hel i hi
            rw [List.getElem?_eq_getElem (by omega), Option.bind_eq_some_iff] at h1
            obtain ⟨c, h2, h3⟩ := h1
            obtain ⟨l, h4, h5, h6⟩ := ih e hp1 _ _ _ h3
            exact ⟨(l, c), h2, h4, h5, h6⟩
          obtain ⟨ps, hps⟩ := pick_all each
          have hpl := hps.length
          rw [List.length_range] at hpl
          obtain ⟨ab, ao, as⟩ := a
          have h0 : K.w.cell? ((⟨ab, ao, as⟩ : Addr).add (0 * P.cellsOf e) |>.add 0) ≠ none := by
            cases hq : ps[0]? with
            | none => rw [List.getElem?_eq_none_iff] at hq; omega
            | some q =>
              have h2 := hps.get 0 0 q (by simp) hq
              have h3 := (World.cells?_some h2.1).2
              rw [h3.2 0 (by omega), List.getElem?_eq_getElem (by omega)]
              simp
          obtain ⟨v0, hv0⟩ := Option.ne_none_iff_exists'.1 h0
          have hsp : as = none := by
            have := World.cell?_spot hv0
            simpa [Addr.add] using this
          subst hsp
          have hbs : ab < K.w.heap.size := by
            rw [Nat.zero_mul, addr_addN, addr_addN] at hv0
            unfold World.cell? at hv0
            cases ho : K.w.heap[ab]? with
            | none => simp only [ho] at hv0; cases hv0
            | some o => exact (Array.getElem?_eq_some_iff.1 ho).1
          have hat : K.at ab ao (ps.map (·.2)).flatten := by
            refine at_flat (w := P.cellsOf e) _ _ fun k c hk => ?_
            rw [List.getElem?_map, Option.map_eq_some_iff] at hk
            obtain ⟨q, hq, rfl⟩ := hk
            have hkl := (List.getElem?_eq_some_iff.1 hq).1
            have h2 := hps.get k k q (by rw [List.getElem?_range (by omega)]) hq
            obtain ⟨_, h3, h4⟩ := World.cells?_some h2.1
            refine ⟨h3, fun r v hr => ?_⟩
            have hrl := (List.getElem?_eq_some_iff.1 hr).1
            have := h4 r (by omega)
            rw [addr_addN, addr_addN, hr] at this
            rw [← Nat.add_assoc]; exact this
          have hvr : VRs P K (ps.map (·.1)).flatten (ps.map (·.2)).flatten :=
            VRs.flat ((all2_self (l := ps) (p := fun q q' => VRs P K q.1 q'.2) fun q hq => hps.right (q := fun q => VRs P K q.1 q.2) (fun _ _ h => h.2.1) q hq).map_both (f := fun q : List AV × List Value => q.1) (g := fun q : List AV × List Value => q.2) fun _ _ h => h)
          refine ⟨_, one _ _ (VR.isl (ps.map (·.1)).flatten (len + 1) ab ao cap _ hvr hat (hO ab) hbs hl), ?_, hp3.symm⟩
          unfold Shp
          rw [ht]
          refine .inr (.inr ⟨ps.map (·.1), fun h => ?_, by rw [show (ps.map (·.1)).length = len + 1 by rw [List.length_map, hpl]], fun l hl => ?_⟩)
          · have := congrArg List.length h
            rw [List.length_map, hpl] at this
            cases this
          · rw [List.mem_map] at hl
            obtain ⟨q, hq, rfl⟩ := hl
            exact hps.right (q := fun q => Shp P d e q.1 ∧ q.1.length = P.cellsOf e) (fun _ _ h => h.2.2) q hq
    · rename_i fs ht
      simp only [Bool.and_eq_true, List.all_eq_true] at hp
      obtain ⟨hp1, hp2⟩ := hp
      unfold DataW.trod at h
      rw [ht] at h
      simp only at h
      split at h
      · rename_i hlen
        rw [Option.map_eq_some_iff] at h
        obtain ⟨xs, hxs, _⟩ := h
        have hm := mapM_each hxs
        obtain ⟨hc1, hc2⟩ := struct_cells _ _ _ hp2 hlen
        have each : ∀ f ∈ fs.toList, ∃ l : List AV, VRs P K l ((cs.drop f.offset).take (P.cellsOf f.type)) ∧ Shp P d f.type l ∧ l.length = P.cellsOf f.type := by
          intro f hf
          obtain ⟨y, hy⟩ := hm f hf
          exact ih f.type (hp1 f hf) _ _ _ hy
        obtain ⟨ls, hls⟩ := pick_all each
        have hv : VRs P K ls.flatten cs := by
          have := VRs.flat ((hls.imp fun _ _ h => h.1).swap.map_both (q := VRs P K) (f := fun l => l) (g := fun f => (cs.drop f.offset).take (P.cellsOf f.type)) fun _ _ h => h)
          rw [List.map_id', hc1, List.drop_zero] at this
          exact this
        refine ⟨ls.flatten, hv, ?_, by rw [← hv.length]; exact hlen⟩
        unfold Shp
        rw [ht]
        exact ⟨ls, rfl, hls.imp fun _ _ h => h.2⟩
      · cases h
    · rename_i m e ht
      simp only [Bool.and_eq_true, decide_eq_true_eq] at hp
      obtain ⟨hp1, hp2⟩ := hp
      unfold DataW.trod at h
      rw [ht] at h
      simp only at h
      split at h
      · rename_i hlen
        rw [Option.map_eq_some_iff] at h
        obtain ⟨xs, hxs, _⟩ := h
        have hm := mapM_each hxs
        have each : ∀ i ∈ List.range m, ∃ l : List AV, VRs P K l ((cs.drop (i * P.cellsOf e)).take (P.cellsOf e)) ∧ Shp P d e l ∧ l.length = P.cellsOf e := by
          intro i hi
          obtain ⟨y, hy⟩ := hm i hi
          exact ih e hp1 _ _ _ hy
        obtain ⟨ls, hls⟩ := pick_all each
        have hll := hls.length
        rw [List.length_range] at hll
        have hv : VRs P K ls.flatten cs := by
          have := VRs.flat ((hls.imp fun _ _ h => h.1).swap.map_both (q := VRs P K) (f := fun l => l) (g := fun i => (cs.drop (i * P.cellsOf e)).take (P.cellsOf e)) fun _ _ h => h)
          have hp := pieces (cs := cs) (w := P.cellsOf e) m 0 (by rw [Nat.zero_add, hlen, hp2]; exact Nat.le_refl _)
          simp only [Nat.zero_add, Nat.zero_mul, List.drop_zero] at hp
          rw [List.map_id', hp, List.take_of_length_le (by rw [hlen, hp2]; exact Nat.le_refl _)] at this
          exact this
        refine ⟨ls.flatten, hv, ?_, by rw [← hv.length]; exact hlen⟩
        unfold Shp
        rw [ht]
        exact ⟨ls, rfl, hll, fun l hl => hls.right (q := fun l => Shp P d e l ∧ l.length = P.cellsOf e) (fun _ _ h => h.2) l hl⟩
      · cases h
    · cases hp
end
end Hx

/- An open law: what it is given reads as values of the machine; its run is the model's call. -/
namespace Hx
open Go

/-- a value of the type -/
def ShpV (P : Program) (d : Nat) (t : TypeId) (a : AV) : Prop := match P.underlying t with
  | some (.struct _) | some (.array _ _) => ∃ as, a = .agg as ∧ Shp P d t as
  | _ => Shp P d t [a]
theorem kmin (k : IntKind) {n : Int} (h : (Lit.int k n).wf = true) : k.min ≤ n ∧ n ≤ k.max := by
  simp only [Lit.wf, Bool.and_eq_true, decide_eq_true_eq] at h
  exact h

section
variable {H : Type} {enc : TypeId × Value → H} {P : Program} {base : Nat} {sp : Nat → Bool} {held : Bool} {K : Kx}
theorem param_vr (hO : ∀ b, ¬ K.O b) {D : Nat} {t : TypeId} {r : Reach} {b0 : Nat} {v : Value} {d : DataW H} {ps : List MemPlace} (hp : plainT P D t = true) (hval : Value.okWide P K.w r b0 t v) (hd : DataW.Trod enc P K.w base sp held t v d ps) : ∃ a, VR P K a v ∧ ShpV P D t a := by
  obtain ⟨fuel, hf⟩ := hd
  obtain ⟨as, h1, h2, h3⟩ := trod_vrs hO D t hp _ _ _ hf
  have hagg : ∀ cs : Array Value, v = .agg cs → VR P K (.agg as) v := by
    rintro cs rfl
    have := VR.agg (P := P) (K := K) as cs.toList h1
    rwa [Array.toArray_toList] at this
  have hone : v.cells.toList = [v] → ∃ a, VR P K a v ∧ as = [a] := by
    intro h
    rw [h] at h1
    cases h1 with
    | cons a _ l r ha hl => cases hl; exact ⟨a, ha, rfl⟩
  unfold ShpV
  cases D with
  | zero => cases hp
  | succ D =>
  unfold plainT at hp
  split at hp
  · rename_i ht
    obtain ⟨b, rfl⟩ := WideShapes.okWide_bool ht hval
    obtain ⟨a, ha, rfl⟩ := hone rfl
    exact ⟨a, ha, by rw [ht]; exact h2⟩
  · rename_i ht
    obtain ⟨b, rfl⟩ := WideShapes.okWide_int ht hval
    obtain ⟨a, ha, rfl⟩ := hone rfl
    exact ⟨a, ha, by rw [ht]; exact h2⟩
  · rename_i ht
    obtain ⟨x, y, z, rfl⟩ := WideShapes.okWide_slice ht hval
    obtain ⟨a, ha, rfl⟩ := hone rfl
    exact ⟨a, ha, by rw [ht]; exact h2⟩
  · rename_i ht
    simp only [Value.okWide, ht] at hval
    obtain ⟨cs, rfl, _⟩ := hval
    exact ⟨_, hagg cs rfl, by rw [ht]; exact ⟨_, rfl, h2⟩⟩
  · rename_i ht
    simp only [Value.okWide, ht] at hval
    obtain ⟨cs, rfl, _⟩ := hval
    exact ⟨_, hagg cs rfl, by rw [ht]; exact ⟨_, rfl, h2⟩⟩
  · cases hp
theorem args_vr (hO : ∀ b, ¬ K.O b) {D : Nat} {r : Reach} {b0 : Nat} : ∀ {ts : List TypeId} {vs : List Value} {ds : List (DataW H)} {ps : List MemPlace}, (∀ t ∈ ts, plainT P D t = true) → (∀ (j : Nat) t v, ts[j]? = some t → vs[j]? = some v → Value.okWide P K.w r b0 t v) → DataW.TrodAll enc P K.w base sp held ts vs ds ps →
    ∃ key, VRs P K key vs ∧ All2 (ShpV P D) ts key
  | [], [], [], _, _, _, _ => ⟨[], .nil, trivial⟩
  | t :: ts, v :: vs, d :: ds, _, hp, hv, ⟨p, q, h1, h2, _⟩ => by
    obtain ⟨a, h3, h4⟩ := param_vr hO (hp t List.mem_cons_self) (hv 0 t v rfl rfl) h1
    obtain ⟨key, h5, h6⟩ := args_vr hO (fun t ht => hp t (List.mem_cons_of_mem _ ht)) (fun j t v ht hv' => hv (j + 1) t v (by simpa using ht) (by simpa using hv')) h2
    exact ⟨a :: key, .cons _ _ _ _ h3 h5, h4, h6⟩
  | [], _ :: _, _, _, _, _, h => h.elim
  | [], [], _ :: _, _, _, _, h => h.elim
  | _ :: _, [], _, _, _, _, h => h.elim
  | _ :: _, _ :: _, [], _, _, _, h => h.elim
/-- what was given reads as it did -/
theorem law_args {W W' : World} (hl : laidOutB P = true) (hh : ∀ i : Nat, i < W.heap.size → W'.heap[i]? = W.heap[i]?) {sp' : Nat → Bool} : ∀ {ts : List TypeId} {vs : List Value} {ds : List (DataW H)} {ps : List MemPlace}, (∀ t ∈ ts, P.readableRec t = true ∧ t < P.types.size) →
    DataW.TrodAll enc P W 0 (fun _ => true) true ts vs ds ps → (∀ p ∈ ps, sp' p.block = true) → DataW.TrodAll enc P W' 0 sp' true ts vs ds ps
  | [], [], [], _, _, h, _ => h
  | t :: ts, v :: vs, d :: ds, _, ht, ⟨p, q, h1, h2, e⟩, hs => by
    refine ⟨p, q, ?_, law_args hl hh (fun t h => ht t (List.mem_cons_of_mem _ h)) h2 (fun x hx => hs x (by rw [e]; exact List.mem_append_right _ hx)), e⟩
    refine WideElems.Trod_stays hl (ht t List.mem_cons_self).1 (ht t List.mem_cons_self).2 h1 (fun x hx => ?_) (fun x hx => hs x (by rw [e]; exact List.mem_append_left _ hx))
    obtain ⟨n, hn⟩ := h1
    have hlt := DataW.trod_lt n _ _ _ hn x hx
    cases x with
    | cell b off =>
      show W'.cell? _ = W.cell? _
      unfold World.cell?
      rw [hh b hlt]
    | map b => exact hh b hlt
  | [], _ :: _, _, _, _, h, _ => h.elim
  | [], [], _ :: _, _, _, h, _ => h.elim
  | _ :: _, [], _, _, _, h, _ => h.elim
  | _ :: _, _ :: _, [], _, _, h, _ => h.elim
end

/-! The machine's run for great enough bounds is a run. -/
theorem memE_of {P : Program} {gl : Nat → Option (List AV)} {bd : Nat → Option BInfo} {f : Nat} {fn : Func} {C : Ctx} {t : Mem} (hf : P.funcs[f]? = some fn) (hb : fn.body.isSome = true) (hn : (fn.name != "runtime.NumGoroutine") = true) (hmix : P.follows .mixedOrders = true) (hgr : GlR gl) (hC : CtxOk (gxOf P bd) gl C) (ht : MemOk P gl t)
    {key : List AV} {v : AV} (hv : hasNoRef v = true) (hw : WV (fun L d => evM C L t d) (.fn (.func f) [] []) key emptyH (fun r _ => r = .val v)) : MemE P gl f key v := by
  obtain ⟨r, h', ⟨N, hN⟩, rfl⟩ := hw
  refine mem_of hf hb hn (evM_ok (L := N) hmix hgr hC ht N) hv ?_
  have h1 := hN N N (Nat.le_refl _) (Nat.le_refl _)
  show valOf (evM C N t N (.fn (.func f) [] []) key emptyH) = _
  rw [show evM C N t N (.fn (.func f) [] []) key emptyH = some (.val v, h') from h1]
  rfl
/-- .. of one that returns blocks of its own -/
theorem memE_ofF {P : Program} {gl : Nat → Option (List AV)} {bd : Nat → Option BInfo} {f : Nat} {fn : Func} {C : Ctx} {t : Mem} (hf : P.funcs[f]? = some fn) (hb : fn.body.isSome = true) (hn : (fn.name != "runtime.NumGoroutine") = true) (hmix : P.follows .mixedOrders = true) (hgr : GlR gl) (hC : CtxOk (gxOf P bd) gl C) (ht : MemOk P gl t)
    {key : List AV} {v : AV} (hw : WV (fun L d => evM C L t d) (.fn (.func f) [] []) key emptyH (fun r h' => ∃ v0, r = .val v0 ∧ samF h' 12 v v0 = true)) : MemE P gl f key v := by
  obtain ⟨r, h', ⟨N, hN⟩, v0, rfl, hs⟩ := hw
  refine mem_ofF hf hb hn (evM_ok (L := N) hmix hgr hC ht N) ?_
  have h1 := hN N N (Nat.le_refl _) (Nat.le_refl _)
  show frzOf (evM C N t N (.fn (.func f) [] []) key emptyH) v = true
  rw [show evM C N t N (.fn (.func f) [] []) key emptyH = some (.val v0, h') from h1]
  exact hs
/-- an open law's call -/
theorem memE_open {P : Program} {gl : Nat → Option (List AV)} {f : Nat} {key : List AV} (h : MemE P gl f key (.bool true)) {K : Kx} (hD : ∀ b, ¬ K.D b) (hO : ∀ b, ¬ K.O b) (hg : GlW gl K.w) {args : Array Value} (ha : VRs P K key args.toList) :
    Calls P f args K.w fun e w' => e = .returned (.bool true) ∧ RowKit.Grown K.w w' ∧ ∀ i : Nat, i < K.w.heap.size → w'.heap[i]? = K.w.heap[i]? := by
  obtain ⟨_, hc⟩ := h
  have := hc K args.toList hg hD hO ha
  rw [Array.toArray_toList] at this
  refine this.mono fun e w' ⟨⟨x, hx, hv⟩, h2, h3, h4⟩ => ?_
  cases hv
  exact ⟨hx, grown_of h2 h3 h4, h4⟩
/-- nothing is known of memory -/
def Kx.of (w : World) : Kx := { D := fun _ => False, bl := fun i => i, sh := fun _ => 0, O := fun _ => False, w := w }

/-! Shapes of lists of integers. -/
theorem shp_int {P : Program} {d : Nat} {t : TypeId} {k : IntKind} {a : AV} (ht : P.underlying t = some (.int k)) (h : ShpV P (d + 1) t a) : ∃ n, a = .int k n ∧ k.min ≤ n ∧ n ≤ k.max := by
  unfold ShpV at h
  rw [ht] at h
  simp only [Shp, ht] at h
  obtain ⟨n, h1, h2⟩ := h
  cases h1
  exact ⟨n, rfl, kmin k h2⟩
theorem shp_ints {P : Program} {d : Nat} {t e : TypeId} {k : IntKind} {a : AV} (ht : P.underlying t = some (.slice e)) (he : P.underlying e = some (.int k)) (h : Shp P (d + 2) t [a]) (hp : Heap) : ∃ l : List Int, Ints k hp e a l ∧ ∀ x ∈ l, k.min ≤ x ∧ x ≤ k.max := by
  simp only [Shp, ht, he] at h
  rcases h with h | h | ⟨ls, h0, h1, h2⟩
  · cases h; exact ⟨[], ⟨rfl, rfl⟩, fun x hx => by cases hx⟩
  · cases h; exact ⟨[], ⟨rfl, rfl⟩, fun x hx => by cases hx⟩
  · cases h1
    have key : ∀ ls : List (List AV), (∀ l ∈ ls, (∃ n, l = [.int k n] ∧ (Lit.int k n).wf = true) ∧ l.length = P.cellsOf e) → ∃ zs : List Int, ls.flatten = zs.map (.int k ·) ∧ zs.length = ls.length ∧ ∀ x ∈ zs, k.min ≤ x ∧ x ≤ k.max := by
      intro ls
      induction ls with
      | nil => intro _; exact ⟨[], rfl, rfl, fun x hx => by cases hx⟩
      | cons l ls ih =>
        intro h
        obtain ⟨zs, h3, h4, h5⟩ := ih fun x hx => h x (List.mem_cons_of_mem _ hx)
        obtain ⟨⟨n, rfl, hn⟩, _⟩ := h l List.mem_cons_self
        refine ⟨n :: zs, by rw [List.flatten_cons, h3]; rfl, by simp [h4], fun x hx => ?_⟩
        rcases List.mem_cons.1 hx with rfl | hx
        · exact kmin k hn
        · exact h5 x hx
    obtain ⟨zs, h3, h4, h5⟩ := key ls h2
    refine ⟨zs, ?_, h5⟩
    rw [h3, ← h4]
    exact ⟨rfl, by rw [Nat.mul_one, cut_mk (by simp), List.drop_zero, List.take_of_length_le (by simp)]⟩
theorem shpV_slice {P : Program} {d : Nat} {t e : TypeId} {a : AV} (ht : P.underlying t = some (.slice e)) (h : ShpV P d t a) : Shp P d t [a] := by
  unfold ShpV at h
  rw [ht] at h
  exact h
end Hx

