/- The machine (part 6). -/
import Derived.Test.YtpjkppnbnopmmaaGreatHx5
/- Regions that draw their order: the heap on the way. -/
namespace Hx
open Go

/-- in the head: mm: the place of the next call (or the head's end) -/
structure PhA (G : Gx) (ops : Array Oper) (perm : List Nat) (k : Nat) (T : List PS) (h0 : Heap) (K0 : Kx) (listed : Array Bool) (K : Kx) (mm : Nat) (ksl : List Nat) : Prop where
  mkk : mm ≤ k
  next : mm = k ∨ ∃ i, perm[mm]? = some i ∧ isCallOp (opAt ops.toList i).op = true ∧ ¬ Ls listed i
  calls : ∀ (p i : Nat), p < mm → perm[p]? = some i → isCallOp (opAt ops.toList i).op = true → Ls listed i
  front : ∀ (p i : Nat), mm ≤ p → perm[p]? = some i → Ls listed i → pureOp G.P (opAt ops.toList i).op = true
  mon : ∀ p q, p ≤ q → q ≤ mm → HMon (hdAt T h0 p) (hdAt T h0 q)
  kin : ∀ x, x ∈ ksl → ∃ (p i : Nat) (s : PS), p < mm ∧ perm[p]? = some i ∧ Ls listed i ∧ T[p]? = some s ∧ s.kill = some x
  kout : ∀ (p i : Nat) (s : PS) (x : Nat), p < k → perm[p]? = some i → Ls listed i → T[p]? = some s → s.kill = some x → x ∈ ksl
  hr : HR G K (hdAt T h0 mm) ksl
  tn : Tn (fun i => i ∈ ksl) h0 K0 K
  dom : ∀ x, K.D x → K0.D x ∨ ∃ (p i : Nat) (s : PS), p < mm ∧ perm[p]? = some i ∧ Ls listed i ∧ T[p]? = some s ∧ s.h.next ≤ x ∧ x < s.h'.next
/-- the operation at r, read at the place p in the heap H, gives what it gave -/
def FR (G : Gx) (V : Vn) (ops : Array Oper) (l : List Oper) (its : List IT) (T : List PS) (vs0 : List AV) (r : Nat) (o : Oper) (s : PS) (p : Nat) (H : Heap) : Prop :=
  r ≤ p ∧ p ≤ T.length ∧ (∀ (w : Nat) (oq : Oper) (t : Nat), r ≤ w → w < p → l[w]? = some oq → oq.dst = some t → Operand.tmp t ∉ o.op.operands.toList) ∧
    ∃ f, compOp G.P (compX V (dsAt l [] p)) o.op = some (.a f) ∧ f (stkAt T [] p) (vsAt its T vs0 p) H = some (s.v, H, none)
/-- behind the head -/
structure PhB (G : Gx) (V : Vn) (ops : Array Oper) (perm : List Nat) (k : Nat) (l : List Oper) (its : List IT) (T : List PS) (vs0 : List AV) (h0 : Heap) (K0 : Kx) (listed : Array Bool) (K : Kx) (q : Nat) : Prop where
  kq : k ≤ q
  qn : q ≤ T.length
  back : ∀ (p i : Nat), p < q → perm[p]? = some i → pureOp G.P (opAt ops.toList i).op = false → Ls listed i ∨ fltOp (opAt ops.toList i) = true
  front : ∀ (p i : Nat), q ≤ p → perm[p]? = some i → Ls listed i → pureOp G.P (opAt ops.toList i).op = true
  hr : HR G K (tlAt k T [] h0 q) []
  st : Stp K0 h0 K (tlAt k T [] h0 q)
  flt : ∀ (r i : Nat) (o : Oper) (s : PS), r < q → perm[r]? = some i → ops[i]? = some o → T[r]? = some s → ¬ Ls listed i → pureOp G.P o.op = false → ∃ p, FR G V ops l its T vs0 r o s p (tlAt k T [] h0 q)
def Phz (G : Gx) (V : Vn) (ops : Array Oper) (perm : List Nat) (k : Nat) (l : List Oper) (its : List IT) (T : List PS) (vs0 : List AV) (h0 : Heap) (K0 : Kx) (listed : Array Bool) (K : Kx) : Prop :=
  (∃ mm ksl, PhA G ops perm k T h0 K0 listed K mm ksl) ∨ ∃ q, PhB G V ops perm k l its T vs0 h0 K0 listed K q

theorem call_not_pure {P : Program} {o : Op} (h : isCallOp o = true) : pureOp P o = false := by
  cases o <;> simp only [isCallOp, Bool.false_eq_true] at h
  rename_i c
  obtain ⟨cal, args, ts⟩ := c
  cases cal <;> simp at h
  rfl
theorem call_jump {o : Op} (h : isCallOp o = true) : jumpOp o = true := by
  cases o <;> simp only [isCallOp, Bool.false_eq_true] at h
  rename_i c
  obtain ⟨cal, args, ts⟩ := c
  cases cal <;> simp at h
  rfl

section
variable {G : Gx} {V : Vn} {cf : CallFn} {ops : Array Oper} {b perm : List Nat} {k : Nat} {l : List Oper} {its : List IT} {T : List PS} {vs0 : List AV} {h0 : Heap} {ds : Defs} {fin : St} {m : Option Nat} {K0 : Kx} {a0 : Act}

theorem at_inj (R : Rgn G V cf ops b perm k l its T vs0 h0 ds fin m K0 a0) {p i : Nat} {o : Oper} {it : IT} {s : PS} (A : At G V cf ops b perm k l its T vs0 h0 ds p i o it s) {q : Nat} (hq : perm[q]? = some i) : q = p := perm_inj R hq A.pi

theorem at_h' {p i : Nat} {o : Oper} {it : IT} {s : PS} (A : At G V cf ops b perm k l its T vs0 h0 ds p i o it s) : hdAt T h0 (p + 1) = s.h' := hdAt_succ A.tp
theorem at_tl {p i : Nat} {o : Oper} {it : IT} {s : PS} (A : At G V cf ops b perm k l its T vs0 h0 ds p i o it s) (hp : k ≤ p) : tlAt k T [] h0 (p + 1) = s.h' := by
  unfold tlAt; rw [if_neg (by omega)]; exact at_h' A

/-- an operation that is no call, in the head -/
theorem at_plain {p i : Nat} {o : Oper} {it : IT} {s : PS} (A : At G V cf ops b perm k l its T vs0 h0 ds p i o it s) (hp : p < k) (hc : isCallOp o.op = false) (hon : s.on = true) : ∃ f, it.op = .a f ∧ f s.stk s.vs s.h = some (s.v, s.h', s.kill) := by
  obtain ⟨_, h2, _⟩ := A.hd hp
  have h3 := h2 hon
  unfold evAtom at h3
  split at h3
  · rename_i f hf; exact ⟨f, hf, h3⟩
  · rename_i f args hf
    exfalso
    have hco := A.co
    rw [hf] at hco
    have hco := (compOpB_some hco).resolve_right (fun e => by cases e)
    obtain ⟨c, x, e, e2, _⟩ := comp_call hco
    obtain ⟨cal, args, ts⟩ := c
    simp only at e2
    subst e2
    rw [e] at hc; cases hc
  · cases h3

theorem at_mon {p i : Nat} {o : Oper} {it : IT} {s : PS} (A : At G V cf ops b perm k l its T vs0 h0 ds p i o it s) (hp : p < k) (hc : isCallOp o.op = false) : HMon (hdAt T h0 p) (hdAt T h0 (p + 1)) := by
  rw [at_h' A, ← (A.hd hp).1]
  cases hon : s.on with
  | false => rw [(A.grd.2 hon).2.1]; exact HMon.refl _
  | true =>
    obtain ⟨f, hf, he⟩ := at_plain A hp hc hon
    have hco := A.co
    rw [hf] at hco
    have hco := (compOpB_some hco).resolve_right (fun e => by cases e)
    exact grows_mon (aop_grows hco _ _ _ _ _ _ he).1

theorem next_call (R : Rgn G V cf ops b perm k l its T vs0 h0 ds fin m K0 a0) : ∀ (d m1 : Nat), m1 + d = k → ∃ m', m1 ≤ m' ∧ m' ≤ k ∧ (m' = k ∨ ∃ i, perm[m']? = some i ∧ isCallOp (opAt ops.toList i).op = true) ∧
    (∀ (p i : Nat), m1 ≤ p → p < m' → perm[p]? = some i → isCallOp (opAt ops.toList i).op = false) ∧ ∀ p q, m1 ≤ p → p ≤ q → q ≤ m' → HMon (hdAt T h0 p) (hdAt T h0 q)
  | 0, m1, h => ⟨k, by omega, Nat.le_refl _, .inl rfl, fun p i h1 h2 => (by omega), fun p q h1 h2 h3 => (by
    have : p = q := by omega
    subst this; exact HMon.refl _)⟩
  | d + 1, m1, h => by
    have hl := R.lens
    obtain ⟨i, hi⟩ : ∃ i, perm[m1]? = some i := ⟨perm[m1]'(by omega), List.getElem?_eq_getElem _⟩
    obtain ⟨o, it, s, A⟩ := R.at hi (by omega)
    cases hc : isCallOp o.op with
    | true => exact ⟨m1, Nat.le_refl _, by omega, .inr ⟨i, hi, by rw [A.op]; exact hc⟩, fun p i h1 h2 => (by omega), fun p q h1 h2 h3 => (by
        have : p = q := by omega
        subst this; exact HMon.refl _)⟩
    | false =>
      obtain ⟨m', h1, h2, h3, h4, h5⟩ := next_call R d (m1 + 1) (by omega)
      refine ⟨m', by omega, h2, h3, fun p j h6 h7 hj => ?_, fun p q h6 h7 h8 => ?_⟩
      · by_cases hp : p = m1
        · subst hp; rw [hi] at hj; cases hj; rw [A.op]; exact hc
        · exact h4 p j (by omega) h7 hj
      · by_cases hq : p = q
        · subst hq; exact HMon.refl _
        · by_cases hp : p = m1
          · subst hp; exact (at_mon A (by omega) hc).trans (h5 _ q (Nat.le_refl _) (by omega) h8)
          · exact h5 p q (by omega) h7 h8

theorem HR.mon {K : Kx} {h h' : Heap} {ks : List Nat} (hr : HR G K h ks) (hm : HMon h h') : HR G K h' ks :=
  hr.agree (fun b hb => Nat.lt_of_lt_of_le (hr.lt b hb) hm.next) fun b hb => hm.same b (hr.lt b hb)

/-- where it begins -/
theorem ph_start (R : Rgn G V cf ops b perm k l its T vs0 h0 ds fin m K0 a0) : Phz G V ops perm k l its T vs0 h0 K0 (Array.replicate ops.size false) K0 := by
  have hno : ∀ i, ¬ Ls (Array.replicate ops.size false) i := fun i hi => by
    unfold Ls at hi
    rw [Array.getD_eq_getD_getElem?, Array.getElem?_replicate] at hi
    split at hi <;> cases hi
  obtain ⟨m', h1, h2, h3, h4, h5⟩ := next_call R k 0 (by omega)
  have e0 : hdAt T h0 0 = h0 := by cases T <;> rfl
  refine .inl ⟨m', [], h2, h3.imp id fun ⟨i, a, c⟩ => ⟨i, a, c, hno i⟩, fun p i hp hi hc => ?_, fun p i _ _ hl => absurd hl (hno i), fun p q hp hq => h5 p q (Nat.zero_le _) hp hq, fun x hx => (by cases hx), fun p i s x _ _ hl => absurd hl (hno i), ?_, Tn.refl _ _ _, fun x hx => .inl hx⟩
  · rw [h4 p i (Nat.zero_le _) hp hi] at hc; cases hc
  · have := h5 0 m' (Nat.le_refl _) h1 (Nat.le_refl _)
    rw [e0] at this
    exact R.hs.hr.mon this

/-- a pure operation leaves the heap alone -/
theorem pure_quiet {p i : Nat} {o : Oper} {it : IT} {s : PS} (A : At G V cf ops b perm k l its T vs0 h0 ds p i o it s) (hp : pureOp G.P o.op = true) : s.h' = s.h ∧ s.kill = none ∧ (s.on = true → ∃ f, it.op = .a f ∧ ∀ h2, f s.stk s.vs h2 = some (s.v, h2, none)) := by
  cases hon : s.on with
  | false => obtain ⟨_, h1, h2⟩ := A.grd.2 hon; exact ⟨h1, h2, fun h => by cases h⟩
  | true =>
    have hco := (compOpB_some A.co).resolve_right (fun e => by
      by_cases hk : p < k
      · have h3 := (A.hd hk).2.1 hon
        rw [e] at h3; cases h3
      · have h3 := ((A.tl (by omega)).2.2 hon).1
        rw [e] at h3; cases h3)
    obtain ⟨f, hf, hpf⟩ := pure_op hp hco
    by_cases hk : p < k
    · have h3 := (A.hd hk).2.1 hon
      rw [hf] at h3
      obtain ⟨h4, h5, h6⟩ := hpf _ _ _ _ _ _ (show f s.stk s.vs s.h = some (s.v, s.h', s.kill) from h3)
      exact ⟨h4, h5, fun _ => ⟨f, hf, h6⟩⟩
    · obtain ⟨hkl, h3⟩ := (A.tl (by omega)).2
      have h3 := (h3 hon).1
      rw [hf] at h3
      simp only [evStep, ob_some, Option.some.injEq] at h3
      obtain ⟨⟨v, h1, kl⟩, h4, h5⟩ := h3
      obtain ⟨h6, h7, h8⟩ := hpf _ _ _ _ _ _ h4
      subst h6 h7
      unfold aR at h5
      simp only [OR.val.injEq] at h5
      obtain ⟨rfl, h9, _⟩ := h5
      exact ⟨h9.symm, hkl, fun _ => ⟨f, hf, h8⟩⟩

theorem at_nobad {p i : Nat} {o : Oper} {it : IT} {s : PS} (A : At G V cf ops b perm k l its T vs0 h0 ds p i o it s) (hon : s.on = true) : compOp G.P (compX V (dsAt l [] p)) o.op = some it.op :=
  (compOpB_some A.co).resolve_right (fun e => by
    by_cases hk : p < k
    · have h3 := (A.hd hk).2.1 hon
      rw [e] at h3; cases h3
    · have h3 := ((A.tl (by omega)).2.2 hon).1
      rw [e] at h3; cases h3)
theorem flt_on {p i : Nat} {o : Oper} {it : IT} {s : PS} (A : At G V cf ops b perm k l its T vs0 h0 ds p i o it s) (hf : fltOp o = true) : s.on = true := by
  have hg := A.cg
  rw [flt_guard hf] at hg
  have hg' : it.grd = none := by simpa [compG] using hg.symm
  have := A.grd.1
  rw [hg'] at this
  have h2 : some true = some s.on := this
  simpa using h2.symm
/-- what is read -/
theorem read_quiet {p i : Nat} {o : Oper} {it : IT} {s : PS} (A : At G V cf ops b perm k l its T vs0 h0 ds p i o it s) (hf : fltOp o = true) :
    s.h' = s.h ∧ s.kill = none ∧ ∃ f, compOp G.P (compX V (dsAt l [] p)) o.op = some (.a f) ∧ f s.stk s.vs s.h = some (s.v, s.h, none) := by
  have hon := flt_on A hf
  have hco := at_nobad A hon
  obtain ⟨f, hop, hrd⟩ := read_op hf hco
  rw [hop] at hco
  by_cases hk : p < k
  · have h3 := (A.hd hk).2.1 hon
    rw [hop] at h3
    have h3 : f s.stk s.vs s.h = some (s.v, s.h', s.kill) := h3
    obtain ⟨h4, h5⟩ := hrd _ _ _ _ _ _ h3
    rw [h4, h5] at h3
    exact ⟨h4, h5, f, hco, h3⟩
  · obtain ⟨hkl, h3⟩ := (A.tl (by omega)).2
    have h3 := (h3 hon).1
    rw [hop] at h3
    simp only [evStep, ob_some, Option.some.injEq] at h3
    obtain ⟨⟨v, h1, kl⟩, h4, h5⟩ := h3
    obtain ⟨h6, h7⟩ := hrd _ _ _ _ _ _ h4
    subst h6 h7
    unfold aR at h5
    simp only [OR.val.injEq] at h5
    obtain ⟨rfl, h9, _⟩ := h5
    exact ⟨h9.symm, hkl, f, hco, h4⟩
/-- what leaves the heap alone -/
theorem any_quiet {p i : Nat} {o : Oper} {it : IT} {s : PS} (A : At G V cf ops b perm k l its T vs0 h0 ds p i o it s) (hp : pureOp G.P o.op = true ∨ fltOp o = true) : s.h' = s.h ∧ s.kill = none := by
  rcases hp with h | h
  · exact ⟨(pure_quiet A h).1, (pure_quiet A h).2.1⟩
  · exact ⟨(read_quiet A h).1, (read_quiet A h).2.1⟩
/-- read again -/
theorem fr_of (R : Rgn G V cf ops b perm k l its T vs0 h0 ds fin m K0 a0) {r i : Nat} {o : Oper} {it : IT} {s : PS} (A : At G V cf ops b perm k l its T vs0 h0 ds r i o it s) (hf : fltOp o = true) {p : Nat} (hrp : r < p) (hp : p ≤ T.length) {need : Nat → Bool} {cs : List (Nat × AF)} {H : Heap}
    (hc : flChk G.P V ops.toList (dsAt l [] p) need (perm.take p).reverse 0 = some cs) (hn : need i = true) (hk : chkOk cs (stkAt T [] p) (vsAt its T vs0 p) H = true) : FR G V ops l its T vs0 r o s p H := by
  have hl := R.lens
  have hj : (perm.take p).reverse[p - 1 - r]? = some i := by
    rw [List.getElem?_reverse (by rw [List.length_take]; omega), List.length_take, List.getElem?_take, if_pos (by omega)]
    have : min p perm.length - 1 - (p - 1 - r) = r := by omega
    rw [this]; exact A.pi
  obtain ⟨h1, f, h2, h3⟩ := flChk_get hc _ i hj (by rw [A.op]; exact hf) hn
  rw [A.op] at h1 h2
  rw [Nat.zero_add] at h1 h3
  obtain ⟨v, h', kl, h4, h5⟩ := chkOk_get hk h3
  obtain ⟨f', e, hrd⟩ := read_op hf h2
  cases e
  obtain ⟨h6, h7⟩ := hrd _ _ _ _ _ _ h4
  have hv : v = s.v := by
    rw [stkAt_get (by omega), List.append_nil, List.getElem?_reverse (by rw [List.length_map, List.length_take]; omega), List.length_map, List.length_take, List.getElem?_map, List.getElem?_take, if_pos (by omega)] at h5
    have : min p T.length - 1 - (p - 1 - r) = r := by omega
    rw [this, A.tp] at h5
    simpa using h5.symm
  subst h6 h7 hv
  refine ⟨by omega, hp, fun w oq t hw1 hw2 hlw hd hmem => ?_, f, h2, h4⟩
  refine noWr_get h1 hmem ?_
  unfold dsAt
  rw [List.append_nil]
  refine List.mem_of_getElem? (i := p - 1 - w) ?_
  rw [List.getElem?_take, if_pos (by omega), List.getElem?_reverse (by rw [List.length_map, List.length_take]; omega), List.length_map, List.length_take, List.getElem?_map, List.getElem?_take, if_pos (by omega)]
  have : min p l.length - 1 - (p - 1 - w) = w := by omega
  rw [this, hlw, ← hd]; rfl
/-- read at its own place -/
theorem fr_own (R : Rgn G V cf ops b perm k l its T vs0 h0 ds fin m K0 a0) {r i : Nat} {o : Oper} {it : IT} {s : PS} (A : At G V cf ops b perm k l its T vs0 h0 ds r i o it s) (hf : fltOp o = true) : FR G V ops l its T vs0 r o s r s.h := by
  have hl := R.lens
  have hlt := (List.getElem?_eq_some_iff.1 A.pi).1
  have hltT := (List.getElem?_eq_some_iff.1 A.tp).1
  obtain ⟨_, _, f, h1, h2⟩ := read_quiet A hf
  rw [A.stk, A.vs] at h2
  exact ⟨Nat.le_refl _, by omega, fun w oq t h1 h2 => by omega, f, h1, h2⟩

/-- from the head behind it -/
theorem ph_toB (R : Rgn G V cf ops b perm k l its T vs0 h0 ds fin m K0 a0) {listed : Array Bool} {K : Kx} {mm : Nat} {ksl : List Nat} (Z : PhA G ops perm k T h0 K0 listed K mm ksl) (hall : ∀ (p i : Nat), p < k → perm[p]? = some i → pureOp G.P (opAt ops.toList i).op = false → Ls listed i ∨ (fltOp (opAt ops.toList i) = true ∧ looseAt G.P ops.toList b i (perm.drop k) = true)) :
    ∃ K1 : Kx, K1.w = K.w ∧ Kle K K1 ∧ PhB G V ops perm k l its T vs0 h0 K0 listed K1 k := by
  have hl := R.lens
  have hmk : mm = k := by
    rcases Z.next with h | ⟨i, h1, h2, h3⟩
    · exact h
    · by_cases hlt : mm < k
      · rcases hall mm i hlt h1 (call_not_pure h2) with h4 | ⟨h4, _⟩
        · exact absurd h4 h3
        · rw [(flt_call h4).1] at h2; cases h2
      · have := Z.mkk; omega
  subst hmk
  have e0 : hdAt T h0 0 = h0 := by cases T <;> rfl
  have hmon : HMon h0 (hdAt T h0 mm) := by have := Z.mon 0 _ (Nat.zero_le _) (Nat.le_refl _); rwa [e0] at this
  have hmem : ∀ x, x ∈ ksl ↔ x ∈ ksAt T [] mm := fun x => by
    rw [ksAt_mem]
    constructor
    · intro h
      obtain ⟨p, i, s, h1, h2, h3, h4, h5⟩ := Z.kin x h
      exact .inr ⟨p, s, h1, h4, h5⟩
    · rintro (h | ⟨p, s, h1, h2, h3⟩)
      · cases h
      · obtain ⟨i, hi⟩ : ∃ i, perm[p]? = some i := ⟨perm[p]'(by omega), List.getElem?_eq_getElem _⟩
        obtain ⟨o, it, s', A⟩ := R.at hi (by omega)
        have e := A.tp; rw [h2] at e; cases e
        refine Z.kout p i s x h1 hi ?_ h2 h3
        have hnq : ∀ hq : pureOp G.P o.op = true ∨ fltOp o = true, False := fun hq => by
          have := (any_quiet A hq).2
          rw [h3] at this; cases this
        rcases hall p i h1 hi (by
          rw [A.op]
          cases hp : pureOp G.P o.op with
          | false => rfl
          | true => exact (hnq (.inl hp)).elim) with h4 | ⟨h4, _⟩
        · exact h4
        · rw [A.op] at h4; exact (hnq (.inr h4)).elim
  obtain ⟨h6, h7⟩ := Z.hr.kills
  have etl : tlAt mm T [] h0 mm = (hdAt T h0 mm).kills (ksAt T [] mm) := by unfold tlAt; rw [if_pos rfl]
  have hr1 : HR G (K.end_ G ((hdAt T h0 mm).kills ksl)) (tlAt mm T [] h0 mm) [] := by
    rw [etl]
    refine h6.agree (fun b hb => ?_) fun b hb => ?_
    · have := h6.lt b hb
      rw [Heap.next_kills] at this ⊢; exact this
    · rw [Heap.get_kills, Heap.get_kills]
      by_cases hb : b ∈ ksl
      · rw [if_pos hb, if_pos ((hmem b).1 hb)]
      · rw [if_neg hb, if_neg (fun h => hb ((hmem b).2 h))]
  refine ⟨K.end_ G ((hdAt T h0 mm).kills ksl), rfl, h7.le, Nat.le_refl _, by omega, fun p i h1 h2 h3 => (hall p i h1 h2 h3).imp id (·.1), Z.front, hr1, ⟨?_, ?_, ?_, fun x hx => ?_⟩, fun r i o s hr hpi hoi hts hnl hpu => ?_⟩
  rotate_left 4
  · obtain ⟨o', it, s', A⟩ := R.at hpi (by omega)
    have e1 := A.oi; rw [hoi] at e1; cases e1
    have e2 := A.tp; rw [hts] at e2; cases e2
    obtain ⟨cs, g1, g2⟩ := R.trg.2.2.1
    rcases hall r i hr hpi (by rw [A.op]; exact hpu) with h8 | ⟨h8, h9⟩
    · exact absurd h8 hnl
    · exact ⟨mm, fr_of R A (by rw [A.op] at h8; exact h8) hr (by omega) g1 h9 g2⟩
  · refine (Z.tn.mono fun i hi => ?_).trans (h7.mono fun i hi => hi.elim) fun i hi => ?_
    · show (tlAt mm T [] h0 mm).low ≤ i
      rw [etl]
      exact (Heap.low_kills _ _).2 i ((hmem i).1 hi)
    · rw [hmon.same i (R.hs.hr.lt i hi)]
      exact ⟨fun _ h => h, fun h => h⟩
  · rw [etl]; exact hmon.ext.trans (kills_ext _ _)
  · intro hw; rw [etl]; exact kills_wf _ (hmon.wf hw)
  · refine (Z.dom x hx).imp id fun ⟨p, i, s, h1, h2, h3, h4, h5, h6⟩ => ?_
    obtain ⟨o, it, s', A⟩ := R.at h2 (by omega)
    have e := A.tp; rw [h4] at e; cases e
    have h8 := (Z.mon 0 p (Nat.zero_le _) (by omega)).next
    rw [e0, ← (A.hd (by omega)).1] at h8
    omega

/-- the heap stays where operations are pure -/
theorem tl_same (R : Rgn G V cf ops b perm k l its T vs0 h0 ds fin m K0 a0) {q : Nat} (hk : k ≤ q) : ∀ (p : Nat), q ≤ p → p ≤ T.length → (∀ (p' i : Nat), q ≤ p' → p' < p → perm[p']? = some i → pureOp G.P (opAt ops.toList i).op = true ∨ fltOp (opAt ops.toList i) = true) → tlAt k T [] h0 p = tlAt k T [] h0 q
  | 0, h1, _, _ => by have : q = 0 := by omega
                      subst this; rfl
  | p + 1, h1, h2, h3 => by
    by_cases he : q = p + 1
    · subst he; rfl
    · have hl := R.lens
      obtain ⟨i, hi⟩ : ∃ i, perm[p]? = some i := ⟨perm[p]'(by omega), List.getElem?_eq_getElem _⟩
      obtain ⟨o, it, s, A⟩ := R.at hi (by omega)
      rw [at_tl A (by omega), (any_quiet A (by have := h3 p i (by omega) (by omega) hi; rwa [A.op] at this)).1, (A.tl (by omega)).1]
      exact tl_same R hk p (by omega) (by omega) fun p' j h4 h5 hj => h3 p' j h4 (by omega) hj

/-- before an operation behind the head that is not pure -/
theorem to_tail (R : Rgn G V cf ops b perm k l its T vs0 h0 ds fin m K0 a0) {listed : Array Bool} {K : Kx} (Z : Phz G V ops perm k l its T vs0 h0 K0 listed K) {p i : Nat} {o : Oper} {it : IT} (A : At0 G V ops b perm k l its p i o it) (hpT : p ≤ T.length)
    (hk : k ≤ p) (hp : pureOp G.P o.op = false) (hlate : ∀ q, PhB G V ops perm k l its T vs0 h0 K0 listed K q → q ≤ p) (hrd : ∀ j, (bAt b i).testBit j = true → Ls listed j) : ∃ K1 : Kx, K1.w = K.w ∧ Kle K K1 ∧ PhB G V ops perm k l its T vs0 h0 K0 listed K1 p := by
  have hl := R.lens
  have hlt := (List.getElem?_eq_some_iff.1 A.pi).1
  have hbef : ∀ (q j : Nat), q < p → perm[q]? = some j → pureOp G.P (opAt ops.toList j).op = false → Ls listed j ∨ (fltOp (opAt ops.toList j) = true ∧ looseAt G.P ops.toList b j (perm.drop k) = true) := fun q j hq hj hpj => by
    rcases A.pos.tail hk with h | h
    · rw [A.op, hp] at h; cases h
    · cases hbit : (bAt b i).testBit j with
      | true => exact .inl (hrd j hbit)
      | false =>
        refine .inr ⟨(h q j hq hj hpj).resolve_left (by rw [hbit]; simp), ?_⟩
        cases hlo : looseAt G.P ops.toList b j (perm.drop k) with
        | true => rfl
        | false =>
          have hkp : k + (p - k) = p := by omega
          have hmi : (perm.drop k)[p - k]? = some i := by rw [List.getElem?_drop, hkp]; exact A.pi
          have := looseAt_not hlo i (List.mem_of_getElem? hmi) (by rw [A.op]; exact hp)
          rw [hbit] at this; cases this
  have fromB : ∀ {K1 : Kx} {q : Nat}, q ≤ p → PhB G V ops perm k l its T vs0 h0 K0 listed K1 q → PhB G V ops perm k l its T vs0 h0 K0 listed K1 p := by
    intro K1 q hqp Z
    have e : ∀ p1, q ≤ p1 → p1 ≤ p → tlAt k T [] h0 p1 = tlAt k T [] h0 q := fun p1 hp1 hp2 => tl_same R Z.kq p1 hp1 (by omega) fun p' j h1 h2 hj => by
      cases hpj : pureOp G.P (opAt ops.toList j).op with
      | true => exact .inl rfl
      | false =>
        rcases hbef p' j (by omega) hj hpj with h3 | h3
        · have := Z.front p' j h1 hj h3
          rw [hpj] at this; cases this
        · exact .inr h3.1
    have ep := e p hqp (Nat.le_refl _)
    refine ⟨hk, by omega, fun q j h1 h2 h3 => (hbef q j h1 h2 h3).imp id (·.1), fun p' j h1 hj hlj => Z.front p' j (by omega) hj hlj, by rw [ep]; exact Z.hr, by rw [ep]; exact Z.st, fun r j o' s' hr hpj hoj hts hnl hpu => ?_⟩
    rw [ep]
    by_cases hrq : r < q
    · exact Z.flt r j o' s' hrq hpj hoj hts hnl hpu
    · obtain ⟨o2, it2, s2, A2⟩ := R.at hpj (by omega)
      have e1 := A2.oi; rw [hoj] at e1; cases e1
      have e2 := A2.tp; rw [hts] at e2; cases e2
      rcases hbef r j hr hpj (by rw [A2.op]; exact hpu) with h3 | h3
      · exact absurd h3 hnl
      · have := fr_own R A2 (by have := h3.1; rwa [A2.op] at this)
        have hkr : k ≤ r := by have := Z.kq; omega
        rw [(A2.tl hkr).1, e r (by omega) (by omega)] at this
        exact ⟨r, this⟩
  rcases Z with ⟨mm, ksl, Z⟩ | ⟨q, Z⟩
  · obtain ⟨K1, h1, h2, h3⟩ := ph_toB R Z fun q j hq hj hpj => hbef q j (by omega) hj hpj
    exact ⟨K1, h1, h2, fromB hk h3⟩
  · exact ⟨K, rfl, Kle.refl K, fromB (hlate q Z) Z⟩

theorem phb_step (R : Rgn G V cf ops b perm k l its T vs0 h0 ds fin m K0 a0) {listed : Array Bool} (hlz : listed.size = ops.size) {K K' : Kx} {p i : Nat} {o : Oper} {it : IT} {s : PS} (A : At G V cf ops b perm k l its T vs0 h0 ds p i o it s) (hpu : pureOp G.P o.op = false) (hrd : ∀ j, (bAt b i).testBit j = true → Ls listed j) (Z : PhB G V ops perm k l its T vs0 h0 K0 listed K p)
    (hr : HR G K' s.h' []) (st : Stp K s.h K' s.h') : PhB G V ops perm k l its T vs0 h0 K0 (listed.setIfInBounds i true) K' (p + 1) := by
  have hl := R.lens
  have hil : i < ops.size := (Array.getElem?_eq_some_iff.1 A.oi).1
  have hlt := (List.getElem?_eq_some_iff.1 A.pi).1
  have hltT := (List.getElem?_eq_some_iff.1 A.tp).1
  refine ⟨by have := Z.kq; omega, by omega, fun q j hq hj hpj => ?_, fun q j hq hj hlj => ?_, by rw [at_tl A Z.kq]; exact hr, ?_, fun r j o' s' hr' hpj hoj hts hnl hpu' => ?_⟩
  · by_cases h : q = p
    · subst h; rw [A.pi] at hj; cases hj; exact .inl ((ls_set (by omega)).2 (.inl rfl))
    · exact (Z.back q j (by omega) hj hpj).imp (fun h => (ls_set (by omega)).2 (.inr h)) id
  · rw [ls_set (by omega)] at hlj
    rcases hlj with rfl | hlj
    · have := at_inj R A hj; omega
    · exact Z.front q j (by omega) hj hlj
  · rw [at_tl A Z.kq]
    have h1 := Z.st
    rw [← (A.tl Z.kq).1] at h1
    exact h1.trans R.hs.hr st
  · rw [ls_set (by omega)] at hnl
    have hnl' : ¬ Ls listed j := fun h => hnl (.inr h)
    have hrp : r < p := by
      apply Classical.byContradiction
      intro hn
      have : r = p := by omega
      subst this
      rw [A.pi] at hpj; cases hpj
      exact hnl (.inl rfl)
    have hold := Z.flt r j o' s' hrp hpj hoj hts hnl' hpu'
    rw [at_tl A Z.kq]
    have hsame : s.h' = s.h → ∃ p, FR G V ops l its T vs0 r o' s' p s.h' := fun hh => by rw [hh, (A.tl Z.kq).1]; exact hold
    cases hfl : fltOp o with
    | true => exact hsame (read_quiet A hfl).1
    | false =>
      cases hon : s.on with
      | false => exact hsame (A.grd.2 hon).2.1
      | true =>
        obtain ⟨o2, it2, s2, A2⟩ := R.at hpj (by omega)
        have e1 := A2.oi; rw [hoj] at e1; cases e1
        have e2 := A2.tp; rw [hts] at e2; cases e2
        have hf : fltOp o' = true := by
          rcases Z.back r j hrp hpj (by rw [A2.op]; exact hpu') with h | h
          · exact absurd h hnl'
          · rwa [A2.op] at h
        have hck := (((A.tl Z.kq).2.2) hon).2
        rw [A.stk, A.vs] at hck
        refine ⟨p, fr_of R A2 hf hrp (by omega) (A.ck Z.kq hpu hfl) ?_ hck⟩
        cases hbit : (bAt b i).testBit j with
        | true => exact absurd (hrd j hbit) hnl'
        | false => rfl

/-- in the head, at a call -/
theorem pha_call (R : Rgn G V cf ops b perm k l its T vs0 h0 ds fin m K0 a0) {listed : Array Bool} (hlz : listed.size = ops.size) {K K' : Kx} {mm i : Nat} {o : Oper} {it : IT} {s : PS} {ksl : List Nat} (A : At G V cf ops b perm k l its T vs0 h0 ds mm i o it s) (hmk : mm < k)
    (Z : PhA G ops perm k T h0 K0 listed K mm ksl) (hkl : s.kill = none) (hm : HMon s.h s.h') (hr : HR G K' s.h' ksl) (tn : Tn (fun i => i ∈ ksl) s.h K K') (hd : ∀ x, K'.D x → K.D x ∨ (s.h.next ≤ x ∧ x < s.h'.next)) :
    Phz G V ops perm k l its T vs0 h0 K0 (listed.setIfInBounds i true) K' := by
  have hl := R.lens
  have hil : i < ops.size := (Array.getElem?_eq_some_iff.1 A.oi).1
  obtain ⟨m', h1, h2, h3, h4, h5⟩ := next_call R (k - (mm + 1)) (mm + 1) (by omega)
  have hmon : HMon (hdAt T h0 mm) (hdAt T h0 m') := by
    have := h5 (mm + 1) m' (Nat.le_refl _) h1 (Nat.le_refl _)
    rw [at_h' A] at this
    rw [← (A.hd hmk).1]
    exact hm.trans this
  have e0 : hdAt T h0 0 = h0 := by cases T <;> rfl
  have hmon0 : HMon h0 (hdAt T h0 mm) := by have := Z.mon 0 _ (Nat.zero_le _) (Nat.le_refl _); rwa [e0] at this
  refine .inl ⟨m', ksl, h2, ?_, fun p j hp hj hc => ?_, fun p j hp hj hlj => ?_, fun p q hpq hq => ?_, fun x hx => ?_, fun p j s' x hp hj hlj ht hx => ?_, ?_, ?_, fun x hx => ?_⟩
  · refine h3.imp id fun ⟨j, hj, hc⟩ => ⟨j, hj, hc, fun hlj => ?_⟩
    rw [ls_set (by omega)] at hlj
    rcases hlj with rfl | hlj
    · have := at_inj R A hj; omega
    · have := Z.front m' j (by omega) hj hlj
      rw [call_not_pure hc] at this; cases this
  · rw [ls_set (by omega)]
    by_cases hpm : p < mm
    · exact .inr (Z.calls p j hpm hj hc)
    · by_cases he : p = mm
      · subst he; rw [A.pi] at hj; cases hj; exact .inl rfl
      · rw [h4 p j (by omega) hp hj] at hc; cases hc
  · rw [ls_set (by omega)] at hlj
    rcases hlj with rfl | hlj
    · have := at_inj R A hj; omega
    · exact Z.front p j (by omega) hj hlj
  · by_cases hqm : q ≤ mm
    · exact Z.mon p q hpq hqm
    · by_cases hpm : p ≤ mm
      · have h6 := h5 (mm + 1) q (Nat.le_refl _) (by omega) hq
        rw [at_h' A] at h6
        rw [(A.hd hmk).1] at hm
        exact (Z.mon p mm hpm (Nat.le_refl _)).trans (hm.trans h6)
      · exact h5 p q (by omega) hpq hq
  · obtain ⟨p, j, s', g1, g2, g3, g4⟩ := Z.kin x hx
    exact ⟨p, j, s', by omega, g2, (ls_set (by omega)).2 (.inr g3), g4⟩
  · rw [ls_set (by omega)] at hlj
    rcases hlj with rfl | hlj
    · have := at_inj R A hj
      subst this
      have e := A.tp; rw [ht] at e; cases e
      rw [hkl] at hx; cases hx
    · exact Z.kout p j s' x hp hj hlj ht hx
  · have h6 := h5 (mm + 1) m' (Nat.le_refl _) h1 (Nat.le_refl _)
    rw [at_h' A] at h6
    exact hr.mon h6
  · rw [(A.hd hmk).1] at tn
    refine Z.tn.trans tn fun j hj => ?_
    rw [hmon0.same j (R.hs.hr.lt j hj)]
    exact ⟨fun _ h => h, fun h => h⟩
  · rcases hd x hx with h | h
    · refine (Z.dom x h).imp id fun ⟨p, j, s', g1, g2, g3, g4⟩ => ⟨p, j, s', by omega, g2, (ls_set (by omega)).2 (.inr g3), g4⟩
    · exact .inr ⟨mm, i, s, by omega, A.pi, (ls_set (by omega)).2 (.inl rfl), A.tp, h⟩

/-- in the head, an operation that is no call; or a pure one anywhere -/
theorem pha_step (R : Rgn G V cf ops b perm k l its T vs0 h0 ds fin m K0 a0) {listed : Array Bool} (hlz : listed.size = ops.size) {K K' : Kx} {mm p i : Nat} {o : Oper} {it : IT} {s : PS} {ksl : List Nat} (A : At G V cf ops b perm k l its T vs0 h0 ds p i o it s)
    (Z : PhA G ops perm k T h0 K0 listed K mm ksl) (hpm : p < mm ∨ (mm ≤ p ∧ pureOp G.P o.op = true)) (hr : HR G K' (hdAt T h0 mm) (s.kill.toList ++ ksl)) (tn : Tn (fun i => i ∈ s.kill.toList ++ ksl) (hdAt T h0 mm) K K')
    (hd : ∀ x, K'.D x → K.D x ∨ (p < mm ∧ s.h.next ≤ x ∧ x < s.h'.next)) : PhA G ops perm k T h0 K0 (listed.setIfInBounds i true) K' mm (s.kill.toList ++ ksl) := by
  have hl := R.lens
  have hil : i < ops.size := (Array.getElem?_eq_some_iff.1 A.oi).1
  have e0 : hdAt T h0 0 = h0 := by cases T <;> rfl
  have hmon0 : HMon h0 (hdAt T h0 mm) := by have := Z.mon 0 _ (Nat.zero_le _) (Nat.le_refl _); rwa [e0] at this
  refine ⟨Z.mkk, ?_, fun q j hq hj hc => (ls_set (by omega)).2 (.inr (Z.calls q j hq hj hc)), fun q j hq hj hlj => ?_, Z.mon, fun x hx => ?_, fun q j s' x hq hj hlj ht hx => ?_, hr, ?_, fun x hx => ?_⟩
  · refine Z.next.imp id fun ⟨j, hj, hc, hlj⟩ => ⟨j, hj, hc, fun hlj' => ?_⟩
    rw [ls_set (by omega)] at hlj'
    rcases hlj' with rfl | hlj'
    · have := at_inj R A hj
      subst this
      rcases hpm with h | ⟨_, h⟩
      · omega
      · rw [A.op] at hc; rw [call_not_pure hc] at h; cases h
    · exact hlj hlj'
  · rw [ls_set (by omega)] at hlj
    rcases hlj with rfl | hlj
    · have := at_inj R A hj
      subst this
      rcases hpm with h | ⟨_, h⟩
      · omega
      · rw [A.op]; exact h
    · exact Z.front q j hq hj hlj
  · rcases List.mem_append.1 hx with hx | hx
    · refine ⟨p, i, s, ?_, A.pi, (ls_set (by omega)).2 (.inl rfl), A.tp, by simpa using hx⟩
      rcases hpm with h | ⟨_, h⟩
      · exact h
      · rw [(pure_quiet A h).2.1] at hx; cases hx
    · obtain ⟨q, j, s', g1, g2, g3, g4⟩ := Z.kin x hx
      exact ⟨q, j, s', g1, g2, (ls_set (by omega)).2 (.inr g3), g4⟩
  · rw [ls_set (by omega)] at hlj
    rcases hlj with rfl | hlj
    · have := at_inj R A hj
      subst this
      have e := A.tp; rw [ht] at e; cases e
      exact List.mem_append.2 (.inl (by simp [hx]))
    · exact List.mem_append.2 (.inr (Z.kout q j s' x hq hj hlj ht hx))
  · refine (Z.tn.mono fun j hj => List.mem_append.2 (.inr hj)).trans tn fun j hj => ?_
    rw [hmon0.same j (R.hs.hr.lt j hj)]
    exact ⟨fun _ h => h, fun h => h⟩
  · rcases hd x hx with h | ⟨h1, h⟩
    · refine (Z.dom x h).imp id fun ⟨q, j, s', g1, g2, g3, g4⟩ => ⟨q, j, s', g1, g2, (ls_set (by omega)).2 (.inr g3), g4⟩
    · exact .inr ⟨p, i, s, h1, A.pi, (ls_set (by omega)).2 (.inl rfl), A.tp, h⟩

/-- a pure operation behind the head, or what is read late -/
theorem phb_pure (R : Rgn G V cf ops b perm k l its T vs0 h0 ds fin m K0 a0) {listed : Array Bool} (hlz : listed.size = ops.size) {K K' : Kx} {q p i : Nat} {o : Oper} {it : IT} {s : PS} (A : At G V cf ops b perm k l its T vs0 h0 ds p i o it s) (Z : PhB G V ops perm k l its T vs0 h0 K0 listed K q)
    (hp : pureOp G.P o.op = true ∨ p < q) (hr : HR G K' (tlAt k T [] h0 q) []) (tn : Tn (fun i => i ∈ ([] : List Nat)) (tlAt k T [] h0 q) K K') (hD : ∀ x, K'.D x → K.D x) : PhB G V ops perm k l its T vs0 h0 K0 (listed.setIfInBounds i true) K' q := by
  have hil : i < ops.size := (Array.getElem?_eq_some_iff.1 A.oi).1
  refine ⟨Z.kq, Z.qn, fun q' j hq hj hpj => (Z.back q' j hq hj hpj).imp (fun h => (ls_set (by omega)).2 (.inr h)) id, fun q' j hq hj hlj => ?_, hr, Z.st.trans R.hs.hr ⟨tn.mono fun i hi => (by cases hi), HExt.refl _, fun h => h, fun x hx => .inl (hD x hx)⟩,
    fun r j o' s' h1 h2 h3 h4 h5 h6 => Z.flt r j o' s' h1 h2 h3 h4 (fun h => h5 ((ls_set (by omega)).2 (.inr h))) h6⟩
  rw [ls_set (by omega)] at hlj
  rcases hlj with rfl | hlj
  · rcases hp with hp | hp
    · rw [A.op]; exact hp
    · have := at_inj R A hj; omega
  · exact Z.front q' j hq hj hlj

end
end Hx

/- Regions that draw their order: the simulation. -/
namespace Hx
open Go

section
variable {G : Gx} {V : Vn} {cf : CallFn} {ops : Array Oper} {b perm : List Nat} {k : Nat} {l : List Oper} {its : List IT} {T : List PS} {vs0 : List AV} {h0 : Heap} {ds : Defs} {fin : St} {m : Option Nat} {K0 : Kx} {a0 : Act} {F : Fence} {n : Nat} {Q : Exit → Act → World → Prop}

theorem comp_defer {P : Program} {co : CoF} {o : Op} {x : OpK} (_hc : compOp P co o = some x) (hd : isDfr o = false) : ∀ c, o ≠ .defer c := fun c e => by rw [e] at hd; cases hd

/-- a call that returns -/
theorem call_wp {K : Kx} {h : Heap} {N : Prop} (hF : plainF F) {a : Act} {o : Oper} {c : Call} {x : Operand} {v : AV} {h1 : Heap} {next : Act → World → Prop} (ho : o.op = .call c) (hcal : c.callee = .value x)
    (h2 : CallN G K h N (.val v, h1) ((do let d ← Deferred.ofValue (a.eval x) (c.args.toList.map a.eval).toArray; invoke d.target d.args : Sem Next).run G.P K.w))
    (hnext : ∀ K' y, HR G K' h1 [] → Stp K h K' h1 → VR G.P K' v y → next (a.put o.dst y) K'.w) : o.wpIn F n G.P a K.w next Q := by
  refine ⟨fun f _ => (plainF_fn hF).1 f, ?_⟩
  rw [Oper.semAt_eq _ _ _ (fun c' hc' => by rw [ho] at hc'; cases hc')]
  have e : (execOp a.eval o).run G.P K.w = (do let d ← Deferred.ofValue (a.eval x) (c.args.toList.map a.eval).toArray; invoke d.target d.args : Sem Next).run G.P K.w := by
    have : (c.args.toList.map a.eval).toArray = c.args.map a.eval := by apply Array.ext'; simp
    rw [this]
    simp [execOp, ho, resolve, hcal]
  rw [e]
  have ret : ∀ e w', RetR G K h (.val v, h1) e w' → (match e, w' with
      | .returned v, w'' => next (a.put o.dst v) w''
      | .panicked chain, w'' => Q (.panic chain) a w''
      | .outgrown, _ => LetsOut Q) := by
    rintro e w' ⟨K', rfl, h3, h4, h5⟩
    cases e with
    | returned y => exact hnext K' y h3 h4 h5
    | panicked ch => exact h5.elim
    | outgrown => exact h5.elim
  generalize (do let d ← Deferred.ofValue (a.eval x) (c.args.toList.map a.eval).toArray; invoke d.target d.args : Sem Next).run G.P K.w = res at h2 ⊢
  cases res with
  | halt hh w' => exact h2.elim
  | ok nx w' =>
    cases nx with
    | value y => exact ret (.returned y) w' h2.2
    | enter f' args' =>
      refine ⟨fun hd => (by rw [(plainF_fn hF).2] at hd; cases hd), (h2 F _ hF).mono fun e w'' he => ?_⟩
      have := ret e w'' he
      cases e <;> exact this
    | round l f' tmps as' b =>
      refine ⟨fun hd => (by rw [(plainF_fn hF).2] at hd; cases hd), (h2.2 F _ hF).mono fun e w'' he => ?_⟩
      have := ret e w'' he
      cases e <;> exact this
    | _ => exact h2.elim

/-- a call that panics -/
theorem call_pan {K : Kx} {h : Heap} {N : Prop} (hF : plainF F) {a : Act} {o : Oper} {c : Call} {x : Operand} {v : AV} {h1 : Heap} {next : Act → World → Prop} (ho : o.op = .call c) (hcal : c.callee = .value x)
    (h2 : CallN G K h N (.pan v, h1) ((do let d ← Deferred.ofValue (a.eval x) (c.args.toList.map a.eval).toArray; invoke d.target d.args : Sem Next).run G.P K.w))
    (hpan : ∀ K' y, HR G K' h1 [] → Stp K h K' h1 → VR G.P K' v y → Q (.panic [{ v := y, recovered := false }]) a K'.w) : o.wpIn F n G.P a K.w next Q := by
  refine ⟨fun f _ => (plainF_fn hF).1 f, ?_⟩
  rw [Oper.semAt_eq _ _ _ (fun c' hc' => by rw [ho] at hc'; cases hc')]
  have e : (execOp a.eval o).run G.P K.w = (do let d ← Deferred.ofValue (a.eval x) (c.args.toList.map a.eval).toArray; invoke d.target d.args : Sem Next).run G.P K.w := by
    have : (c.args.toList.map a.eval).toArray = c.args.map a.eval := by apply Array.ext'; simp
    rw [this]
    simp [execOp, ho, resolve, hcal]
  rw [e]
  have ret : ∀ e w', RetR G K h (.pan v, h1) e w' → (match e, w' with
      | .returned v, w'' => next (a.put o.dst v) w''
      | .panicked chain, w'' => Q (.panic chain) a w''
      | .outgrown, _ => LetsOut Q) := by
    rintro e w' ⟨K', rfl, h3, h4, h5⟩
    cases e with
    | returned y => exact h5.elim
    | panicked ch =>
      obtain ⟨y, rfl, h6⟩ := h5
      exact hpan K' y h3 h4 h6
    | outgrown => exact h5.elim
  generalize (do let d ← Deferred.ofValue (a.eval x) (c.args.toList.map a.eval).toArray; invoke d.target d.args : Sem Next).run G.P K.w = res at h2 ⊢
  cases res with
  | halt hh w' => exact h2.elim
  | ok nx w' =>
    cases nx with
    | value y => exact ret (.returned y) w' h2.2
    | enter f' args' =>
      refine ⟨fun hd => (by rw [(plainF_fn hF).2] at hd; cases hd), (h2 F _ hF).mono fun e w'' he => ?_⟩
      have := ret e w'' he
      cases e <;> exact this
    | round l f' tmps as' b =>
      refine ⟨fun hd => (by rw [(plainF_fn hF).2] at hd; cases hd), (h2.2 F _ hF).mono fun e w'' he => ?_⟩
      have := ret e w'' he
      cases e <;> exact this
    | _ => exact h2.elim

theorem value_wp (hF : plainF F) {a : Act} {o : Oper} {w w' : World} {x : Value} {next : Act → World → Prop} (hnd : ∀ c, o.op ≠ .defer c) (h : (execOp a.eval o).run G.P w = .ok (.value x) w') (hn : next (a.put o.dst x) w') : o.wpIn F n G.P a w next Q := by
  refine ⟨fun f _ => (plainF_fn hF).1 f, ?_⟩
  rw [Oper.semAt_eq _ _ _ hnd, h]
  exact hn

theorem op_step (R : Rgn G V cf ops b perm k l its T vs0 h0 ds fin m K0 a0) (hF : plainF F) {listed : Array Bool} {a : Act} {K : Kx} (C : Com G ops b perm T K0 a0 listed a K) (Z : Phz G V ops perm k l its T vs0 h0 K0 listed K) {i : Nat} (hi : i ∈ Region.ready .any ops listed) (hpT : ∀ p : Nat, perm[p]? = some i → p < T.length)
    {next : Act → World → Prop} (hnext : ∀ a' K', Com G ops b perm T K0 a0 (listed.setIfInBounds i true) a' K' → Phz G V ops perm k l its T vs0 h0 K0 (listed.setIfInBounds i true) K' → next a' K'.w) : wpOpIn F n G.P ops Q i next a K.w := by
  obtain ⟨hilt, hni, hrd⟩ := ready_spec R C hi
  obtain ⟨p, hpi⟩ := perm_pos R hilt
  obtain ⟨o, it, s, A⟩ := R.at hpi (hpT p hpi)
  have hl := R.lens
  have hplt := (List.getElem?_eq_some_iff.1 hpi).1
  have e0 : hdAt T h0 0 = h0 := by cases T <;> rfl
  have done : ∀ {K' : Kx} {x : Value}, Kle K K' → VR G.P K' s.v x → Phz G V ops perm k l its T vs0 h0 K0 (listed.setIfInBounds i true) K' → next (a.put o.dst x) K'.w := fun hk hx hz => hnext _ _ (com_put R C A hrd hk hx) hz
  unfold wpOpIn
  rw [A.oi]
  simp only
  have hw := com_guard R C A.toAtS hrd
  -- where an operation of the head that is not pure may stand
  have hplace : ∀ {mm ksl}, PhA G ops perm k T h0 K0 listed K mm ksl → p < k → p ≤ mm := by
    intro mm ksl Z hpk
    apply Classical.byContradiction
    intro hn
    rcases Z.next with h | ⟨j, h1, h2, h3⟩
    · omega
    · have hj := (R.ok.pos mm j h1).bar (call_jump h2) p i (by omega) hpi
      exact h3 (hrd j hj)
  -- a step that leaves the heap alone
  have noflt : s.on = false → fltOp o = false := fun h => by
    cases hf : fltOp o with
    | false => rfl
    | true => rw [flt_on A hf] at h; cases h
  have quiet : s.on = false → s.h' = s.h → s.kill = none → ∀ {K' : Kx} {x : Value}, Kle K K' → VR G.P K' s.v x → (∀ mm ksl, PhA G ops perm k T h0 K0 listed K mm ksl → HR G K' (hdAt T h0 mm) ksl ∧ Tn (fun i => i ∈ ksl) (hdAt T h0 mm) K K' ∧ ∀ x, K'.D x → K.D x) →
      (pureOp G.P o.op = true → ∀ q, PhB G V ops perm k l its T vs0 h0 K0 listed K q → HR G K' (tlAt k T [] h0 q) [] ∧ Tn (fun i => i ∈ ([] : List Nat)) (tlAt k T [] h0 q) K K' ∧ ∀ x, K'.D x → K.D x) → (pureOp G.P o.op = false → K' = K) → next (a.put o.dst x) K'.w := by
    intro hoff hh hkl K' x hk hx hA hB hK
    cases hpo : pureOp G.P o.op with
    | true =>
      refine done hk hx ?_
      rcases Z with ⟨mm, ksl, Z⟩ | ⟨q, Z⟩
      · obtain ⟨g1, g2, g3⟩ := hA mm ksl Z
        refine .inl ⟨mm, ksl, ?_⟩
        have := pha_step R C.lsz (K' := K') A Z (by rcases Nat.lt_or_ge p mm with h | h; exact .inl h; exact .inr ⟨h, hpo⟩) (by rw [hkl]; exact g1) (by rw [hkl]; exact g2) fun x hx => .inl (g3 x hx)
        rw [hkl] at this
        exact this
      · obtain ⟨g1, g2, g3⟩ := hB hpo q Z
        exact .inr ⟨q, phb_pure R C.lsz A Z (.inl hpo) g1 g2 g3⟩
    | false =>
      have := hK hpo
      subst this
      by_cases hpk : p < k
      · rcases Z with ⟨mm, ksl, Z⟩ | ⟨q, Z⟩
        · obtain ⟨g1, g2, g3⟩ := hA mm ksl Z
          have hpm := hplace Z hpk
          by_cases he : p = mm
          · subst he
            refine done hk hx (pha_call R C.lsz A hpk Z hkl (by rw [hh]; exact HMon.refl _) (by rw [hh, (A.hd hpk).1]; exact g1) (by rw [(A.hd hpk).1]; exact g2) fun x hx => .inl (g3 x hx))
          · refine done hk hx (.inl ⟨mm, ksl, ?_⟩)
            have := pha_step R C.lsz (K' := K') A Z (.inl (by omega)) (by rw [hkl]; exact g1) (by rw [hkl]; exact g2) fun x hx => .inl (g3 x hx)
            rw [hkl] at this
            exact this
        · rcases Z.back p i (by have := Z.kq; omega) hpi (by rw [A.op]; exact hpo) with h | h
          · exact absurd h hni
          · rw [A.op, noflt hoff] at h; cases h
      · obtain ⟨K1, w1, k1, Z1⟩ := to_tail R Z A.toAt0 A.le (by omega) hpo (fun q Z => by
          apply Classical.byContradiction
          intro hn
          rcases Z.back p i (by omega) hpi (by rw [A.op]; exact hpo) with h | h
          · exact hni h
          · rw [A.op, noflt hoff] at h; cases h) hrd
        rw [← w1]
        refine hnext _ K1 (com_put R C A hrd k1 (hx.mono k1)) (.inr ⟨p + 1, phb_step R C.lsz A hpo hrd Z1 ?_ ?_⟩)
        · rw [hh, (A.tl (by omega)).1]; exact Z1.hr
        · rw [hh]; exact Stp.refl _ _
  cases hon : s.on with
  | false =>
    rw [if_neg (by rw [hw, hon]; simp)]
    refine ⟨fun f _ => (plainF_fn hF).1 f, ?_⟩
    obtain ⟨g1, g2, g3⟩ := A.grd.2 hon
    exact quiet hon g2 g3 (Kle.refl K) (by rw [g1]; exact VR.undef) (fun mm ksl Z => ⟨Z.hr, Tn.refl _ _ _, fun x h => h⟩) (fun _ q Z => ⟨Z.hr, Tn.refl _ _ _, fun x h => h⟩) fun _ => rfl
  | true =>
    rw [if_pos (by rw [hw, hon])]
    have hco := com_ops R C A.toAtS hni hrd
    have hcoA := (compOpB_some A.co).resolve_right (fun e => by
      by_cases hk : p < k
      · have h3 := (A.hd hk).2.1 hon
        rw [e] at h3; cases h3
      · have h3 := ((A.tl (by omega)).2.2 hon).1
        rw [e] at h3; cases h3)
    have hcomp : compOp G.P (coR (compX V (dsAt l [] p)) o.op.operands.toList) o.op = some it.op := by rw [coR_comp]; exact hcoA
    have hnd := comp_defer hcoA A.nd
    cases hpo : pureOp G.P o.op with
    | true =>
      obtain ⟨hh, hkl, hpf⟩ := pure_quiet A hpo
      obtain ⟨f, hf, hpf⟩ := hpf hon
      rw [hf] at hcomp
      rcases Z with ⟨mm, ksl, Z⟩ | ⟨q, Z⟩
      · have hwf : (hdAt T h0 mm).wf := by have := (Z.mon 0 mm (Nat.zero_le _) (Nat.le_refl _)).wf; rw [e0] at this; exact this R.hs.wf
        obtain ⟨⟨x, K', g1, g2, g3, g4, g5⟩, _⟩ := aop_ok hco hcomp (hpf (hdAt T h0 mm)) Z.hr hwf (fun h => absurd h (Nat.lt_irrefl _)) (Sub.refl _) (Nat.le_refl _) (fun b h => by cases h)
        refine value_wp hF hnd g1 (done g4.le g2 (.inl ⟨mm, ksl, ?_⟩))
        have := pha_step R C.lsz (K' := K') A Z (by rcases Nat.lt_or_ge p mm with h | h; exact .inl h; exact .inr ⟨h, hpo⟩) (by rw [hkl]; exact g3) (by rw [hkl]; exact g4) fun x hx => (g5 x hx).imp id fun h => absurd h.2 (Nat.lt_irrefl _)
        rw [hkl] at this
        exact this
      · have hwf : (tlAt k T [] h0 q).wf := Z.st.wf R.hs.wf
        obtain ⟨⟨x, K', g1, g2, g3, g4, g5⟩, _⟩ := aop_ok hco hcomp (hpf (tlAt k T [] h0 q)) Z.hr hwf (fun h => absurd h (Nat.lt_irrefl _)) (Sub.refl _) (Nat.le_refl _) (fun b h => by cases h)
        exact value_wp hF hnd g1 (done g4.le g2 (.inr ⟨q, phb_pure R C.lsz A Z (.inl hpo) g3 g4 fun x hx => (g5 x hx).elim id fun h => absurd h.2 (Nat.lt_irrefl _)⟩))
    | false =>
      by_cases hlate : ∃ q, p < q ∧ PhB G V ops perm k l its T vs0 h0 K0 listed K q
      · -- read late
        obtain ⟨q, hpq, Z⟩ := hlate
        obtain ⟨p', g1, g2, g3, f, g4, g5⟩ := Z.flt p i o s hpq hpi A.oi A.tp hni hpo
        have hcoL := com_opsP R C A.toAt0 hni hrd g1 g2 g3
        have hcompL : compOp G.P (coR (compX V (dsAt l [] p')) o.op.operands.toList) o.op = some (.a f) := by rw [coR_comp]; exact g4
        have hwf : (tlAt k T [] h0 q).wf := Z.st.wf R.hs.wf
        obtain ⟨⟨x, K', e1, e2, e3, e4, e5⟩, _⟩ := aop_ok hcoL hcompL g5 Z.hr hwf (fun h => absurd h (Nat.lt_irrefl _)) (Sub.refl _) (Nat.le_refl _) (fun b h => by cases h)
        exact value_wp hF hnd e1 (done e4.le e2 (.inr ⟨q, phb_pure R C.lsz A Z (.inr hpq) e3 e4 fun x hx => (e5 x hx).elim id fun h => absurd h.2 (Nat.lt_irrefl _)⟩))
      have hlate : ∀ q, PhB G V ops perm k l its T vs0 h0 K0 listed K q → q ≤ p := fun q Z => by
        apply Classical.byContradiction
        intro hn
        exact hlate ⟨q, by omega, Z⟩
      by_cases hpk : p < k
      · -- the head
        rcases Z with ⟨mm, ksl, Z⟩ | ⟨q, Z⟩
        rotate_left
        · have := hlate q Z
          have := Z.kq
          omega
        · have hpm := hplace Z hpk
          cases hcall : isCallOp o.op with
          | false =>
            have hpm' : p < mm := by
              rcases Nat.lt_or_ge p mm with h | h
              · exact h
              · have : p = mm := by omega
                subst this
                rcases Z.next with h | ⟨j, h1, h2, h3⟩
                · omega
                · rw [hpi] at h1; cases h1; rw [A.op, hcall] at h2; cases h2
            obtain ⟨f, hf, hfe⟩ := at_plain A hpk hcall hon
            rw [hf] at hcomp
            have hmp' := Z.mon (p + 1) mm (by omega) (Nat.le_refl _)
            rw [at_h' A] at hmp'
            have hwfs : s.h.wf := by
              have := (Z.mon 0 p (Nat.zero_le _) (by omega)).wf
              rw [e0] at this
              rw [(A.hd hpk).1]; exact this R.hs.wf
            have hgr := grows_mon (aop_grows hcomp _ _ _ _ _ _ hfe).1
            -- the places of other operations' blocks
            have hbefore : ∀ {q jq sq}, q < p → perm[q]? = some jq → T[q]? = some sq → sq.h'.next ≤ s.h.next := by
              intro q jq sq hq hjq htq
              obtain ⟨oq, itq, sq', Aq⟩ := R.at hjq (by omega)
              have e := Aq.tp; rw [htq] at e; cases e
              rw [← at_h' Aq, (A.hd hpk).1]
              exact (Z.mon (q + 1) p (by omega) (by omega)).next
            have hafter : ∀ {q jq sq}, p < q → q < mm → perm[q]? = some jq → T[q]? = some sq → s.h'.next ≤ sq.h.next := by
              intro q jq sq hq hqm hjq htq
              obtain ⟨oq, itq, sq', Aq⟩ := R.at hjq (by have := Z.mkk; omega)
              have e := Aq.tp; rw [htq] at e; cases e
              rw [← at_h' A, (Aq.hd (by have := Z.mkk; omega)).1]
              exact (Z.mon (p + 1) q (by omega) (by omega)).next
            obtain ⟨⟨x, K', g1, g2, g3, g4, g5⟩, _⟩ := aop_ok hco hcomp hfe Z.hr hwfs (fun hlt hd => by
                rcases Z.dom _ hd with h | ⟨q, jq, sq, h1, h2, h3, h4, h5, h6⟩
                · have h7 := R.hs.hr.lt _ h
                  have h8 := (Z.mon 0 p (Nat.zero_le _) (by omega)).next
                  rw [e0, ← (A.hd hpk).1] at h8
                  omega
                · rcases Nat.lt_trichotomy q p with h7 | h7 | h7
                  · have := hbefore h7 h2 h4; omega
                  · subst h7; rw [hpi] at h2; cases h2; exact hni h3
                  · have := hafter h7 h1 h2 h4; omega)
              (hmp'.sub (hgr.wf hwfs)) hmp'.next (fun x hx hm => by
                obtain ⟨q, jq, sq, h1, h2, h3, h4, h5⟩ := Z.kin x hm
                have hmk := Z.mkk
                rcases Nat.lt_trichotomy q p with h7 | h7 | h7
                · exact (A.hd hpk).2.2 x hx (ksAt_mem.2 (.inr ⟨q, sq, h7, h4, h5⟩))
                · subst h7; rw [hpi] at h2; cases h2; exact hni h3
                · obtain ⟨oq, itq, sq', Aq⟩ := R.at h2 (by omega)
                  have e := Aq.tp; rw [h4] at e; cases e
                  exact (Aq.hd (by omega)).2.2 x h5 (ksAt_mem.2 (.inr ⟨p, s, h7, A.tp, hx⟩)))
            exact value_wp hF hnd g1 (done g4.le g2 (.inl ⟨mm, _, pha_step R C.lsz A Z (.inl hpm') g3 g4 fun x hx => (g5 x hx).imp id fun h => ⟨hpm', by omega, by omega⟩⟩))
          | true =>
            have hpe : p = mm := by
              apply Classical.byContradiction
              intro hne
              exact hni (Z.calls p i (by omega) hpi (by rw [A.op]; exact hcall))
            subst hpe
            obtain ⟨_, h2, _⟩ := A.hd hpk
            have h3 := h2 hon
            unfold evAtom at h3
            split at h3
            · rename_i f hf
              exfalso
              have hco' := hcoA
              rw [hf] at hco'
              generalize o.op = op at hcall hco'
              cases op <;> simp only [isCallOp, Bool.false_eq_true] at hcall
              rename_i c
              obtain ⟨cal, args, ts⟩ := c
              cases cal <;> simp at hcall
              simp only [compOp] at hco'
              split at hco' <;> cases hco'
            · rename_i f args hf
              split at h3
              · rename_i hks
                rw [hf] at hcomp
                obtain ⟨c, x, ho, hcal, hx, has⟩ := comp_call hcomp
                simp only [ob_some] at h3
                obtain ⟨g, hg, as, has', h3⟩ := h3
                simp only [atomC, ob_some] at h3
                obtain ⟨⟨rt, h1⟩, hcfe, h3⟩ := h3
                cases rt with
                | pan v => cases h3
                | val v =>
                  simp only [bif_none, Nat.ble_eq, Option.some.injEq, Prod.mk.injEq] at h3
                  obtain ⟨hlow, rfl, hh, hkl⟩ := h3
                  have hkl' : ksl = [] := by
                    rw [List.eq_nil_iff_forall_not_mem]
                    intro y hy
                    obtain ⟨q, jq, sq, h4, h5, h6, h7, h8⟩ := Z.kin y hy
                    have := (ksAt_mem (T := T) (ks := []) (p := p)).2 (.inr ⟨q, sq, h4, h7, h8⟩)
                    rw [hks] at this; cases this
                  subst hkl'
                  have hrH : HR G K s.h [] := by rw [(A.hd hpk).1]; exact Z.hr
                  have hwfs : s.h.wf := by
                    have := (Z.mon 0 p (Nat.zero_le _) (Nat.le_refl _)).wf
                    rw [e0] at this
                    rw [(A.hd hpk).1]; exact this R.hs.wf
                  have hcn := R.hcf g as { s.h with low := s.h.next } _ hcfe K (a.eval x) (c.args.toList.map a.eval) (hrH.relow _) hwfs (R.hs.gl.mono C.kle) (hco _ _ _ hx hg) (coL_ok hco has has')
                  refine call_wp hF ho hcal hcn fun K' y hr' st' hy => ?_
                  have hsame : ∀ j, j < s.h.next → h1.get j = s.h.get j := fun j hj => st'.ext.same j hj (by omega)
                  have hmh : HMon s.h s.h' := by
                    rw [← hh]
                    exact ⟨st'.ext.next, hsame, fun hw => st'.wf hw, rfl⟩
                  refine done st'.tn.le hy (pha_call R C.lsz A hpk Z hkl.symm hmh (by rw [← hh]; exact hr'.relow _) ⟨st'.tn.le, fun j hj hs hn => st'.tn.unt j hj hs (by
                      have := hrH.lt j hj
                      show ¬ h1.low ≤ j; omega), fun j hj hnj => ?_⟩ fun j hj => ?_)
                  · rcases st'.tn.nb j hj hnj with h4 | ⟨u, h4, h5, h6, h7⟩
                    · exact .inl h4
                    · have := hrH.lt u h4
                      exact absurd h6 (by show ¬ h1.low ≤ u; omega)
                  · by_cases hjd : K.D j
                    · exact .inl hjd
                    · refine .inr ⟨?_, by rw [← hh]; exact hr'.lt j hj⟩
                      exact (st'.dm j hj).resolve_left hjd
              · cases h3
            · cases h3
      · -- behind it
        obtain ⟨K1, w1, k1, Z1⟩ := to_tail R Z A.toAt0 A.le (by omega) hpo hlate hrd
        have C1 := C.mono k1
        have hco1 := com_ops R C1 A.toAtS hni hrd
        have eh := (A.tl (by omega)).1
        have hr1 : HR G K1 s.h [] := by rw [eh]; exact Z1.hr
        have hwf1 : s.h.wf := by rw [eh]; exact Z1.st.wf R.hs.wf
        obtain ⟨hkl, htl⟩ := (A.tl (by omega)).2
        have htl := (htl hon).1
        rw [← w1]
        have done1 : ∀ {K' : Kx} {x : Value}, Stp K1 s.h K' s.h' → HR G K' s.h' [] → VR G.P K' s.v x → next (a.put o.dst x) K'.w := fun st hr hx =>
          hnext _ _ (com_put R C1 A hrd st.tn.le hx) (.inr ⟨p + 1, phb_step R C.lsz A hpo hrd Z1 hr st⟩)
        rcases comp_none hcomp with ⟨f, hf⟩ | ⟨f, hf⟩ | ⟨f, args, c, x, hf, ho, hcal, hx, has⟩ | ⟨f, args, c, x, hf, ho, _⟩ | ⟨f, x, hf, _⟩ | ⟨hf, _⟩
        · rw [hf] at hcomp htl
          simp only [evStep, ob_some, Option.some.injEq] at htl
          obtain ⟨⟨v, h', kill⟩, hfe, he⟩ := htl
          obtain ⟨x, K', g1, g2, g3, g4⟩ := astep_ok hco1 hr1 hwf1 hcomp hfe
          unfold aR at he
          simp only [OR.val.injEq] at he
          obtain ⟨rfl, he, _⟩ := he
          rw [he] at g3 g4
          exact value_wp hF hnd g1 (done1 g4 g3 g2)
        · rw [hf] at hcomp htl
          simp only [evStep, ob_some, Option.some.injEq] at htl
          obtain ⟨⟨v, h'⟩, hfe, he⟩ := htl
          obtain ⟨⟨nx, x, K', g1, g2, g3, g4, g5⟩, g6⟩ := eop_ok hco1 hcomp hfe hr1
          simp only [OR.val.injEq] at he
          obtain ⟨rfl, rfl, _⟩ := he
          have st : Stp K1 s.h K' s.h' := ⟨g4, puts_ext g6, puts_wf g6, fun b hb => .inl (g5.2 b hb)⟩
          refine ⟨fun f _ => (plainF_fn hF).1 f, ?_⟩
          rw [Oper.semAt_eq _ _ _ hnd, g1]
          rcases g2 with rfl | ⟨rfl, rfl⟩
          · exact done1 st g5.1 g3
          · exact done1 st g5.1 g3
        · rw [hf] at htl
          simp only [evStep, ob_some, Option.some.injEq] at htl
          obtain ⟨g, hg, as, has', ⟨rt, h1⟩, hcfe, he⟩ := htl
          cases rt with
          | pan v => cases he
          | val v =>
            simp only [callR, OR.val.injEq] at he
            obtain ⟨rfl, rfl, _⟩ := he
            have hcn := R.hcf g as s.h _ hcfe K1 (a.eval x) (c.args.toList.map a.eval) hr1 hwf1 (R.hs.gl.mono C1.kle) (hco1 _ _ _ hx hg) (coL_ok hco1 has has')
            exact call_wp hF ho hcal hcn fun K' y hr' st' hy => done1 st' hr' hy
        · exact absurd ho (hnd c)
        · rw [hf] at htl
          simp only [evStep, ob_some] at htl
          obtain ⟨_, _, _, _, he⟩ := htl
          cases he
        · rw [hf] at htl; cases htl

end
end Hx

/- Regions that draw their order: the region. -/
namespace Hx
open Go

theorem count_set : ∀ (l : List Nat) (p q : Nat → Bool) (i : Nat), l.Nodup → i ∈ l → p i = true → q i = false → (∀ j, j ≠ i → q j = p j) → l.countP q + 1 = l.countP p
  | [], p, q, i, _, h, _, _, _ => by cases h
  | x :: l, p, q, i, hn, h, hp, hq, he => by
    obtain ⟨hx, hn⟩ := List.nodup_cons.1 hn
    rw [List.countP_cons, List.countP_cons]
    by_cases hxi : x = i
    · subst hxi
      have hsame : l.countP q = l.countP p := List.countP_congr fun j hj => by rw [he j (fun e => hx (e ▸ hj))]
      rw [hp, hq, hsame]; rfl
    · have hm : i ∈ l := (List.mem_cons.1 h).resolve_left (fun e => hxi e.symm)
      have := count_set l p q i hn hm hp hq he
      rw [he x hxi]; omega

theorem HR.sameHeap {G : Gx} {K : Kx} {h : Heap} (hr : HR G K h []) {w' : World} (ho : w'.os = K.w.os) (hout : w'.output = K.w.output) (hw : w'.heap = K.w.heap) : HR G (K.on w') h [] ∧ Stp K h (K.on w') h := by
  have hle : Kle K (K.on w') := ⟨fun _ h => h, fun _ _ => rfl, fun _ _ => rfl, fun _ h => .inl h, fun c _ _ => by show w'.heap[c]? = _; rw [hw], fun b c e fr hc => ⟨c, fr, by show w'.heap[b]? = _; rw [hw]; exact hc, rfl⟩, fun b L hL => ⟨L, by show w'.heap[b]? = _; rw [hw]; exact hL⟩, by show _ ≤ w'.heap.size; rw [hw]; exact Nat.le_refl _, ho, hout, fun c => by show frOf w'.heap[c]? = _; rw [hw]⟩
  have same : ∀ c : Nat, (K.on w').w.heap[c]? = K.w.heap[c]? := fun c => by show w'.heap[c]? = _; rw [hw]
  exact ⟨⟨hr.lt, fun b hb => by show _ < w'.heap.size; rw [hw]; exact hr.inh b hb, hr.own, hr.old, fun b x hb hx => (hr.blk b x hb hx).mono hle hb (same _), hr.dist, hr.aold, by show _ ≤ w'.heap.size; rw [hw]; exact hr.bsz⟩,
    ⟨hle, fun b _ _ _ => same _, fun b hb hn => absurd hb hn⟩, HExt.refl _, fun h => h, fun _ h => .inl h⟩

section
variable {G : Gx} {V : Vn} {cf : CallFn} {ops : Array Oper} {b perm : List Nat} {k : Nat} {l : List Oper} {its : List IT} {T : List PS} {vs0 : List AV} {h0 : Heap} {ds : Defs} {fin : St} {m : Option Nat} {K0 : Kx} {a0 : Act} {F : Fence} {n : Nat} {Q : Exit → Act → World → Prop}

theorem reg_end (R : Rgn G V cf ops b perm k l its T vs0 h0 ds fin m K0 a0) {listed : Array Bool} {a : Act} {K : Kx} (C : Com G ops b perm T K0 a0 listed a K) (Z : Phz G V ops perm k l its T vs0 h0 K0 listed K) (hall : ∀ i, i < ops.size → Ls listed i) (hlen : T.length = its.length) :
    ∃ K1 : Kx, K1.w = K.w ∧ Stp K0 h0 K1 fin.h ∧ SR G V m K1 a fin.vs fin.h fin.ds := by
  have hl := R.lens
  have hmem : ∀ (p i : Nat), perm[p]? = some i → Ls listed i := fun p i hp => by
    obtain ⟨o, it, A⟩ := R.at0 hp
    exact hall i (Array.getElem?_eq_some_iff.1 A.oi).1
  have hB : ∃ K1 : Kx, K1.w = K.w ∧ Kle K K1 ∧ ∃ q, PhB G V ops perm k l its T vs0 h0 K0 listed K1 q := by
    rcases Z with ⟨mm, ksl, Z⟩ | ⟨q, Z⟩
    · obtain ⟨K1, h1, h2, h3⟩ := ph_toB R Z fun p i _ hi _ => .inl (hmem p i hi)
      exact ⟨K1, h1, h2, k, h3⟩
    · exact ⟨K, rfl, Kle.refl K, q, Z⟩
  obtain ⟨K1, h1, h2, q, Z1⟩ := hB
  have hfin := R.trn hlen
  have etl : fin.h = tlAt k T [] h0 q := by
    rw [hfin]
    show tlAt k T [] h0 its.length = _
    rw [hl.2.2.1]
    exact tl_same R Z1.kq ops.size (by have := Z1.qn; omega) (by omega) fun p i hp _ hi => .inl (Z1.front p i hp hi (hmem p i hi))
  have hvs : fin.vs = vsAt its T vs0 its.length := by rw [hfin]
  have hds : fin.ds = ds := by rw [hfin]
  refine ⟨K1, h1, by rw [etl]; exact Z1.st, ⟨⟨by rw [hvs, vsAt_length]; exact R.hs.slots.1, fun i t hit => ?_⟩, by rw [C.size]; exact R.hs.nt, by rw [etl]; exact Z1.hr, by rw [etl]; exact Z1.st.wf R.hs.wf, by rw [hds, C.dfr]; exact R.hs.dfr.mono Z1.st.tn.le, R.hs.gl.mono Z1.st.tn.le⟩⟩
  have hidx : idxN t V.vsl = some i := by
    cases hx : idxN t V.vsl with
    | none => exact absurd (List.mem_of_getElem? hit) (idxN_none hx)
    | some j =>
      have hj := idxN_some hx
      obtain ⟨q1, e1⟩ := List.getElem?_eq_some_iff.1 hit
      obtain ⟨q2, e2⟩ := List.getElem?_eq_some_iff.1 hj
      have hpw := List.pairwise_iff_getElem.1 R.hv
      rcases Nat.lt_trichotomy i j with h | h | h
      · exact absurd (e1.trans e2.symm) (hpw i j q1 q2 h)
      · rw [h]
      · exact absurd (e2.trans e1.symm) (hpw j i q2 q1 h)
  have wrt : ∀ {o : Oper} {it : IT}, it.wr = o.dst.bind (idxN · V.vsl) → it.wr = some i → o.dst = some t := by
    intro o it h3 h4
    rw [h3] at h4
    cases hd : o.dst with
    | none => rw [hd] at h4; cases h4
    | some t' =>
      rw [hd] at h4
      have := idxN_some (show idxN t' V.vsl = some i from h4)
      rw [hit] at this; cases this; rfl
  obtain ⟨v0, x0, s1, s2, s3⟩ := R.hs.slots.2 i t hit
  have hil : i < vs0.length := (List.getElem?_eq_some_iff.1 s1).1
  by_cases hw : ∃ (p j : Nat) (o : Oper), perm[p]? = some j ∧ ops[j]? = some o ∧ o.dst = some t
  · obtain ⟨p, j, o, hp, ho, hd⟩ := hw
    obtain ⟨o', it, s, A⟩ := R.at hp (by have := (List.getElem?_eq_some_iff.1 hp).1; omega)
    have e := A.oi; rw [ho] at e; cases e
    obtain ⟨x, h3, h4⟩ := C.vals p j s o t hp (hmem p j hp) A.tp ho hd
    refine ⟨s.v, x, ?_, h3, h4.mono h2⟩
    rw [hvs]
    refine vsAt_new A.ip A.tp (by rw [A.wr, hd]; exact hidx) (by have := (List.getElem?_eq_some_iff.1 A.ip).1; exact this) hil fun q' it' hne hit' hwr => ?_
    have hq'l := (List.getElem?_eq_some_iff.1 hit').1
    obtain ⟨j', hj'⟩ : ∃ j', perm[q']? = some j' := ⟨perm[q']'(by omega), List.getElem?_eq_getElem _⟩
    obtain ⟨o', it'', A'⟩ := R.at0 hj'
    have e := A'.ip; rw [hit'] at e; cases e
    have hd' := wrt A'.wr hwr
    have : j' = j := R.ok.dst j' j o' o t (by rw [Array.getElem?_toList]; exact A'.oi) (by rw [Array.getElem?_toList]; exact ho) hd' hd
    subst this
    exact hne (perm_inj R hj' hp)
  · refine ⟨v0, x0, ?_, ?_, s3.mono Z1.st.tn.le⟩
    · rw [hvs, vsAt_old fun q' it' _ hit' hwr => ?_, s1]
      have hq'l := (List.getElem?_eq_some_iff.1 hit').1
      obtain ⟨j', hj'⟩ : ∃ j', perm[q']? = some j' := ⟨perm[q']'(by omega), List.getElem?_eq_getElem _⟩
      obtain ⟨o', it'', A'⟩ := R.at0 hj'
      have e := A'.ip; rw [hit'] at e; cases e
      exact hw ⟨q', j', o', hj', A'.oi, wrt A'.wr hwr⟩
    · rw [C.old t fun j o hj ho hd => ?_, s2]
      obtain ⟨p, hp⟩ := perm_pos R (Array.getElem?_eq_some_iff.1 ho).1
      exact hw ⟨p, j, o, hp, ho, hd⟩

theorem any_ok (R : Rgn G V cf ops b perm k l its T vs0 h0 ds fin m K0 a0) (hlen : T.length = its.length) (hF : plainF F) (hQ : ∀ a' K', Stp K0 h0 K' fin.h → SR G V m K' a' fin.vs fin.h fin.ds → Q .normal a' K'.w) : ∀ (fuel : Nat) (listed : Array Bool) (a : Act) (K : Kx),
    Com G ops b perm T K0 a0 listed a K → Phz G V ops perm k l its T vs0 h0 K0 listed K → (List.range ops.size).countP (fun i => !listed.getD i false) = fuel → wpAnyIn F n G.P .any ops Q fuel listed a K.w := by
  have fin' : ∀ {listed : Array Bool} {a : Act} {K : Kx}, Com G ops b perm T K0 a0 listed a K → Phz G V ops perm k l its T vs0 h0 K0 listed K → (∀ i, i < ops.size → Ls listed i) → Q .normal a K.w := by
    intro listed a K C Z hall
    obtain ⟨K1, h1, h2, h3⟩ := reg_end R C Z hall hlen
    rw [← h1]
    exact hQ a K1 h2 h3
  intro fuel
  induction fuel with
  | zero =>
    intro listed a K C Z hc
    rw [List.countP_eq_zero] at hc
    have hall : ∀ i, i < ops.size → Ls listed i := fun i hi => by
      have := hc i (List.mem_range.2 hi)
      unfold Ls
      simpa using this
    refine ⟨?_, fin' C Z hall⟩
    rw [List.eq_nil_iff_forall_not_mem]
    intro i hi
    obtain ⟨h1, h2, _⟩ := ready_spec R C hi
    exact h2 (hall i h1)
  | succ fuel ih =>
    intro listed a K C Z hc
    refine ⟨fun hr => fin' C Z (ready_ne R C hr), fun i hi => ?_⟩
    obtain ⟨h1, h2, _⟩ := ready_spec R C hi
    refine op_step R hF C Z hi (fun p hp => by have := (List.getElem?_eq_some_iff.1 hp).1; have := R.lens; omega) fun a' K' C' Z' => ih _ a' K' C' Z' ?_
    have := count_set (List.range ops.size) (fun j => !listed.getD j false) (fun j => !(listed.setIfInBounds i true).getD j false) i List.nodup_range (List.mem_range.2 h1) (by unfold Ls at h2; simpa using h2)
      (by have h3 : Ls (listed.setIfInBounds i true) i := (ls_set (by rw [C.lsz]; exact h1)).2 (.inl rfl)
          unfold Ls at h3; simp only [h3]; rfl)
      (fun j hj => by
        have h3 := ls_set (listed := listed) (i := i) (j := j) (by rw [C.lsz]; exact h1)
        unfold Ls at h3
        have h4 : ((listed.setIfInBounds i true).getD j false) = listed.getD j false := by
          rw [Bool.eq_iff_iff, h3]
          exact ⟨fun h => h.resolve_left hj, .inr⟩
        rw [h4])
    omega

/-- what the panic leaves -/
theorem reg_pan (R : Rgn G V cf ops b perm k l its T vs0 h0 ds fin m K0 a0) {listed : Array Bool} {a : Act} {K K' : Kx} {h' : Heap} (C : Com G ops b perm T K0 a0 listed a K) {i : Nat} {o : Oper} {it : IT} (A : At0 G V ops b perm k l its T.length i o it) (hpan : it.pan = true) (hni : ¬ Ls listed i) (hrd : ∀ j, (bAt b i).testBit j = true → Ls listed j)
    (Z : PhB G V ops perm k l its T vs0 h0 K0 listed K T.length) (hr : HR G K' h' []) (st : Stp K (tlAt k T [] h0 T.length) K' h') : Stp K0 h0 K' h' ∧ SR G V m K' a (vsAt its T vs0 T.length) h' ds := by
  have hl := R.lens
  have st0 := Z.st.trans R.hs.hr st
  obtain ⟨hcall, hpo⟩ := R.pan A hpan
  refine ⟨st0, ⟨⟨by rw [vsAt_length]; exact R.hs.slots.1, fun vi t hit => ?_⟩, by rw [C.size]; exact R.hs.nt, hr, st0.wf R.hs.wf, by rw [C.dfr]; exact R.hs.dfr.mono st0.tn.le, R.hs.gl.mono st0.tn.le⟩⟩
  have hidx : idxN t V.vsl = some vi := by
    cases hx : idxN t V.vsl with
    | none => exact absurd (List.mem_of_getElem? hit) (idxN_none hx)
    | some j =>
      have hj := idxN_some hx
      obtain ⟨q1, e1⟩ := List.getElem?_eq_some_iff.1 hit
      obtain ⟨q2, e2⟩ := List.getElem?_eq_some_iff.1 hj
      have hpw := List.pairwise_iff_getElem.1 R.hv
      rcases Nat.lt_trichotomy vi j with h | h | h
      · exact absurd (e1.trans e2.symm) (hpw vi j q1 q2 h)
      · rw [h]
      · exact absurd (e2.trans e1.symm) (hpw j vi q2 q1 h)
  have wrt : ∀ {o : Oper} {it : IT}, it.wr = o.dst.bind (idxN · V.vsl) → it.wr = some vi → o.dst = some t := by
    intro o it h3 h4
    rw [h3] at h4
    cases hd : o.dst with
    | none => rw [hd] at h4; cases h4
    | some t' =>
      rw [hd] at h4
      have := idxN_some (show idxN t' V.vsl = some vi from h4)
      rw [hit] at this; cases this; rfl
  obtain ⟨v0, x0, s1, s2, s3⟩ := R.hs.slots.2 vi t hit
  have hil : vi < vs0.length := (List.getElem?_eq_some_iff.1 s1).1
  by_cases hw : ∃ (p j : Nat) (o : Oper), p < T.length ∧ perm[p]? = some j ∧ ops[j]? = some o ∧ o.dst = some t
  · obtain ⟨p, j, o', hpT, hp, ho, hd⟩ := hw
    obtain ⟨o2, it2, s, A2⟩ := R.at hp hpT
    have e := A2.oi; rw [ho] at e; cases e
    have hls : Ls listed j := by
      rcases hpo p j hpT hp with h1 | h1
      · exact hrd j h1
      · rw [A2.op, hd] at h1
        have h1 : idxN t V.vsl = none := h1
        rw [hidx] at h1; cases h1
    obtain ⟨x, h3, h4⟩ := C.vals p j s o' t hp hls A2.tp ho hd
    refine ⟨s.v, x, ?_, h3, h4.mono st.tn.le⟩
    refine vsAt_new A2.ip A2.tp (by rw [A2.wr, hd]; exact hidx) hpT hil fun q' it' hne hit' hwr => ?_
    have hq'l := (List.getElem?_eq_some_iff.1 hit').1
    obtain ⟨j', hj'⟩ : ∃ j', perm[q']? = some j' := ⟨perm[q']'(by omega), List.getElem?_eq_getElem _⟩
    obtain ⟨o3, it'', A'⟩ := R.at0 hj'
    have e := A'.ip; rw [hit'] at e; cases e
    have hd' := wrt A'.wr hwr
    have : j' = j := R.ok.dst j' j o3 o' t (by rw [Array.getElem?_toList]; exact A'.oi) (by rw [Array.getElem?_toList]; exact ho) hd' hd
    subst this
    exact hne (perm_inj R hj' hp)
  · refine ⟨v0, x0, ?_, ?_, s3.mono st0.tn.le⟩
    · rw [vsAt_old fun q' it' hq' hit' hwr => ?_, s1]
      have hq'l := (List.getElem?_eq_some_iff.1 hit').1
      obtain ⟨j', hj'⟩ : ∃ j', perm[q']? = some j' := ⟨perm[q']'(by omega), List.getElem?_eq_getElem _⟩
      obtain ⟨o3, it'', A'⟩ := R.at0 hj'
      have e := A'.ip; rw [hit'] at e; cases e
      exact hw ⟨q', j', o3, hq', hj', A'.oi, wrt A'.wr hwr⟩
    · rw [C.old t fun j o' hj ho hd => ?_, s2]
      obtain ⟨p, hp⟩ := perm_pos R (Array.getElem?_eq_some_iff.1 ho).1
      rcases Nat.lt_trichotomy p T.length with h1 | h1 | h1
      · exact hw ⟨p, j, o', h1, hp, ho, hd⟩
      · subst h1
        have e := A.pi; rw [hp] at e; cases e
        exact hni hj
      · exact hni (C.clos j hj i ((R.ok.pos T.length i A.pi).bar (call_jump (by rw [A.op]; exact hcall)) p j h1 hp))

theorem op_pan (R : Rgn G V cf ops b perm k l its T vs0 h0 ds fin m K0 a0) (hF : plainF F) {listed : Array Bool} {a : Act} {K : Kx} (C : Com G ops b perm T K0 a0 listed a K) (Z : Phz G V ops perm k l its T vs0 h0 K0 listed K) {v : AV} {i : Nat} {o : Oper} {it : IT} {h' : Heap} {s : PS}
    (A : AtS G V ops b perm k l its T vs0 T.length i o it s) (hon : s.on = true) (hpan : it.pan = true) (hev : evStep cf s.stk s.vs (tlAt k T [] h0 T.length) ds it.op = some (.pan v h')) (hfin : fin = ⟨vsAt its T vs0 T.length, h', ds⟩) (hi : i ∈ Region.ready .any ops listed)
    (hQ : ∀ a' K' y, Stp K0 h0 K' fin.h → SR G V m K' a' fin.vs fin.h fin.ds → VR G.P K' v y → Q (.panic [{ v := y, recovered := false }]) a' K'.w) {next : Act → World → Prop} : wpOpIn F n G.P ops Q i next a K.w := by
  obtain ⟨hilt, hni, hrd⟩ := ready_spec R C hi
  have hl := R.lens
  obtain ⟨hcall, _⟩ := R.pan A.toAt0 hpan
  unfold wpOpIn
  rw [A.oi]
  simp only
  have hw := com_guard R C A hrd
  rw [if_pos (by rw [hw, hon])]
  have hpu := call_not_pure (P := G.P) hcall
  obtain ⟨K1, w1, k1, Z1⟩ := to_tail R Z A.toAt0 (Nat.le_refl _) (by omega) hpu (fun q Z => Z.qn) hrd
  have C1 := C.mono k1
  have hco1 := com_ops R C1 A hni hrd
  have hcomp : compOp G.P (compX V (dsAt l [] T.length)) o.op = some it.op := (compOpB_some A.co).resolve_right (fun e => by rw [e] at hev; cases hev)
  have hcomp : compOp G.P (coR (compX V (dsAt l [] T.length)) o.op.operands.toList) o.op = some it.op := by rw [coR_comp]; exact hcomp
  rw [← w1]
  rcases comp_none hcomp with ⟨f, hf⟩ | ⟨f, hf⟩ | ⟨f, args, c, x, hf, ho, hcal, hx, has⟩ | ⟨f, args, c, x, hf, ho, _⟩ | ⟨f, x, hf, _, ho⟩ | ⟨hf, _⟩
  · rw [hf] at hev
    simp only [evStep, ob_some, Option.some.injEq] at hev
    obtain ⟨_, _, he⟩ := hev
    unfold aR at he; cases he
  · rw [hf] at hev
    simp only [evStep, ob_some, Option.some.injEq] at hev
    obtain ⟨_, _, he⟩ := hev
    cases he
  · rw [hf] at hev
    simp only [evStep, ob_some, Option.some.injEq] at hev
    obtain ⟨g, hg, as, has', ⟨rt, h1⟩, hcfe, he⟩ := hev
    cases rt with
    | val v => cases he
    | pan v' =>
      simp only [callR, OR.pan.injEq] at he
      obtain ⟨rfl, rfl⟩ := he
      have hcn := R.hcf g as _ _ hcfe K1 (a.eval x) (c.args.toList.map a.eval) Z1.hr (Z1.st.wf R.hs.wf) (R.hs.gl.mono C1.kle) (hco1 _ _ _ hx hg) (coL_ok hco1 has has')
      refine call_pan hF ho hcal hcn fun K' y hr' st' hy => ?_
      obtain ⟨g1, g2⟩ := reg_pan R C1 A.toAt0 hpan hni hrd Z1 hr' st'
      exact hQ a K' y (by rw [hfin]; exact g1) (by rw [hfin]; exact g2) hy
  · rw [ho] at hcall; cases hcall
  · exfalso
    rcases ho with ho | ⟨c, ho, hc, _⟩
    · rw [ho] at hcall; cases hcall
    · rw [ho] at hcall
      obtain ⟨cal, args, ts⟩ := c
      simp only at hc
      subst hc
      cases hcall
  · rw [hf] at hev; cases hev

theorem any_pan (R : Rgn G V cf ops b perm k l its T vs0 h0 ds fin m K0 a0) (hF : plainF F) {v : AV} {i0 : Nat} {o0 : Oper} {it0 : IT} {h' : Heap} {s0 : PS} (A : AtS G V ops b perm k l its T vs0 T.length i0 o0 it0 s0) (hon : s0.on = true) (hpan : it0.pan = true) (hev : evStep cf s0.stk s0.vs (tlAt k T [] h0 T.length) ds it0.op = some (.pan v h')) (hfin : fin = ⟨vsAt its T vs0 T.length, h', ds⟩)
    (hQ : ∀ a' K' y, Stp K0 h0 K' fin.h → SR G V m K' a' fin.vs fin.h fin.ds → VR G.P K' v y → Q (.panic [{ v := y, recovered := false }]) a' K'.w) : ∀ (fuel : Nat) (listed : Array Bool) (a : Act) (K : Kx),
    Com G ops b perm T K0 a0 listed a K → Phz G V ops perm k l its T vs0 h0 K0 listed K → ¬ Ls listed i0 → (List.range ops.size).countP (fun i => !listed.getD i false) = fuel → wpAnyIn F n G.P .any ops Q fuel listed a K.w := by
  have hilt : i0 < ops.size := (Array.getElem?_eq_some_iff.1 A.oi).1
  intro fuel
  induction fuel with
  | zero =>
    intro listed a K C Z hni hc
    rw [List.countP_eq_zero] at hc
    exfalso
    have := hc i0 (List.mem_range.2 hilt)
    unfold Ls at hni
    rw [Array.getD_eq_getD_getElem?] at hni
    simp at this
    exact hni this
  | succ fuel ih =>
    intro listed a K C Z hni hc
    refine ⟨fun hr => absurd (ready_ne R C hr i0 hilt) hni, fun i hi => ?_⟩
    by_cases hii : i = i0
    · subst hii
      exact op_pan R hF C Z A hon hpan hev hfin hi hQ
    obtain ⟨h1, h2, hrd⟩ := ready_spec R C hi
    refine op_step R hF C Z hi (fun p hp => ?_) fun a' K' C' Z' => ih _ a' K' C' Z' ?_ ?_
    · rcases Nat.lt_trichotomy p T.length with h3 | h3 | h3
      · exact h3
      · subst h3
        have e := A.pi; rw [hp] at e; cases e
        exact absurd rfl hii
      · exact absurd (hrd i0 ((R.ok.pos T.length i0 A.pi).bar (call_jump (by rw [A.op]; exact (R.pan A.toAt0 hpan).1)) p i h3 hp)) hni
    · intro h3
      rw [ls_set (by rw [C.lsz]; exact h1)] at h3
      exact hni (h3.resolve_left fun e => hii e.symm)
    · have := count_set (List.range ops.size) (fun j => !listed.getD j false) (fun j => !(listed.setIfInBounds i true).getD j false) i List.nodup_range (List.mem_range.2 h1) (by unfold Ls at h2; simpa using h2)
        (by have h3 : Ls (listed.setIfInBounds i true) i := (ls_set (by rw [C.lsz]; exact h1)).2 (.inl rfl)
            unfold Ls at h3; simp only [h3]; rfl)
        (fun j hj => by
          have h3 := ls_set (listed := listed) (i := i) (j := j) (by rw [C.lsz]; exact h1)
          unfold Ls at h3
          have h4 : ((listed.setIfInBounds i true).getD j false) = listed.getD j false := by
            rw [Bool.eq_iff_iff, h3]
            exact ⟨fun h => h.resolve_left hj, .inr⟩
          rw [h4])
      omega

end

section
variable {G : Gx} {V : Vn} {cf : CallFn} {L : Nat}

theorem pre_ok (hmix : G.P.follows .mixedOrders = true) (hcf : CallOk G V.gl cf) (hv : V.vsl.Nodup) : PreOk G V cf L := by
  intro m F id ops x hF hc n ex s' K a s Q he hs hcx hp
  unfold compPre at hc
  simp only at hc
  split at hc
  · rename_i l hl
    split at hc
    · rename_i its0 hits
      split at hc
      rotate_left
      · cases hc
      rename_i its cs hadd hck
      split at hc
      · rename_i hpre
        cases hc
        have hok := preOk_get hpre hl
        have hnd : ∀ it ∈ its, ∀ f args, it.op ≠ .dfr f args := by
          intro it hit f args hop
          obtain ⟨p, hp⟩ := List.getElem?_of_mem hit
          obtain ⟨h1, h2⟩ := compIts_get hits
          obtain ⟨q1, q2⟩ := addChk_get hadd
          have hpl := (List.getElem?_eq_some_iff.1 hp).1
          obtain ⟨it', h3, h4, h5, h6, h7, h8⟩ := h2 p (l[p]'(by omega)) (List.getElem?_eq_getElem _)
          obtain ⟨it2, q3, q4, _⟩ := q2 p it' h3
          rw [hp] at q3; cases q3
          rw [← q4, hop] at h4
          have h4 := (compOpB_some h4).resolve_right (fun e => by cases e)
          rcases comp_none h4 with ⟨f, hf⟩ | ⟨f, hf⟩ | ⟨f, args, c, x, hf, _⟩ | ⟨f, args, c, x, _, ho, _⟩ | ⟨f, x, hf, _⟩ | ⟨hf, _⟩
          · cases hf
          · cases hf
          · cases hf
          · rw [ho] at h8; cases h8
          · cases hf
          · cases hf
        have hev := evPre_tr hnd (show evPre cf cs _ its [] [] s.vs s.h s.ds = some (ex, s') from he)
        obtain ⟨hr0, st0⟩ := hs.hr.sameHeap (w' := { K.w with drawn := K.w.drawn + 1 }) rfl rfl rfl
        have hs0 : SR G V m (K.on { K.w with drawn := K.w.drawn + 1 }) a s.vs s.h s.ds := hs.mono st0 hr0
        have mkR : ∀ T, (TrH cf s.ds s' cs _ its [] [] s.vs s.h T ∨ ∃ v, TrHP cf s.ds v s' cs _ its [] [] s.vs s.h T) → Rgn G V cf ops (befGo ops.toList []) _ _ l its T s.vs s.h s.ds s' m (K.on { K.w with drawn := K.w.drawn + 1 }) a :=
          fun T tr => ⟨hok, hl, ⟨its0, hits, hadd⟩, ⟨cs, by unfold dsAt; rw [List.append_nil]; exact hck, tr⟩, hs0, hv, hcf⟩
        have hno : ∀ i, ¬ Ls (Array.replicate ops.size false) i := fun i hi => by
          unfold Ls at hi
          rw [Array.getD_eq_getD_getElem?, Array.getElem?_replicate] at hi
          split at hi <;> cases hi
        have hcom : ∀ T, Com G ops (befGo ops.toList []) (order (befGo ops.toList []) ops.toList (List.range ops.size) ops.size 0) T (K.on { K.w with drawn := K.w.drawn + 1 }) a (Array.replicate ops.size false) a (K.on { K.w with drawn := K.w.drawn + 1 }) :=
          fun T => ⟨by simp, fun i hi => absurd hi (hno i), fun p i s o t _ hi => absurd hi (hno i), fun t _ => rfl, rfl, rfl, Kle.refl _⟩
        have hcnt : (List.range ops.size).countP (fun i => !(Array.replicate ops.size false).getD i false) = ops.size := by
          rw [List.countP_eq_length.2, List.length_range]
          intro i hi
          rw [Array.getD_eq_getD_getElem?, Array.getElem?_replicate]
          split <;> rfl
        refine wpIn_region_any hmix ?_
        rcases hev with ⟨rfl, T, tr⟩ | ⟨v, rfl, T, tr⟩
        · have R := mkR T (.inl tr)
          exact any_ok R tr.get.1 hF (fun a' K' st hs' => hp .normal a' K' (st0.trans hs.hr st) hs' trivial) ops.size _ a (K.on { K.w with drawn := K.w.drawn + 1 }) (hcom T) (ph_start R) hcnt
        · have R := mkR T (.inr ⟨v, tr⟩)
          obtain ⟨_, ⟨it1, q1, _⟩, _⟩ := tr.get
          obtain ⟨v2, i0, o0, it0, h', s0, A, g1, g2, g3, g4⟩ := R.trp (List.getElem?_eq_some_iff.1 q1).1
          have hv2 : v2 = v := by
            obtain ⟨_, ⟨it1, q1, q2, q3, h2, q4, q5⟩, _⟩ := tr.get
            have e := A.ip; rw [q1] at e; cases e
            rw [A.stk, A.vs, q4] at g3
            cases g3; rfl
          subst hv2
          exact any_pan R hF A g1 g2 g3 g4 (fun a' K' y st hs' hy => hp _ a' K' (st0.trans hs.hr st) hs' ⟨y, rfl, hy⟩) ops.size _ a (K.on { K.w with drawn := K.w.drawn + 1 }) (hcom T) (ph_start R) (hno i0) hcnt
      · cases hc
    · cases hc
  · cases hc

/-- THE MACHINE IS SOUND. -/
theorem ev_sound {G : Gx} {gl : Nat → Option (List AV)} {C : Ctx} {L : Nat} (hmix : G.P.follows .mixedOrders = true) (hC : CtxOk G gl C) (d : Nat) : CallOk G gl (ev C L d) :=
  ev_ok hC (fun cf hcf V hV hv => pre_ok hmix (by rw [hV]; exact hcf) hv) d

end
end Hx

