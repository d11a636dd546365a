/- Regions that draw their order: the steps by their places. -/
import Derived.Test.YtbkihikjgoedbaaGreatHxPre1
namespace Hx
open Go

def hdAt : List PS → Heap → Nat → Heap
  | _, h, 0 => h
  | [], h, _ + 1 => h
  | s :: T, _, p + 1 => hdAt T s.h' p
def ksAt : List PS → List Nat → Nat → List Nat
  | _, ks, 0 => ks
  | [], ks, _ + 1 => ks
  | s :: T, ks, p + 1 => ksAt T (s.kill.toList ++ ks) p
noncomputable def vsAt : List IT → List PS → List AV → Nat → List AV
  | it :: r, s :: T, vs, p + 1 => vsAt r T (putV vs it.wr s.v) p
  | _, _, vs, _ => vs
def stkAt : List PS → List AV → Nat → List AV
  | s :: T, stk, p + 1 => stkAt T (s.v :: stk) p
  | _, stk, _ => stk
/-- the heap before the operation at p, from the end of the head on -/
noncomputable def tlAt (k : Nat) (T : List PS) (ks : List Nat) (h : Heap) (p : Nat) : Heap := if p = k then (hdAt T h k).kills (ksAt T ks k) else hdAt T h p

theorem hdAt_succ : ∀ {T : List PS} {h : Heap} {p : Nat} {s : PS}, T[p]? = some s → hdAt T h (p + 1) = s.h'
  | [], h, p, s, hs => by simp at hs
  | x :: T, h, 0, s, hs => by simp at hs; subst hs; cases T <;> rfl
  | x :: T, h, p + 1, s, hs => hdAt_succ (T := T) (h := x.h') (p := p) (by simpa using hs)

theorem ksAt_mem {b : Nat} : ∀ {T : List PS} {ks : List Nat} {p : Nat}, b ∈ ksAt T ks p ↔ b ∈ ks ∨ ∃ q s, q < p ∧ T[q]? = some s ∧ s.kill = some b
  | [], ks, 0 => by simp [ksAt]
  | x :: T, ks, 0 => by simp [ksAt]
  | [], ks, p + 1 => by simp [ksAt]
  | x :: T, ks, p + 1 => by
    have e : ksAt (x :: T) ks (p + 1) = ksAt T (x.kill.toList ++ ks) p := rfl
    rw [e, ksAt_mem (T := T)]
    constructor
    · rintro (h | ⟨q, s, h1, h2, h3⟩)
      · rcases List.mem_append.1 h with h | h
        · exact .inr ⟨0, x, by omega, rfl, by simpa using h⟩
        · exact .inl h
      · exact .inr ⟨q + 1, s, by omega, by simpa using h2, h3⟩
    · rintro (h | ⟨q, s, h1, h2, h3⟩)
      · exact .inl (List.mem_append.2 (.inr h))
      · cases q with
        | zero => simp at h2; subst h2; exact .inl (List.mem_append.2 (.inl (by simp [h3])))
        | succ q => exact .inr ⟨q, s, by omega, by simpa using h2, h3⟩

theorem stkAt_get : ∀ {T : List PS} {stk : List AV} {p : Nat}, p ≤ T.length → stkAt T stk p = ((T.take p).map (·.v)).reverse ++ stk
  | [], stk, p, h => by have : p = 0 := by simpa using h
                        subst this; rfl
  | x :: T, stk, 0, _ => rfl
  | x :: T, stk, p + 1, h => by
    show stkAt T (x.v :: stk) p = _
    rw [stkAt_get (by simpa using h)]
    simp

theorem putV_get {vs : List AV} {wr : Option Nat} {v : AV} {i : Nat} : (putV vs wr v)[i]? = if wr = some i ∧ i < vs.length then some v else vs[i]? := by
  cases wr with
  | none => simp; rfl
  | some j =>
    show (set1 vs j v)[i]? = _
    rw [set1_eq, List.getElem?_set]
    by_cases h : j = i
    · subst h
      by_cases h2 : j < vs.length <;> simp [h2]
    · simp [h]
theorem putV_length {vs : List AV} {wr : Option Nat} {v : AV} : (putV vs wr v).length = vs.length := by
  cases wr with
  | none => rfl
  | some j => show (set1 vs j v).length = _; rw [set1_eq, List.length_set]

theorem vsAt_length : ∀ {its : List IT} {T : List PS} {vs : List AV} {p : Nat}, (vsAt its T vs p).length = vs.length
  | [], T, vs, p => by cases T <;> cases p <;> rfl
  | it :: r, [], vs, p => by cases p <;> rfl
  | it :: r, s :: T, vs, 0 => rfl
  | it :: r, s :: T, vs, p + 1 => (vsAt_length (its := r) (T := T) (p := p)).trans putV_length

/-- what no operation has written -/
theorem vsAt_old {i : Nat} : ∀ {its : List IT} {T : List PS} {vs : List AV} {p : Nat}, (∀ q it, q < p → its[q]? = some it → it.wr ≠ some i) → (vsAt its T vs p)[i]? = vs[i]?
  | [], T, vs, p, _ => by cases T <;> cases p <;> rfl
  | it :: r, [], vs, p, _ => by cases p <;> rfl
  | it :: r, s :: T, vs, 0, _ => rfl
  | it :: r, s :: T, vs, p + 1, h => by
    show (vsAt r T (putV vs it.wr s.v) p)[i]? = _
    rw [vsAt_old (its := r) (T := T) (p := p) fun q it' hq hi => h (q + 1) it' (by omega) (by simpa using hi), putV_get, if_neg (fun hh => h 0 it (by omega) rfl hh.1)]

/-- what one operation alone has written -/
theorem vsAt_new {i : Nat} {it0 : IT} {s0 : PS} : ∀ {its : List IT} {T : List PS} {vs : List AV} {p q : Nat}, its[q]? = some it0 → T[q]? = some s0 → it0.wr = some i → q < p → i < vs.length → (∀ q' it, q' ≠ q → its[q']? = some it → it.wr ≠ some i) → (vsAt its T vs p)[i]? = some s0.v
  | [], T, vs, p, q, h, _, _, _, _, _ => by simp at h
  | it :: r, [], vs, p, q, _, h, _, _, _, _ => by simp at h
  | it :: r, s :: T, vs, 0, q, _, _, _, h, _, _ => by omega
  | it :: r, s :: T, vs, p + 1, 0, h1, h2, h3, _, hi, h4 => by
    simp at h1 h2
    subst h1 h2
    show (vsAt r T (putV vs it.wr s.v) p)[i]? = _
    rw [vsAt_old (its := r) (T := T) (p := p) fun q it' hq hi => h4 (q + 1) it' (by omega) (by simpa using hi), putV_get, if_pos ⟨h3, hi⟩]
  | it :: r, s :: T, vs, p + 1, q + 1, h1, h2, h3, h5, hi, h4 =>
    vsAt_new (its := r) (T := T) (vs := putV vs it.wr s.v) (p := p) (q := q) (by simpa using h1) (by simpa using h2) h3 (by omega) (by rw [putV_length]; exact hi) fun q' it' hq hi' => h4 (q' + 1) it' (by omega) (by simpa using hi')

section
variable {cf : CallFn} {ds : Defs} {fin : St} {cs : List (Nat × AF)}

theorem TrT.get : ∀ {its : List IT} {stk vs : List AV} {h : Heap} {T : List PS}, TrT cf ds fin its stk vs h T → T.length = its.length ∧ fin = ⟨vsAt its T vs its.length, hdAt T h its.length, ds⟩ ∧
    ∀ p s it, T[p]? = some s → its[p]? = some it → s.stk = stkAt T stk p ∧ s.vs = vsAt its T vs p ∧ s.h = hdAt T h p ∧ GrdR it s ∧ TlR cf ds it s
  | [], stk, vs, h, [], ht => ⟨rfl, ht, fun p s it hs => by simp at hs⟩
  | [], stk, vs, h, _ :: _, ht => ht.elim
  | _ :: _, stk, vs, h, [], ht => ht.elim
  | it :: r, stk, vs, h, s :: T, ht => by
    obtain ⟨h1, h2, h3, h4, h5, h6⟩ := ht
    obtain ⟨g1, g2, g3⟩ := h6.get
    refine ⟨by simp [g1], g2, fun p s' it' hs hi => ?_⟩
    cases p with
    | zero =>
      simp at hs hi
      subst hs hi
      exact ⟨h1, h2, h3, h4, h5⟩
    | succ p => exact g3 p s' it' (by simpa using hs) (by simpa using hi)

theorem TrH.get : ∀ {k : Nat} {its : List IT} {ks : List Nat} {stk vs : List AV} {h : Heap} {T : List PS}, TrH cf ds fin cs k its ks stk vs h T → T.length = its.length ∧ k ≤ its.length ∧ fin = ⟨vsAt its T vs its.length, tlAt k T ks h its.length, ds⟩ ∧ chkOk cs (stkAt T stk k) (vsAt its T vs k) (tlAt k T ks h k) = true ∧
    ∀ p s it, T[p]? = some s → its[p]? = some it → s.stk = stkAt T stk p ∧ s.vs = vsAt its T vs p ∧ GrdR it s ∧ (p < k → s.h = hdAt T h p ∧ HdR cf (ksAt T ks p) it s ∧ ∀ b, s.kill = some b → b ∉ ksAt T ks p) ∧ (k ≤ p → s.h = tlAt k T ks h p ∧ TlR cf ds it s)
  | 0, its, ks, stk, vs, h, T, ht => by
    have ht' : chkOk cs stk vs (h.kills ks) = true ∧ TrT cf ds fin its stk vs (h.kills ks) T := by cases its <;> cases T <;> exact ht
    obtain ⟨hck, ht'⟩ := ht'
    obtain ⟨g1, g2, g3⟩ := ht'.get
    have e : ∀ p, hdAt T (h.kills ks) p = tlAt 0 T ks h p ∨ T = [] := fun p => by
      cases T with
      | nil => exact .inr rfl
      | cons s T =>
        left
        cases p with
        | zero => rfl
        | succ p => rfl
    have e' : ∀ p, p ≤ T.length → hdAt T (h.kills ks) p = tlAt 0 T ks h p := fun p hp => by
      rcases e p with h1 | h1
      · exact h1
      · subst h1
        have : p = 0 := by simpa using hp
        subst this; rfl
    have z1 : stkAt T stk 0 = stk := by cases T <;> rfl
    have z2 : vsAt its T vs 0 = vs := by cases its <;> cases T <;> rfl
    have z3 : tlAt 0 T ks h 0 = h.kills ks := by rw [← e' 0 (Nat.zero_le _)]; cases T <;> rfl
    refine ⟨g1, Nat.zero_le _, by rw [g2, e' _ (by omega)], by rw [z1, z2, z3]; exact hck, fun p s it hs hi => ?_⟩
    obtain ⟨a1, a2, a3, a4, a5⟩ := g3 p s it hs hi
    exact ⟨a1, a2, a4, fun hp => (by omega), fun _ => ⟨by rw [a3, e' p (by have := (List.getElem?_eq_some_iff.1 hs).1; omega)], a5⟩⟩
  | k + 1, [], ks, stk, vs, h, T, ht => by cases T <;> exact ht.elim
  | k + 1, _ :: _, ks, stk, vs, h, [], ht => ht.elim
  | k + 1, it :: r, ks, stk, vs, h, s :: T, ht => by
    obtain ⟨h1, h2, h3, h4, h5, h7, h6⟩ := ht
    obtain ⟨g1, g2, g3, gck, g4⟩ := h6.get
    have e : ∀ p, tlAt (k + 1) (s :: T) ks h (p + 1) = tlAt k T (s.kill.toList ++ ks) s.h' p := fun p => by
      unfold tlAt
      by_cases hp : p = k
      · rw [if_pos (by omega), if_pos hp]; rfl
      · rw [if_neg (by omega), if_neg hp]; rfl
    refine ⟨by simp [g1], by simp; omega, by rw [g3, List.length_cons, e]; rfl, by rw [e]; exact gck, fun p s' it' hs hi => ?_⟩
    cases p with
    | zero =>
      simp at hs hi
      subst hs hi
      exact ⟨h1, h2, h4, fun _ => ⟨h3, h5, h7⟩, fun hk => by omega⟩
    | succ p =>
      obtain ⟨a1, a2, a3, a4, a5⟩ := g4 p s' it' (by simpa using hs) (by simpa using hi)
      exact ⟨a1, a2, a3, fun hp => a4 (by omega), fun hp => by rw [e]; exact a5 (by omega)⟩

end
end Hx
