/- Regions that draw their order: what has been checked. -/
import Derived.Test.YtpkngodkcopjbaaHxPre2
namespace Hx
open Go

theorem pigeon : ∀ (n : Nat) (l : List Nat), l.Nodup → (∀ x ∈ l, x < n) → l.length ≤ n ∧ (l.length = n → ∀ i, i < n → i ∈ l)
  | 0, l, _, h => by
    cases l with
    | nil => exact ⟨Nat.le_refl _, fun _ i hi => by omega⟩
    | cons x l => have := h x List.mem_cons_self; omega
  | n + 1, l, hn, h => by
    by_cases hm : n ∈ l
    · have hl := List.length_erase_of_mem hm
      have hpos : 0 < l.length := List.length_pos_of_mem hm
      obtain ⟨h1, h2⟩ := pigeon n (l.erase n) (hn.erase n) fun x hx => by
        have h3 := (hn.mem_erase_iff).1 hx
        have := h x h3.2
        omega
      refine ⟨by omega, fun he i hi => ?_⟩
      by_cases hin : i = n
      · rw [hin]; exact hm
      · exact List.mem_of_mem_erase (h2 (by omega) i (by omega))
    · obtain ⟨h1, h2⟩ := pigeon n l hn fun x hx => by
        have := h x hx
        have : x ≠ n := fun e => hm (e ▸ hx)
        omega
      exact ⟨by omega, fun he => by omega⟩

theorem or_sub {x m : Nat} (h : Nat.beq (x ||| m) m = true) {j : Nat} (hj : x.testBit j = true) : m.testBit j = true := by
  have := Nat.eq_of_beq_eq_true h
  rw [← this, Nat.testBit_or, hj]; rfl

theorem edgeM_bit {b : List Nat} {j : Nat} : ∀ {es : List Edge}, (edgeM b es).testBit j = true ↔ ∃ e ∈ es, Region.binds .any e = true ∧ (j = e.on ∨ (bAt b e.on).testBit j = true)
  | [] => by simp [edgeM]
  | e :: es => by
    unfold edgeM
    split
    · rename_i hb
      rw [Nat.testBit_or, Nat.testBit_or, Bool.or_eq_true, Bool.or_eq_true, edgeM_bit, Nat.testBit_two_pow]
      constructor
      · rintro ((h | h) | ⟨e', h1, h2⟩)
        · exact ⟨e, List.mem_cons_self, hb, .inl ((by simpa using h : e.on = j).symm)⟩
        · exact ⟨e, List.mem_cons_self, hb, .inr h⟩
        · exact ⟨e', List.mem_cons_of_mem _ h1, h2⟩
      · rintro ⟨e', h1, h2, h3⟩
        rcases List.mem_cons.1 h1 with rfl | h1
        · rcases h3 with h3 | h3
          · exact .inl (.inl (by simp [h3]))
          · exact .inl (.inr h3)
        · exact .inr ⟨e', h1, h2, h3⟩
    · rename_i hb
      rw [edgeM_bit]
      constructor
      · rintro ⟨e', h1, h2⟩; exact ⟨e', List.mem_cons_of_mem _ h1, h2⟩
      · rintro ⟨e', h1, h2, h3⟩
        rcases List.mem_cons.1 h1 with rfl | h1
        · exact absurd h2 hb
        · exact ⟨e', h1, h2, h3⟩

theorem maskOf_bit {P : Program} {os : List Oper} {j : Nat} : ∀ {l : List Nat}, j ∈ l → pureOp P (opAt os j).op = false → (maskOf P os l).testBit j = true
  | [], h, _ => by cases h
  | i :: l, h, hp => by
    unfold maskOf
    rcases List.mem_cons.1 h with rfl | h
    · rw [hp]; simp [Nat.testBit_or]
    · split
      · exact maskOf_bit h hp
      · rw [Nat.testBit_or, maskOf_bit h hp]; simp

theorem writer_none {t : Nat} : ∀ {os : List Oper} {m : Nat}, writer os t m = none → ∀ (j : Nat) (o : Oper), os[j]? = some o → o.dst ≠ some t
  | [], m, _, j, o, h => by simp at h
  | x :: os, m, hw, j, o, h => by
    unfold writer at hw
    split at hw
    · cases hw
    · rename_i hx
      cases j with
      | zero => simp at h; subst h; exact hx
      | succ j => exact writer_none hw j o (by simpa using h)
theorem writer_some {t : Nat} : ∀ {os : List Oper} {m j : Nat}, writer os t m = some j → ∃ (i : Nat) (o : Oper), j = m + i ∧ os[i]? = some o ∧ o.dst = some t
  | [], m, j, h => by cases h
  | x :: os, m, j, hw => by
    unfold writer at hw
    split at hw
    · rename_i hx; cases hw; exact ⟨0, x, rfl, rfl, hx⟩
    · obtain ⟨i, o, h1, h2, h3⟩ := writer_some hw
      exact ⟨i + 1, o, by omega, by simpa using h2, h3⟩

theorem readsOk_get {b : List Nat} {os : List Oper} {i t : Nat} : ∀ {l : List Operand}, readsOk b os i l = true → Operand.tmp t ∈ l → readOk b os i t = true
  | [], _, h => by cases h
  | x :: l, hr, h => by
    rcases List.mem_cons.1 h with rfl | h
    · simp only [readsOk, Bool.and_eq_true] at hr; exact hr.1
    · have hr' : readsOk b os i l = true := by
        cases x <;> simp only [readsOk, Bool.and_eq_true] at hr
        · exact hr.2
        all_goals exact hr
      exact readsOk_get hr' h

theorem barOk_get {b : List Nat} {i : Nat} : ∀ {l : List Nat}, barOk b i l = true → ∀ q ∈ l, (bAt b q).testBit i = true
  | [], _, q, h => by cases h
  | x :: l, hb, q, h => by
    simp only [barOk, Bool.and_eq_true] at hb
    rcases List.mem_cons.1 h with rfl | h
    · exact hb.1
    · exact barOk_get hb.2 q h

/-- what has been checked of the operation i at p -/
structure PosOk (P : Program) (b : List Nat) (os : List Oper) (perm : List Nat) (k p i : Nat) : Prop where
  bef : ∀ j, (bAt b i).testBit j = true → ∃ q, q < p ∧ perm[q]? = some j
  reads : ∀ t, Operand.tmp t ∈ (opAt os i).op.operands.toList → readOk b os i t = true
  grd : ∀ j w, (opAt os i).guard = some (j, w) → (bAt b i).testBit j = true
  bar : jumpOp (opAt os i).op = true → ∀ q j, p < q → perm[q]? = some j → (bAt b j).testBit i = true
  tail : k ≤ p → pureOp P (opAt os i).op = true ∨ ∀ q j, q < p → perm[q]? = some j → pureOp P (opAt os j).op = false → (bAt b i).testBit j = true

theorem prePos_get {P : Program} {b : List Nat} {os : List Oper} {k : Nat} {perm : List Nat} : ∀ (r : List Nat) (p mask : Nat) (prev : List Nat), prePos P b os k p r mask prev = true → perm = prev.reverse ++ r → prev.length = p → (∀ j, mask.testBit j = true → j ∈ prev) →
    ∀ q i, p ≤ q → perm[q]? = some i → PosOk P b os perm k q i
  | [], p, mask, prev, _, he, hl, _, q, i, hq, hi => by
    have := (List.getElem?_eq_some_iff.1 hi).1
    rw [he] at this
    simp at this
    omega
  | x :: r, p, mask, prev, hp, he, hl, hm, q, i, hq, hi => by
    simp only [prePos, Bool.and_eq_true, fN_eq] at hp
    obtain ⟨⟨⟨⟨⟨h1, h2⟩, h3⟩, h4⟩, h5⟩, h6⟩ := hp
    have hx : perm[p]? = some x := by rw [he, List.getElem?_append_right (by simp [hl])]; simp [hl]
    have hprev : ∀ j, j ∈ prev → ∃ q, q < p ∧ perm[q]? = some j := fun j hj => by
      obtain ⟨q, hq⟩ := List.getElem?_of_mem (List.mem_reverse.2 hj)
      have hlt := (List.getElem?_eq_some_iff.1 hq).1
      refine ⟨q, by simpa [hl] using hlt, ?_⟩
      rw [he, List.getElem?_append_left hlt]; exact hq
    by_cases hpq : q = p
    · subst hpq
      rw [hx] at hi; cases hi
      refine ⟨fun j hj => hprev j (hm j (or_sub h1 hj)), fun t ht => readsOk_get h2 ht, fun j w hg => ?_, fun hj q' j hq' hj' => ?_, fun hk => ?_⟩
      · rw [hg] at h3; exact h3
      · rw [hj] at h4
        simp only [Bool.not_true, Bool.false_or] at h4
        refine barOk_get h4 j ?_
        rw [he, List.getElem?_append_right (by simp [hl]; omega)] at hj'
        have : q' - prev.reverse.length = (q' - q - 1) + 1 := by simp [hl]; omega
        rw [this, List.getElem?_cons_succ] at hj'
        exact List.mem_of_getElem? hj'
      · simp only [Bool.or_eq_true, Nat.ble_eq] at h5
        have h5 := h5.resolve_left (by omega)
        simp only [tailOk, Bool.or_eq_true] at h5
        refine h5.imp id fun h5 q' j hq' hj' hpu => ?_
        have h7 := Nat.eq_of_beq_eq_true h5
        rw [← h7, Nat.testBit_or, Bool.or_eq_true]
        refine .inr (maskOf_bit ?_ hpu)
        rw [he, List.getElem?_append_left (by simp [hl]; omega)] at hj'
        exact List.mem_reverse.1 (List.mem_of_getElem? hj')
    · refine prePos_get r (p + 1) _ (x :: prev) h6 (by simp [he]) (by simp [hl]) (fun j hj => ?_) q i (by omega) hi
      rw [Nat.testBit_or, Bool.or_eq_true, Nat.testBit_two_pow] at hj
      rcases hj with hj | hj
      · exact List.mem_cons_of_mem _ (hm j hj)
      · simp at hj; subst hj; exact List.mem_cons_self

structure PermOk (P : Program) (b : List Nat) (os : List Oper) (perm : List Nat) (k : Nat) : Prop where
  len : perm.length = os.length
  nd : perm.Nodup
  lt : ∀ i ∈ perm, i < os.length
  dst : ∀ (i j : Nat) (oi oj : Oper) (t : Nat), os[i]? = some oi → os[j]? = some oj → oi.dst = some t → oj.dst = some t → i = j
  bef : ∀ (i : Nat) (o : Oper), os[i]? = some o → bAt b i = edgeM b o.after.toList
  kn : k ≤ os.length
  pos : ∀ p i, perm[p]? = some i → PosOk P b os perm k p i
theorem PermOk.all {P : Program} {b : List Nat} {os : List Oper} {perm : List Nat} {k : Nat} (h : PermOk P b os perm k) {i : Nat} (hi : i < os.length) : i ∈ perm := (pigeon _ _ h.nd h.lt).2 h.len i hi

theorem befOk_get {b : List Nat} : ∀ {os : List Oper} {m : Nat}, befOk b os m = true → ∀ (i : Nat) (o : Oper), os[i]? = some o → bAt b (m + i) = edgeM b o.after.toList
  | [], m, _, i, o, h => by simp at h
  | x :: os, m, hb, i, o, h => by
    simp only [befOk, Bool.and_eq_true] at hb
    cases i with
    | zero => simp at h; subst h; exact Nat.eq_of_beq_eq_true hb.1
    | succ i =>
      have := befOk_get hb.2 i o (by simpa using h)
      rw [← this]; congr 1; omega

theorem dsts_inj : ∀ {os : List Oper}, (dstsOf os).Nodup → ∀ (i j : Nat) (oi oj : Oper) (t : Nat), os[i]? = some oi → os[j]? = some oj → oi.dst = some t → oj.dst = some t → i = j
  | [], _, i, j, oi, oj, t, h, _, _, _ => by simp at h
  | x :: os, hn, i, j, oi, oj, t, h1, h2, h3, h4 => by
    have mem : ∀ {q : Nat} {o : Oper}, os[q]? = some o → o.dst = some t → t ∈ dstsOf os := fun hq ho => List.mem_filterMap.2 ⟨_, List.mem_of_getElem? hq, ho⟩
    have hn' : (dstsOf os).Nodup ∧ ∀ u, x.dst = some u → u ∉ dstsOf os := by
      unfold dstsOf at hn ⊢
      cases hx : x.dst with
      | none => rw [List.filterMap_cons_none hx] at hn; exact ⟨hn, fun u hu => by cases hu⟩
      | some u =>
        rw [List.filterMap_cons_some hx] at hn
        obtain ⟨a1, a2⟩ := List.nodup_cons.1 hn
        exact ⟨a2, fun u' hu' => by cases hu'; exact a1⟩
    cases i with
    | zero =>
      cases j with
      | zero => rfl
      | succ j =>
        simp at h1; subst h1
        exact absurd (mem (by simpa using h2) h4) (hn'.2 t h3)
    | succ i =>
      cases j with
      | zero =>
        simp at h2; subst h2
        exact absurd (mem (by simpa using h1) h3) (hn'.2 t h4)
      | succ j => rw [dsts_inj hn'.1 i j oi oj t (by simpa using h1) (by simpa using h2) h3 h4]

theorem getOps_get {os : List Oper} : ∀ {perm : List Nat} {l : List Oper}, getOps os perm = some l → l.length = perm.length ∧ ∀ (p i : Nat), perm[p]? = some i → ∃ o : Oper, l[p]? = some o ∧ os[i]? = some o
  | [], l, h => by cases h; exact ⟨rfl, fun p i h => by simp at h⟩
  | x :: perm, l, h => by
    unfold getOps at h
    split at h
    · rename_i o r ho hr
      cases h
      obtain ⟨h1, h2⟩ := getOps_get hr
      rw [getL_eq] at ho
      refine ⟨by simp [h1], fun p i hp => ?_⟩
      cases p with
      | zero => simp at hp; subst hp; exact ⟨o, rfl, ho⟩
      | succ p => obtain ⟨o', h3, h4⟩ := h2 p i (by simpa using hp); exact ⟨o', by simpa using h3, h4⟩
    · cases h

theorem preOk_get {P : Program} {b : List Nat} {os : List Oper} {perm : List Nat} {k : Nat} (h : preOk P b os perm k = true) {l : List Oper} (hl : getOps os perm = some l) : PermOk P b os perm k := by
  simp only [preOk, Bool.and_eq_true, Nat.ble_eq, lenL_eq] at h
  obtain ⟨⟨⟨⟨⟨h1, h2⟩, h3⟩, h4⟩, h5⟩, h6⟩ := h
  refine ⟨Nat.eq_of_beq_eq_true h1, noDup_nodup h2, fun i hi => ?_, dsts_inj (noDup_nodup h3), fun i o ho => by simpa using befOk_get h4 i o ho, h5, fun p i hp => prePos_get perm 0 0 [] h6 rfl rfl (fun j hj => by simp at hj) p i (Nat.zero_le _) hp⟩
  obtain ⟨p, hp⟩ := List.getElem?_of_mem hi
  obtain ⟨o, _, h7⟩ := (getOps_get hl).2 p i hp
  exact (List.getElem?_eq_some_iff.1 h7).1

end Hx
