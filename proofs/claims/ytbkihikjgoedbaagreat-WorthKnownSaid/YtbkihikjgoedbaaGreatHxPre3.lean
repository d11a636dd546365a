/- Regions that draw their order: what has been checked. -/
import Derived.Test.YtbkihikjgoedbaaGreatHxPre2
namespace Hx
open Go

theorem pigeon : ∀ (n : Nat) (l : List Nat), l.Nodup → (∀ x ∈ l, x < n) → l.length ≤ n ∧ (l.length = n → ∀ i, i < n → i ∈ l)
  | 0, l, _, h => by
    cases l with
    | nil => exact ⟨Nat.le_refl _, fun _ i hi => by omega⟩
    | cons x l => have := h x List.mem_cons_self; omega
  | n + 1, l, hn, h => by
    by_cases hm : n ∈ l
    · have hl := List.length_erase_of_mem hm
      have hpos : 0 < l.length := List.length_pos_of_mem hm
      obtain ⟨h1, h2⟩ := pigeon n (l.erase n) (hn.erase n) fun x hx => by
        have h3 := (hn.mem_erase_iff).1 hx
        have := h x h3.2
        omega
      refine ⟨by omega, fun he i hi => ?_⟩
      by_cases hin : i = n
      · rw [hin]; exact hm
      · exact List.mem_of_mem_erase (h2 (by omega) i (by omega))
    · obtain ⟨h1, h2⟩ := pigeon n l hn fun x hx => by
        have := h x hx
        have : x ≠ n := fun e => hm (e ▸ hx)
        omega
      exact ⟨by omega, fun he => by omega⟩

theorem or_sub {x m : Nat} (h : Nat.beq (x ||| m) m = true) {j : Nat} (hj : x.testBit j = true) : m.testBit j = true := by
  have := Nat.eq_of_beq_eq_true h
  rw [← this, Nat.testBit_or, hj]; rfl

theorem edgeM_bit {b : List Nat} {j : Nat} : ∀ {es : List Edge}, (edgeM b es).testBit j = true ↔ ∃ e ∈ es, Region.binds .any e = true ∧ (j = e.on ∨ (bAt b e.on).testBit j = true)
  | [] => by simp [edgeM]
  | e :: es => by
    unfold edgeM
    split
    · rename_i hb
      rw [Nat.testBit_or, Nat.testBit_or, Bool.or_eq_true, Bool.or_eq_true, edgeM_bit, Nat.testBit_two_pow]
      constructor
      · rintro ((h | h) | ⟨e', h1, h2⟩)
        · exact ⟨e, List.mem_cons_self, hb, .inl ((by simpa using h : e.on = j).symm)⟩
        · exact ⟨e, List.mem_cons_self, hb, .inr h⟩
        · exact ⟨e', List.mem_cons_of_mem _ h1, h2⟩
      · rintro ⟨e', h1, h2, h3⟩
        rcases List.mem_cons.1 h1 with rfl | h1
        · rcases h3 with h3 | h3
          · exact .inl (.inl (by simp [h3]))
          · exact .inl (.inr h3)
        · exact .inr ⟨e', h1, h2, h3⟩
    · rename_i hb
      rw [edgeM_bit]
      constructor
      · rintro ⟨e', h1, h2⟩; exact ⟨e', List.mem_cons_of_mem _ h1, h2⟩
      · rintro ⟨e', h1, h2, h3⟩
        rcases List.mem_cons.1 h1 with rfl | h1
        · exact absurd h2 hb
        · exact ⟨e', h1, h2, h3⟩

theorem maskOf_bit {P : Program} {os : List Oper} {j : Nat} : ∀ {l : List Nat}, j ∈ l → pureOp P (opAt os j).op = false → fltOp (opAt os j) = false → (maskOf P os l).testBit j = true
  | [], h, _, _ => by cases h
  | i :: l, h, hp, hf => by
    unfold maskOf
    rcases List.mem_cons.1 h with rfl | h
    · rw [hp, hf]; simp [Nat.testBit_or]
    · split
      · exact maskOf_bit h hp hf
      · rw [Nat.testBit_or, maskOf_bit h hp hf]; simp

theorem writer_none {t : Nat} : ∀ {os : List Oper} {m : Nat}, writer os t m = none → ∀ (j : Nat) (o : Oper), os[j]? = some o → o.dst ≠ some t
  | [], m, _, j, o, h => by simp at h
  | x :: os, m, hw, j, o, h => by
    unfold writer at hw
    split at hw
    · cases hw
    · rename_i hx
      cases j with
      | zero => simp at h; subst h; exact hx
      | succ j => exact writer_none hw j o (by simpa using h)
theorem writer_some {t : Nat} : ∀ {os : List Oper} {m j : Nat}, writer os t m = some j → ∃ (i : Nat) (o : Oper), j = m + i ∧ os[i]? = some o ∧ o.dst = some t
  | [], m, j, h => by cases h
  | x :: os, m, j, hw => by
    unfold writer at hw
    split at hw
    · rename_i hx; cases hw; exact ⟨0, x, rfl, rfl, hx⟩
    · obtain ⟨i, o, h1, h2, h3⟩ := writer_some hw
      exact ⟨i + 1, o, by omega, by simpa using h2, h3⟩

theorem readsOk_get {b : List Nat} {os : List Oper} {i t : Nat} : ∀ {l : List Operand}, readsOk b os i l = true → Operand.tmp t ∈ l → readOk b os i t = true
  | [], _, h => by cases h
  | x :: l, hr, h => by
    rcases List.mem_cons.1 h with rfl | h
    · simp only [readsOk, Bool.and_eq_true] at hr; exact hr.1
    · have hr' : readsOk b os i l = true := by
        cases x <;> simp only [readsOk, Bool.and_eq_true] at hr
        · exact hr.2
        all_goals exact hr
      exact readsOk_get hr' h

theorem barOk_get {b : List Nat} {i : Nat} : ∀ {l : List Nat}, barOk b i l = true → ∀ q ∈ l, (bAt b q).testBit i = true
  | [], _, q, h => by cases h
  | x :: l, hb, q, h => by
    simp only [barOk, Bool.and_eq_true] at hb
    rcases List.mem_cons.1 h with rfl | h
    · exact hb.1
    · exact barOk_get hb.2 q h

/-- what has been checked of the operation i at p -/
structure PosOk (P : Program) (b : List Nat) (os : List Oper) (perm : List Nat) (k p i : Nat) : Prop where
  bef : ∀ j, (bAt b i).testBit j = true → ∃ q, q < p ∧ perm[q]? = some j
  reads : ∀ t, Operand.tmp t ∈ (opAt os i).op.operands.toList → readOk b os i t = true
  grd : ∀ j w, (opAt os i).guard = some (j, w) → (bAt b i).testBit j = true
  bar : jumpOp (opAt os i).op = true → ∀ q j, p < q → perm[q]? = some j → (bAt b j).testBit i = true
  tail : k ≤ p → pureOp P (opAt os i).op = true ∨ ∀ q j, q < p → perm[q]? = some j → pureOp P (opAt os j).op = false → (bAt b i).testBit j = true ∨ fltOp (opAt os j) = true

theorem prePos_get {P : Program} {b : List Nat} {os : List Oper} {k : Nat} {perm : List Nat} : ∀ (r : List Nat) (p mask : Nat) (prev : List Nat), prePos P b os k p r mask prev = true → perm = prev.reverse ++ r → prev.length = p → (∀ j, mask.testBit j = true → j ∈ prev) →
    ∀ q i, p ≤ q → perm[q]? = some i → PosOk P b os perm k q i
  | [], p, mask, prev, _, he, hl, _, q, i, hq, hi => by
    have := (List.getElem?_eq_some_iff.1 hi).1
    rw [he] at this
    simp at this
    omega
  | x :: r, p, mask, prev, hp, he, hl, hm, q, i, hq, hi => by
    simp only [prePos, Bool.and_eq_true, fN_eq] at hp
    obtain ⟨⟨⟨⟨⟨h1, h2⟩, h3⟩, h4⟩, h5⟩, h6⟩ := hp
    have hx : perm[p]? = some x := by rw [he, List.getElem?_append_right (by simp [hl])]; simp [hl]
    have hprev : ∀ j, j ∈ prev → ∃ q, q < p ∧ perm[q]? = some j := fun j hj => by
      obtain ⟨q, hq⟩ := List.getElem?_of_mem (List.mem_reverse.2 hj)
      have hlt := (List.getElem?_eq_some_iff.1 hq).1
      refine ⟨q, by simpa [hl] using hlt, ?_⟩
      rw [he, List.getElem?_append_left hlt]; exact hq
    by_cases hpq : q = p
    · subst hpq
      rw [hx] at hi; cases hi
      refine ⟨fun j hj => hprev j (hm j (or_sub h1 hj)), fun t ht => readsOk_get h2 ht, fun j w hg => ?_, fun hj q' j hq' hj' => ?_, fun hk => ?_⟩
      · rw [hg] at h3; exact h3
      · rw [hj] at h4
        simp only [Bool.not_true, Bool.false_or] at h4
        refine barOk_get h4 j ?_
        rw [he, List.getElem?_append_right (by simp [hl]; omega)] at hj'
        have : q' - prev.reverse.length = (q' - q - 1) + 1 := by simp [hl]; omega
        rw [this, List.getElem?_cons_succ] at hj'
        exact List.mem_of_getElem? hj'
      · simp only [Bool.or_eq_true, Nat.ble_eq] at h5
        have h5 := h5.resolve_left (by omega)
        simp only [tailOk, Bool.or_eq_true] at h5
        refine h5.imp id fun h5 q' j hq' hj' hpu => ?_
        have h7 := Nat.eq_of_beq_eq_true h5
        cases hfl : fltOp (opAt os j) with
        | true => exact .inr rfl
        | false =>
        left
        rw [← h7, Nat.testBit_or, Bool.or_eq_true]
        refine .inr (maskOf_bit ?_ hpu hfl)
        rw [he, List.getElem?_append_left (by simp [hl]; omega)] at hj'
        exact List.mem_reverse.1 (List.mem_of_getElem? hj')
    · refine prePos_get r (p + 1) _ (x :: prev) h6 (by simp [he]) (by simp [hl]) (fun j hj => ?_) q i (by omega) hi
      rw [Nat.testBit_or, Bool.or_eq_true, Nat.testBit_two_pow] at hj
      rcases hj with hj | hj
      · exact List.mem_cons_of_mem _ (hm j hj)
      · simp at hj; subst hj; exact List.mem_cons_self

structure PermOk (P : Program) (b : List Nat) (os : List Oper) (perm : List Nat) (k : Nat) : Prop where
  len : perm.length = os.length
  nd : perm.Nodup
  lt : ∀ i ∈ perm, i < os.length
  dst : ∀ (i j : Nat) (oi oj : Oper) (t : Nat), os[i]? = some oi → os[j]? = some oj → oi.dst = some t → oj.dst = some t → i = j
  bef : ∀ (i : Nat) (o : Oper), os[i]? = some o → bAt b i = edgeM b o.after.toList
  kn : k ≤ os.length
  pos : ∀ p i, perm[p]? = some i → PosOk P b os perm k p i
theorem PermOk.all {P : Program} {b : List Nat} {os : List Oper} {perm : List Nat} {k : Nat} (h : PermOk P b os perm k) {i : Nat} (hi : i < os.length) : i ∈ perm := (pigeon _ _ h.nd h.lt).2 h.len i hi

theorem befOk_get {b : List Nat} : ∀ {os : List Oper} {m : Nat}, befOk b os m = true → ∀ (i : Nat) (o : Oper), os[i]? = some o → bAt b (m + i) = edgeM b o.after.toList
  | [], m, _, i, o, h => by simp at h
  | x :: os, m, hb, i, o, h => by
    simp only [befOk, Bool.and_eq_true] at hb
    cases i with
    | zero => simp at h; subst h; exact Nat.eq_of_beq_eq_true hb.1
    | succ i =>
      have := befOk_get hb.2 i o (by simpa using h)
      rw [← this]; congr 1; omega

theorem dsts_inj : ∀ {os : List Oper}, (dstsOf os).Nodup → ∀ (i j : Nat) (oi oj : Oper) (t : Nat), os[i]? = some oi → os[j]? = some oj → oi.dst = some t → oj.dst = some t → i = j
  | [], _, i, j, oi, oj, t, h, _, _, _ => by simp at h
  | x :: os, hn, i, j, oi, oj, t, h1, h2, h3, h4 => by
    have mem : ∀ {q : Nat} {o : Oper}, os[q]? = some o → o.dst = some t → t ∈ dstsOf os := fun hq ho => List.mem_filterMap.2 ⟨_, List.mem_of_getElem? hq, ho⟩
    have hn' : (dstsOf os).Nodup ∧ ∀ u, x.dst = some u → u ∉ dstsOf os := by
      unfold dstsOf at hn ⊢
      cases hx : x.dst with
      | none => rw [List.filterMap_cons_none hx] at hn; exact ⟨hn, fun u hu => by cases hu⟩
      | some u =>
        rw [List.filterMap_cons_some hx] at hn
        obtain ⟨a1, a2⟩ := List.nodup_cons.1 hn
        exact ⟨a2, fun u' hu' => by cases hu'; exact a1⟩
    cases i with
    | zero =>
      cases j with
      | zero => rfl
      | succ j =>
        simp at h1; subst h1
        exact absurd (mem (by simpa using h2) h4) (hn'.2 t h3)
    | succ i =>
      cases j with
      | zero =>
        simp at h2; subst h2
        exact absurd (mem (by simpa using h1) h3) (hn'.2 t h4)
      | succ j => rw [dsts_inj hn'.1 i j oi oj t (by simpa using h1) (by simpa using h2) h3 h4]

theorem getOps_get {os : List Oper} : ∀ {perm : List Nat} {l : List Oper}, getOps os perm = some l → l.length = perm.length ∧ ∀ (p i : Nat), perm[p]? = some i → ∃ o : Oper, l[p]? = some o ∧ os[i]? = some o
  | [], l, h => by cases h; exact ⟨rfl, fun p i h => by simp at h⟩
  | x :: perm, l, h => by
    unfold getOps at h
    split at h
    · rename_i o r ho hr
      cases h
      obtain ⟨h1, h2⟩ := getOps_get hr
      rw [getL_eq] at ho
      refine ⟨by simp [h1], fun p i hp => ?_⟩
      cases p with
      | zero => simp at hp; subst hp; exact ⟨o, rfl, ho⟩
      | succ p => obtain ⟨o', h3, h4⟩ := h2 p i (by simpa using hp); exact ⟨o', by simpa using h3, h4⟩
    · cases h

theorem preOk_get {P : Program} {b : List Nat} {os : List Oper} {perm : List Nat} {k : Nat} (h : preOk P b os perm k = true) {l : List Oper} (hl : getOps os perm = some l) : PermOk P b os perm k := by
  simp only [preOk, Bool.and_eq_true, Nat.ble_eq, lenL_eq] at h
  obtain ⟨⟨⟨⟨⟨h1, h2⟩, h3⟩, h4⟩, h5⟩, h6⟩ := h
  refine ⟨Nat.eq_of_beq_eq_true h1, noDup_nodup h2, fun i hi => ?_, dsts_inj (noDup_nodup h3), fun i o ho => by simpa using befOk_get h4 i o ho, h5, fun p i hp => prePos_get perm 0 0 [] h6 rfl rfl (fun j hj => by simp at hj) p i (Nat.zero_le _) hp⟩
  obtain ⟨p, hp⟩ := List.getElem?_of_mem hi
  obtain ⟨o, _, h7⟩ := (getOps_get hl).2 p i hp
  exact (List.getElem?_eq_some_iff.1 h7).1

/-! What is read again. -/
theorem noWr_get {ds : List (Option Nat)} {t : Nat} : ∀ {l : List Operand}, noWr ds l = true → Operand.tmp t ∈ l → some t ∉ ds
  | [], _, h => by cases h
  | x :: l, hn, h => by
    cases x with
    | tmp t' =>
      simp only [noWr, Bool.and_eq_true, Option.isNone_iff_eq_none] at hn
      rcases List.mem_cons.1 h with h | h
      · cases h
        intro hm
        clear h
        exact absurd hm (by
          have := hn.1
          revert this
          clear hn
          induction ds with
          | nil => intro _ h; cases h
          | cons y ds ih =>
            intro h1 h2
            unfold idxO at h1
            split at h1
            · cases h1
            · rename_i hne
              rw [Option.map_eq_none_iff] at h1
              rcases List.mem_cons.1 h2 with h2 | h2
              · exact hne h2.symm
              · exact ih h2 h1 h2)
      · exact noWr_get hn.2 h
    | const _ => exact noWr_get (l := l) hn (by simpa using h)
    | global _ => exact noWr_get (l := l) hn (by simpa using h)
    | func _ => exact noWr_get (l := l) hn (by simpa using h)

theorem flChk_get {P : Program} {V : Vn} {os : List Oper} {ds : List (Option Nat)} {need : Nat → Bool} : ∀ {prev : List Nat} {j0 : Nat} {cs : List (Nat × AF)}, flChk P V os ds need prev j0 = some cs → ∀ (j q : Nat), prev[j]? = some q → fltOp (opAt os q) = true → need q = true →
    noWr (ds.take (j0 + j + 1)) (opAt os q).op.operands.toList = true ∧ ∃ f, compOp P (compX V ds) (opAt os q).op = some (.a f) ∧ (j0 + j, f) ∈ cs
  | [], _, _, _, j, q, h, _, _ => by simp at h
  | x :: r, j0, cs, hc, j, q, h, hf, hn => by
    unfold flChk at hc
    split at hc
    · cases hc
    · rename_i c hr
      cases j with
      | zero =>
        simp at h
        subst h
        rw [hf, hn] at hc
        simp only [Bool.and_self, if_true] at hc
        split at hc
        · rename_i hw
          split at hc
          · rename_i f hcf
            cases hc
            exact ⟨hw, f, hcf, List.mem_cons_self⟩
          · cases hc
        · cases hc
      | succ j =>
        obtain ⟨h1, f, h2, h3⟩ := flChk_get hr j q (by simpa using h) hf hn
        have e : j0 + 1 + j = j0 + (j + 1) := by omega
        rw [e] at h1 h3
        refine ⟨h1, f, h2, ?_⟩
        split at hc
        · split at hc
          · split at hc
            · cases hc; exact List.mem_cons_of_mem _ h3
            · cases hc
          · cases hc
        · cases hc; exact h3

theorem addChk_get {P : Program} {V : Vn} {os : List Oper} {b : List Nat} {k : Nat} : ∀ {l : List Oper} {p0 : Nat} {r prev : List Nat} {ds : List (Option Nat)} {its0 its : List IT}, addChk P V os b k p0 l r prev ds its0 = some its → its.length = its0.length ∧ ∀ (p : Nat) (it0 : IT), its0[p]? = some it0 →
    ∃ it, its[p]? = some it ∧ it.op = it0.op ∧ it.grd = it0.grd ∧ it.wr = it0.wr ∧ ∀ (o : Oper) (i : Nat), l[p]? = some o → r[p]? = some i → k ≤ p0 + p → pureOp P o.op = false → fltOp o = false →
      flChk P V os (((l.take p).map (·.dst)).reverse ++ ds) (fun q => !(bAt b i).testBit q) ((r.take p).reverse ++ prev) 0 = some it.chk
  | [], p0, [], prev, ds, [], its, h => by
    simp only [addChk, Option.some.injEq] at h
    subst h
    exact ⟨rfl, fun p it0 h => by simp at h⟩
  | [], p0, [], prev, ds, _ :: _, its, h => by simp [addChk] at h
  | [], p0, _ :: _, prev, ds, its0, its, h => by cases its0 <;> simp [addChk] at h
  | _ :: _, p0, [], prev, ds, its0, its, h => by cases its0 <;> simp [addChk] at h
  | _ :: _, p0, _ :: _, prev, ds, [], its, h => by simp [addChk] at h
  | o :: l, p0, i :: r, prev, ds, it0 :: its0, its, h => by
    unfold addChk at h
    split at h
    · rename_i c l' hc hl
      cases h
      obtain ⟨h1, h2⟩ := addChk_get hl
      refine ⟨by simp [h1], fun p it0' hp => ?_⟩
      cases p with
      | zero =>
        simp at hp
        subst hp
        refine ⟨_, rfl, rfl, rfl, rfl, fun o' i' ho hi hk hpu hfl => ?_⟩
        simp at ho hi
        subst ho hi
        rw [if_pos (by simp [Nat.ble_eq, hpu, hfl]; omega)] at hc
        simpa using hc
      | succ p =>
        obtain ⟨it, g1, g2, g3, g4, g5⟩ := h2 p it0' (by simpa using hp)
        refine ⟨it, by simpa using g1, g2, g3, g4, fun o' i' ho hi hk hpu hfl => ?_⟩
        have := g5 o' i' (by simpa using ho) (by simpa using hi) (by omega) hpu hfl
        simpa using this
    · cases h

theorem looseAt_not {P : Program} {os : List Oper} {b : List Nat} {q : Nat} : ∀ {l : List Nat}, looseAt P os b q l = false → ∀ i ∈ l, pureOp P (opAt os i).op = false → (bAt b i).testBit q = true
  | [], _, i, h, _ => by cases h
  | x :: l, hl, i, h, hp => by
    simp only [looseAt, Bool.or_eq_false_iff, Bool.and_eq_false_iff, Bool.not_eq_false'] at hl
    rcases List.mem_cons.1 h with rfl | h
    · rcases hl.1 with h1 | h1
      · rw [hp] at h1; cases h1
      · exact h1
    · exact looseAt_not hl.2 i h hp

end Hx
