/- Equality cell by cell, and the keys of maps. -/
import Derived.Test.YtbkihikjgoedbaaGreatHxOps3
import Derived.Laws.StructEq
namespace Hx
open Go

section
variable {P : Program} {K : Kx}

theorem eqCell_run {a b : AV} {x y : Value} {p : Bool} (ha : VR P K a x) (hb : VR P K b y) {r : Bool} (hc : eqCell p a b = some r) :
    (p = true ∧ ∃ u v, x = .bool u ∧ y = .bool v ∧ r = (u == v)) ∨ (p = false ∧ ∃ k u v, x = .int k u ∧ y = .int k v ∧ r = (u == v)) := by
  cases p <;> cases ha <;> cases hb <;> simp only [eqCell, bif_none, eqI_eq, Option.some.injEq, reduceCtorEq] at hc
  case false.int.int k p k' q => obtain ⟨h1, rfl⟩ := hc; have := kEq_eq h1; subst this; exact .inr ⟨rfl, k, p, q, rfl, rfl, rfl⟩
  case true.bool.bool p q => exact .inl ⟨rfl, p, q, rfl, rfl, hc.symm⟩

theorem eqCells_len {ps : List Bool} {a b : List AV} {r : Bool} (hc : eqCells ps a b = some r) : a.length = ps.length ∧ b.length = ps.length := by
  induction ps generalizing a b r with
  | nil => cases a <;> cases b <;> simp_all [eqCells]
  | cons p ps ih => cases a <;> cases b <;> simp only [eqCells, ob_some, reduceCtorEq] at hc
                    obtain ⟨_, _, _, h2, _⟩ := hc
                    have := ih h2
                    simp [this]
theorem eqCells_append {p1 p2 : List Bool} {a b : List AV} {r : Bool} (hc : eqCells (p1 ++ p2) a b = some r) :
    ∃ r1 r2, eqCells p1 (a.take p1.length) (b.take p1.length) = some r1 ∧ eqCells p2 (a.drop p1.length) (b.drop p1.length) = some r2 ∧ r = (r1 && r2) := by
  induction p1 generalizing a b r with
  | nil => exact ⟨true, r, by simp [eqCells], by simpa using hc, by simp⟩
  | cons p p1 ih =>
    cases a <;> cases b <;> simp only [eqCells, List.cons_append, ob_some, Option.some.injEq, reduceCtorEq] at hc
    obtain ⟨q, h1, s, h2, rfl⟩ := hc
    obtain ⟨r1, r2, h3, h4, rfl⟩ := ih h2
    exact ⟨q && r1, r2, by simp [eqCells, h1, h3, ob], by simpa using h4, by cases q <;> rfl⟩

/-- a value of a type, out of its cells -/
def Shape (P : Program) (t : TypeId) (xs : List Value) (x : Value) : Prop := (agT P t = some true ∧ x = .agg xs.toArray) ∨ (agT P t = some false ∧ xs = [x])

theorem run_part {t : TypeId} {n o : Nat} (w : World) (hn : szT P t = some n) (hg : (agT P t).isSome = true) (h1 : agT P t = some false → n = 1) {xs : List Value} (hl : n = 0 ∨ o + n ≤ xs.length) :
    ∃ x, (Go.part t xs.toArray o).run P w = .ok x w ∧ Shape P t ((xs.drop o).take n) x := by
  cases hg' : agT P t with
  | none => rw [hg'] at hg; cases hg
  | some g =>
    cases g with
    | true => exact ⟨.agg ((xs.drop o).take n).toArray, by simp [Go.part, run_isAgg hg', run_szT hn, List.take_drop], .inl ⟨hg', rfl⟩⟩
    | false =>
      have := h1 hg'
      subst this
      have ho : o < xs.length := by omega
      refine ⟨xs[o], by simp [Go.part, run_isAgg hg', ho], .inr ⟨hg', ?_⟩⟩
      rw [List.drop_eq_getElem_cons ho]; rfl

theorem eqL_size {d : Nat} {t : TypeId} {l : List Bool} (he : eqL P d t = some l) : szT P t = some l.length ∧ (agT P t).isSome = true ∧ (agT P t = some false → l.length = 1) := by
  cases d with
  | zero => simp [eqL] at he
  | succ d =>
    unfold eqL at he
    unfold agT
    split at he
    · rename_i hu; split at he
      · rename_i h1; cases he; exact ⟨h1, by simp [hu], fun _ => rfl⟩
      · cases he
    · rename_i hu; split at he
      · rename_i h1; cases he; exact ⟨h1, by simp [hu], fun _ => rfl⟩
      · cases he
    · rename_i fs hu; split at he
      · cases he
      · rw [Option.bind_eq_some_iff] at he
        obtain ⟨m, _, he⟩ := he
        split at he
        · rename_i h2; cases he; exact ⟨h2, by simp [hu], fun h => by simp [hu, aggD] at h⟩
        · cases he
    · rename_i m e hu
      rw [Option.bind_eq_some_iff] at he
      obtain ⟨s, _, he⟩ := he
      split at he
      · rename_i h2; cases he; exact ⟨by simpa using h2, by simp [hu], fun h => by simp [hu, aggD] at h⟩
      · cases he
    · cases he

/-- the elements of an array, compared one by one -/
def eqElems (d : Nat) (e : TypeId) (n : Nat) (xs ys : Array Value) : List Nat → Sem Bool
  | [] => pure true
  | i :: r => do
    let a ← part e xs (i * n)
    let b ← part e ys (i * n)
    let q ← Op.equalIn d e a b
    if (!q) = true then pure false else eqElems d e n xs ys r

theorem run_equalIn_array (w : World) (d : Nat) (t e : TypeId) (len n : Nat) (xs ys : Array Value) (ht : P.underlying t = some (.array len e)) (hn : szT P e = some n) :
    (Op.equalIn (d + 1) t (.agg xs) (.agg ys)).run P w = (eqElems d e n xs ys (List.range' 0 len)).run P w := by
  simp only [Op.equalIn, Sem.run_bind, run_underlying ht, Result.andThen_ok, run_szT hn]
  rw [Std.Legacy.Range.forIn_eq_forIn_range']
  simp only [Std.Legacy.Range.size, Nat.sub_zero, Nat.add_sub_cancel, Nat.div_one]
  generalize List.range' 0 len = l
  induction l generalizing w with
  | nil => simp [eqElems]
  | cons i l ih =>
    simp only [List.forIn_cons, eqElems, Sem.run_bind]
    generalize (part e xs (i * n)).run P w = r1
    cases r1 with
    | ok a w1 =>
      simp only [Result.andThen_ok]
      generalize (part e ys (i * n)).run P w1 = r2
      cases r2 with
      | ok b w2 =>
        simp only [Result.andThen_ok]
        generalize (Op.equalIn d e a b).run P w2 = r3
        cases r3 with
        | ok r w3 =>
          cases r
          · simp
          · simp only [Result.andThen_ok, Bool.not_true, Bool.false_eq_true, if_false, Sem.run_pure]
            exact ih w3
        | halt x w3 => simp [Result.andThen]
      | halt x w2 => simp [Result.andThen]
    | halt x w1 => simp [Result.andThen]

theorem equalIn_ok {w : World} : ∀ (d : Nat) {t : TypeId} {ps : List Bool}, eqL P d t = some ps → ∀ {D : Nat}, d ≤ D → ∀ {as bs : List AV} {xs ys : List Value} {r : Bool}, VRs P K as xs → VRs P K bs ys →
    eqCells ps as bs = some r → ∀ {x y : Value}, Shape P t xs x → Shape P t ys y → (Op.equalIn D t x y).run P w = .ok r w
  | 0, t, n, he, _, _, _, _, _, _, _, _, _, _, _, _, _, _ => by simp [eqL] at he
  | d + 1, t, ps, he, D, hD, as, bs, xs, ys, r, ha, hb, hc, x, y, hx, hy => by
    have hsz := eqL_size he
    obtain ⟨hla, hlb⟩ := eqCells_len hc
    have hxa := ha.length
    have hyb := hb.length
    obtain ⟨D, rfl⟩ : ∃ D', D = D' + 1 := ⟨D - 1, by omega⟩
    have leaf : ∀ p, ps = [p] → agT P t = some false → (p = true ∧ ∃ u v, x = .bool u ∧ y = .bool v ∧ r = (u == v)) ∨ (p = false ∧ ∃ k u v, x = .int k u ∧ y = .int k v ∧ r = (u == v)) := by
      rintro p rfl hg
      rcases hx with ⟨h, _⟩ | ⟨_, rfl⟩
      · rw [hg] at h; cases h
      rcases hy with ⟨h, _⟩ | ⟨_, rfl⟩
      · rw [hg] at h; cases h
      cases ha with
      | cons a _ l _ ha1 ha2 =>
        cases ha2
        cases hb with
        | cons b _ l _ hb1 hb2 =>
          cases hb2
          simp only [eqCells, ob_some, Option.some.injEq] at hc
          obtain ⟨q, hq, s, rfl, rfl⟩ := hc
          rw [Bool.and_true]
          exact eqCell_run ha1 hb1 hq
    unfold eqL at he
    split at he
    · rename_i hu
      split at he
      · cases he
        rcases leaf true rfl (by simp [agT, hu, aggD]) with ⟨_, u, v, rfl, rfl, rfl⟩ | ⟨h, _⟩
        · simp [Op.equalIn, run_underlying hu]
        · cases h
      · cases he
    · rename_i k hu
      split at he
      · cases he
        rcases leaf false rfl (by simp [agT, hu, aggD]) with ⟨h, _⟩ | ⟨_, k', u, v, rfl, rfl, rfl⟩
        · cases h
        · exact run_equalIn_int w D t k' k u v hu
      · cases he
    · rename_i fs hu
      split at he
      · cases he
      · rename_i hst
        rw [Option.bind_eq_some_iff] at he
        obtain ⟨l, hf, he⟩ := he
        split at he
        · cases he
          have hg : agT P t = some true := by simp [agT, hu, aggD]
          rcases hx with ⟨_, rfl⟩ | ⟨h, _⟩
          case inr => rw [hg] at h; cases h
          rcases hy with ⟨_, rfl⟩ | ⟨h, _⟩
          case inr => rw [hg] at h; cases h
          have hfo : P.fieldsOf t = fs := by simp [Program.fieldsOf, hu]
          rw [run_equalIn_struct w D t _ _ (by rw [hfo]; exact hu) (by simpa using hst), hfo]
          clear hu hg hfo hsz
          have key : ∀ (fl : List Field) (n : Nat) (l : List Bool) (r : Bool), eqF (eqL P d) fl n = some l → eqCells l (as.drop n) (bs.drop n) = some r →
              (Op.eqFields D xs.toArray ys.toArray fl).run P w = .ok r w := by
            intro fl
            induction fl with
            | nil =>
              intro n l r h1 h2
              simp only [eqF, Option.some.injEq] at h1
              subst h1
              have h3 := eqCells_len h2
              have : r = true := by
                cases ha' : as.drop n <;> cases hb' : bs.drop n <;> rw [ha', hb'] at h2 <;> simp_all [eqCells]
              subst this
              simp [Op.eqFields]
            | cons f fl ih =>
              intro n l r h1 h2
              simp only [eqF] at h1
              split at h1
              · rename_i hno
                rw [Option.bind_eq_some_iff] at h1
                obtain ⟨s, hs, h1⟩ := h1
                rw [Option.map_eq_some_iff] at h1
                obtain ⟨l', hl', rfl⟩ := h1
                simp at hno
                obtain ⟨hno1, hno2⟩ := hno
                have h3 := eqCells_len h2
                obtain ⟨r1, r2, h4, h5, rfl⟩ := eqCells_append h2
                obtain ⟨s1, s2, s3⟩ := eqL_size hs
                simp only [List.length_append, List.length_drop] at h3
                obtain ⟨u, hu1, hu2⟩ := run_part (o := n) w s1 s2 s3 (xs := xs) (by omega)
                obtain ⟨v, hv1, hv2⟩ := run_part (o := n) w s1 s2 s3 (xs := ys) (by omega)
                have he := equalIn_ok (w := w) d hs (D := D) (by omega) ((ha.drop n).take s.length) ((hb.drop n).take s.length) h4 hu2 hv2
                rw [List.drop_drop, List.drop_drop] at h5
                have ih' := ih (n + s.length) l' r2 hl' h5
                simp only [Op.eqFields, hno1, ne_eq, not_false_eq_true, if_true, Sem.run_bind, hno2, hu1, hv1, Result.andThen_ok, he]
                cases r1
                · simp
                · simp [ih']
              · cases h1
          exact key fs.toList 0 _ r hf (by simpa using hc)
        · cases he
    · rename_i m e hu
      rw [Option.bind_eq_some_iff] at he
      obtain ⟨s, hs, he⟩ := he
      split at he
      · cases he
        have hg : agT P t = some true := by simp [agT, hu, aggD]
        rcases hx with ⟨_, rfl⟩ | ⟨h, _⟩
        case inr => rw [hg] at h; cases h
        rcases hy with ⟨_, rfl⟩ | ⟨h, _⟩
        case inr => rw [hg] at h; cases h
        obtain ⟨s1, s2, s3⟩ := eqL_size hs
        rw [run_equalIn_array w D t e m s.length _ _ hu s1]
        clear hu hg hsz
        have key : ∀ (k i : Nat) (r : Bool), eqCells (List.replicate k s).flatten (as.drop (i * s.length)) (bs.drop (i * s.length)) = some r →
            (eqElems D e s.length xs.toArray ys.toArray (List.range' i k)).run P w = .ok r w := by
          intro k
          induction k with
          | zero =>
            intro i r h2
            have : r = true := by
              simp at h2
              cases ha' : as.drop (i * s.length) <;> cases hb' : bs.drop (i * s.length) <;> rw [ha', hb'] at h2 <;> simp_all [eqCells]
            subst this
            simp [eqElems]
          | succ k ih =>
            intro i r h2
            rw [List.replicate_succ, List.flatten_cons] at h2
            have h3 := eqCells_len h2
            obtain ⟨r1, r2, h4, h5, rfl⟩ := eqCells_append h2
            simp only [List.length_append, List.length_drop] at h3
            obtain ⟨u, hu1, hu2⟩ := run_part (o := i * s.length) w s1 s2 s3 (xs := xs) (by omega)
            obtain ⟨v, hv1, hv2⟩ := run_part (o := i * s.length) w s1 s2 s3 (xs := ys) (by omega)
            have he := equalIn_ok (w := w) d hs (D := D) (by omega) ((ha.drop (i * s.length)).take s.length) ((hb.drop (i * s.length)).take s.length) h4 hu2 hv2
            rw [List.drop_drop, List.drop_drop, ← Nat.succ_mul] at h5
            have ih' := ih (i + 1) r2 h5
            rw [List.range'_succ]
            simp only [eqElems, Sem.run_bind, hu1, hv1, Result.andThen_ok, he]
            cases r1
            · simp
            · simp [ih']
        exact key m 0 r (by simpa using hc)
      · cases he
    · cases he

end
end Hx
