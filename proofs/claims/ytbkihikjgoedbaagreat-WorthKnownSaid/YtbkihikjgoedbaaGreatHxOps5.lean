/- The keys of maps; looking up; composite values. -/
import Derived.Test.YtbkihikjgoedbaaGreatHxOps4
namespace Hx
open Go

section
variable {P : Program} {K : Kx}

/-! Keys. -/
def ckFields (em : Bool) (d : Nat) (cs : Array Value) : List Field → Sem Unit
  | [] => pure ()
  | f :: r => do
    if f.name ≠ "_" then
      Instr.checkKey em d f.type (← part f.type cs f.offset)
    ckFields em d cs r
def ckElems (em : Bool) (d : Nat) (e : TypeId) (cs : Array Value) : List Nat → Sem Unit
  | [] => pure ()
  | i :: r => do
    Instr.checkKey em d e (← part e cs (i * (← Go.sizeOf e)))
    ckElems em d e cs r

theorem run_check_struct (w : World) (em : Bool) (d : Nat) (t : TypeId) (fs : Array Field) (cs : Array Value) (ht : P.underlying t = some (.struct fs)) :
    (Instr.checkKey em (d + 1) t (.agg cs)).run P w = (ckFields em d cs fs.toList).run P w := by
  simp only [Instr.checkKey, Sem.run_bind, run_underlying ht, Result.andThen_ok]
  rw [← Array.forIn_toList]
  generalize fs.toList = l
  clear ht
  induction l generalizing w with
  | nil => simp [ckFields]
  | cons f l ih =>
    simp only [List.forIn_cons, ckFields, Sem.run_bind, Sem.run_ite]
    split
    · generalize (part f.type cs f.offset).run P w = r1
      cases r1 with
      | ok a w1 =>
        simp only [Result.andThen_ok]
        generalize (Instr.checkKey em d f.type a).run P w1 = r2
        cases r2 with
        | ok b w2 => simp only [Result.andThen_ok, Sem.run_pure]; exact ih w2
        | halt x w2 => simp [Result.andThen]
      | halt x w1 => simp [Result.andThen]
    · simp only [Sem.run_pure, Result.andThen_ok]
      exact ih w
theorem run_check_array (w : World) (em : Bool) (d : Nat) (t e : TypeId) (len n : Nat) (cs : Array Value) (ht : P.underlying t = some (.array len e)) :
    (Instr.checkKey em (d + 1) t (.agg cs)).run P w = (ckElems em d e cs (List.range' 0 len)).run P w := by
  simp only [Instr.checkKey, Sem.run_bind, run_underlying ht, Result.andThen_ok]
  rw [Std.Legacy.Range.forIn_eq_forIn_range']
  simp only [Std.Legacy.Range.size, Nat.sub_zero, Nat.add_sub_cancel, Nat.div_one]
  generalize List.range' 0 len = l
  clear ht
  induction l generalizing w with
  | nil => simp [ckElems]
  | cons i l ih =>
    simp only [List.forIn_cons, ckElems, Sem.run_bind]
    generalize (Go.sizeOf e).run P w = r0
    cases r0 with
    | ok s w0 =>
      simp only [Result.andThen_ok]
      generalize (part e cs (i * s)).run P w0 = r1
      cases r1 with
      | ok a w1 =>
        simp only [Result.andThen_ok]
        generalize (Instr.checkKey em d e a).run P w1 = r2
        cases r2 with
        | ok b w2 => simp only [Result.andThen_ok, Sem.run_pure]; exact ih w2
        | halt x w2 => simp [Result.andThen]
      | halt x w1 => simp [Result.andThen]
    | halt x w0 => simp [Result.andThen]

theorem check_ok {w : World} {em : Bool} : ∀ (d : Nat) {t : TypeId} {ps : List Bool}, eqL P d t = some ps → ∀ {D : Nat}, d ≤ D → ∀ {xs : List Value}, xs.length = ps.length → ∀ {x : Value}, Shape P t xs x →
    (Instr.checkKey em D t x).run P w = .ok () w
  | 0, t, ps, he, _, _, _, _, _, _ => by simp [eqL] at he
  | d + 1, t, ps, he, D, hD, xs, hl, x, hx => by
    obtain ⟨D, rfl⟩ : ∃ D', D = D' + 1 := ⟨D - 1, by omega⟩
    have hsz := eqL_size he
    unfold eqL at he
    split at he
    · rename_i hu; rw [Instr.checkKey]; simp [run_underlying hu]
    · rename_i k hu; rw [Instr.checkKey]; simp [run_underlying hu]
    · rename_i fs hu
      split at he
      · cases he
      · rw [Option.bind_eq_some_iff] at he
        obtain ⟨l, hf, he⟩ := he
        split at he
        · cases he
          have hg : agT P t = some true := by simp [agT, hu, aggD]
          rcases hx with ⟨_, rfl⟩ | ⟨h, _⟩
          case inr => rw [hg] at h; cases h
          rw [run_check_struct w em D t fs _ hu]
          clear hu hg hsz
          have key : ∀ (fl : List Field) (n : Nat) (l : List Bool), eqF (eqL P d) fl n = some l → xs.length = n + l.length → (ckFields em D xs.toArray fl).run P w = .ok () w := by
            intro fl
            induction fl with
            | nil => intro n l _ _; simp [ckFields]
            | cons f fl ih =>
              intro n l h1 hlen
              simp only [eqF] at h1
              split at h1
              · rename_i hno
                rw [Option.bind_eq_some_iff] at h1
                obtain ⟨s, hs, h1⟩ := h1
                rw [Option.map_eq_some_iff] at h1
                obtain ⟨l', hl', rfl⟩ := h1
                simp at hno
                obtain ⟨hno1, hno2⟩ := hno
                obtain ⟨s1, s2, s3⟩ := eqL_size hs
                simp only [List.length_append] at hlen
                obtain ⟨u, hu1, hu2⟩ := run_part (o := n) w s1 s2 s3 (xs := xs) (by omega)
                have hc := check_ok (w := w) (em := em) d hs (D := D) (by omega) (xs := (xs.drop n).take s.length) (by simp; omega) hu2
                have ih' := ih (n + s.length) l' hl' (by omega)
                simp [ckFields, hno1, hno2, hu1, hc, ih']
              · cases h1
          exact key fs.toList 0 _ hf (by omega)
        · cases he
    · rename_i m e hu
      rw [Option.bind_eq_some_iff] at he
      obtain ⟨s, hs, he⟩ := he
      split at he
      · cases he
        have hg : agT P t = some true := by simp [agT, hu, aggD]
        rcases hx with ⟨_, rfl⟩ | ⟨h, _⟩
        case inr => rw [hg] at h; cases h
        obtain ⟨s1, s2, s3⟩ := eqL_size hs
        rw [run_check_array w em D t e m s.length _ hu]
        clear hu hg hsz
        simp only [List.length_flatten, List.map_replicate, List.sum_replicate_nat] at hl
        have key : ∀ (k i : Nat), i + k = m → (ckElems em D e xs.toArray (List.range' i k)).run P w = .ok () w := by
          intro k
          induction k with
          | zero => intro i _; simp [ckElems]
          | succ k ih =>
            intro i hik
            have hb : i * s.length + s.length ≤ m * s.length := by rw [← Nat.succ_mul]; exact Nat.mul_le_mul_right _ (by omega)
            obtain ⟨u, hu1, hu2⟩ := run_part (o := i * s.length) w s1 s2 s3 (xs := xs) (by omega)
            have hc := check_ok (w := w) (em := em) d hs (D := D) (by omega) (xs := (xs.drop (i * s.length)).take s.length) (by simp; omega) hu2
            rw [List.range'_succ]
            simp [ckElems, run_szT s1, hu1, hc, ih (i + 1) (by omega)]
        exact key m 0 (by omega)
      · cases he
    · cases he

theorem keyEq_eqAV {t : TypeId} {a b : AV} {r : Bool} (h : keyEq (eqC P t false) a b = some r) : eqAV (eqC P t false) a b = some r := by
  unfold keyEq at h
  split at h
  · rename_i hc; rw [hc]; exact h
  · rename_i hc; rw [hc]; exact h
  · rename_i hc; rw [hc]; exact h
  · cases h

theorem cells_same {ps : List Bool} {as bs : List AV} {xs ys : List Value} (hx : VRs P K as xs) (hy : VRs P K bs ys) (h : eqCells ps as bs = some true) :
    xs = ys ∧ ∀ n, (xs.zip ys).all (fun (x, y) => Instr.sameBits n x y) = true := by
  induction ps generalizing as bs xs ys with
  | nil => cases as <;> cases bs <;> simp [eqCells] at h; cases hx; cases hy; simp
  | cons p ps ih =>
    cases hx with
    | nil => simp [eqCells] at h
    | cons a x as xs ha has =>
      cases hy with
      | nil => simp [eqCells] at h
      | cons b y bs ys hb hbs =>
        simp only [eqCells, ob_some, Option.some.injEq, Bool.and_eq_true] at h
        obtain ⟨q, h1, s, h2, rfl, rfl⟩ := h
        obtain ⟨rfl, h3⟩ := ih has hbs h2
        rcases eqCell_run ha hb h1 with ⟨_, u, v, rfl, rfl, he⟩ | ⟨_, k, u, v, rfl, rfl, he⟩
        · have : u = v := by simpa using he.symm
          subst this
          exact ⟨rfl, fun n => by rw [List.zip_cons_cons, List.all_cons, h3 n]; simp [Instr.sameBits]⟩
        · have : u = v := by simpa using he.symm
          subst this
          exact ⟨rfl, fun n => by rw [List.zip_cons_cons, List.all_cons, h3 n]; simp [Instr.sameBits]⟩

/-- keys that are equal are the same value -/
theorem keyEq_same {t : TypeId} {a b : AV} {x y : Value} (hx : VR P K a x) (hy : VR P K b y) (h : keyEq (eqC P t false) a b = some true) : x = y ∧ Instr.sameBits 10000 x y = true := by
  unfold keyEq at h
  split at h
  · rcases eqCell_run hx hy h with ⟨h, _⟩ | ⟨_, k, u, v, rfl, rfl, he⟩
    · cases h
    · have : u = v := by simpa using he.symm
      subst this; exact ⟨rfl, by simp [Instr.sameBits]⟩
  · rcases eqCell_run hx hy h with ⟨_, u, v, rfl, rfl, he⟩ | ⟨h, _⟩
    · have : u = v := by simpa using he.symm
      subst this; exact ⟨rfl, by simp [Instr.sameBits]⟩
    · cases h
  · cases hx <;> simp only [eqAV, reduceCtorEq] at h <;> cases hy <;> simp only [reduceCtorEq] at h
    rename_i as xs hxs bs ys hys
    obtain ⟨rfl, h2⟩ := cells_same hxs hys h
    refine ⟨rfl, ?_⟩
    show (xs.toArray.size == xs.toArray.size && (xs.toArray.toList.zip xs.toArray.toList).all fun (x, y) => Instr.sameBits 9999 x y) = true
    simpa using h2 9999
  · cases h

theorem keyEq_check {t : TypeId} {a b : AV} {x y : Value} (hx : VR P K a x) (hy : VR P K b y) {r : Bool} (h : keyEq (eqC P t false) a b = some r) (em : Bool) (w : World) : (Instr.checkKey em 10000 t x).run P w = .ok () w := by
  have e : ∀ D, (Instr.checkKey em (D + 6) t x).run P w = .ok () w := by
    intro D
    unfold eqC at h
    split at h
    · rename_i hu; rw [Instr.checkKey]; simp [run_underlying hu]
    · rename_i hu; rw [Instr.checkKey]; simp [run_underlying hu]
    all_goals first
      | (simp [keyEq] at h; done)
      | (split at h <;> simp [keyEq] at h <;> done)
      | skip
    all_goals
      split at h
      · rename_i ps he
        cases hx <;> simp only [keyEq, eqAV, reduceCtorEq] at h <;> cases hy <;> simp only [reduceCtorEq] at h
        rename_i as xs hxs bs ys hys
        have hg : agT P t = some true := by unfold agT; simp [*, aggD]
        exact check_ok 6 he (by omega) (xs := xs) (by rw [hxs.length]; exact (eqCells_len h).1) (.inl ⟨hg, rfl⟩)
      · simp [keyEq] at h
  exact e 9994

theorem eqC_some {t : TypeId} {a b : AV} {r c : Bool} (h : eqAV (eqC P t c) a b = some r) : ∃ d, P.underlying t = some d := by
  cases hu : P.underlying t with
  | none => simp [eqC, hu, eqAV] at h
  | some d => exact ⟨d, rfl⟩

theorem sameNow_ok {t : TypeId} {d : TypeDesc} (hu : P.underlying t = some d) {x y : Value} {b : Bool} (h : Instr.sameNow d x y = some b) (w : World) : (Op.equal t x y).run P w = .ok b w := by
  have e : ∀ D, (Op.equalIn (D + 1) t x y).run P w = .ok b w := by
    intro D
    cases d <;> cases x <;> cases y <;> simp only [Instr.sameNow, reduceCtorEq] at h
    · rw [Op.equalIn]; simp [run_underlying hu]; simpa using h
    · rename_i k k1 n1 k2 n2
      split at h
      · rename_i hk; subst hk; rw [Op.equalIn]; simp [run_underlying hu]; simpa using h
      · cases h
    · rw [Op.equalIn]; simp [run_underlying hu]; simpa using h
  exact e 9999

theorem findNow_asking {t : TypeId} {d : TypeDesc} (hu : P.underlying t = some d) (k : Value) (w : World) : ∀ (l : List MapEntry) (i : Nat) (r : Option (Nat × Value)), Instr.findNow d k l i = some r → (Instr.findAsking t k l i).run P w = .ok r w
  | [], i, r, h => by simp [Instr.findNow] at h; subst h; simp [Instr.findAsking]
  | e :: l, i, r, h => by
    simp only [Instr.findNow] at h
    split at h
    · rename_i hs; cases h; simp [Instr.findAsking, sameNow_ok hu hs]
    · rename_i hs; simp [Instr.findAsking, sameNow_ok hu hs, findNow_asking hu k w l (i + 1) r h]
    · cases h

theorem run_findKey' {t : TypeId} {d : TypeDesc} (hu : P.underlying t = some d) (k : Value) (w : World) (l : List MapEntry) : (Instr.findKey t k l).run P w = (Instr.findAsking t k l 0).run P w := by
  simp only [Instr.findKey, Sem.run_bind, run_underlying hu, Result.andThen_ok]
  split
  · rename_i r hr; rw [findNow_asking hu k w l 0 r hr]; rfl
  · rfl

/-- what looking a key up finds -/
def Found (c : EqC) (a : AV) (as : List (AV × AV × Nat)) (es : List MapEntry) (i0 : Nat) : Option (AV × Nat) → Option (Nat × Value) → Prop
  | none, R => R = none
  | some (v, st), R => ∃ i e q, R = some (i0 + i, e.val) ∧ es[i]? = some e ∧ as[i]? = some (q, v, st) ∧ keyEq c a q = some true

theorem findE_ok {t : TypeId} {a : AV} {k : Value} {as : List (AV × AV × Nat)} {es : List MapEntry} (hk : VR P K a k) (hm : MR P K as es) (w : World) : ∀ (i0 : Nat) {r : Option (AV × Nat)}, findE (eqC P t false) a as = some r →
    ∃ R, (Instr.findAsking t k es i0).run P w = .ok R w ∧ Found (eqC P t false) a as es i0 r R := by
  induction hm with
  | nil => intro i0 r h; cases h; exact ⟨none, by simp [Instr.findAsking], rfl⟩
  | cons q v n e l es h1 h2 h3 h4 ih =>
    intro i0 r h
    have h' : ob (keyEq (eqC P t false) a q) (fun b => bif_ b (some (some (v, n))) (findE (eqC P t false) a l)) = some r := h
    rw [ob_some] at h'
    obtain ⟨b, hb, h'⟩ := h'
    have he := (eqAV_ok (w := w) hk h1 (keyEq_eqAV hb)).1
    cases b with
    | true => cases h'; exact ⟨_, by simp [Instr.findAsking, he], 0, e, q, rfl, rfl, rfl, hb⟩
    | false =>
      obtain ⟨R, hR1, hR2⟩ := ih (i0 + 1) (r := r) h'
      refine ⟨R, by simp [Instr.findAsking, he, hR1], ?_⟩
      cases r with
      | none => exact hR2
      | some p =>
        obtain ⟨v', st⟩ := p
        obtain ⟨i, e', q', g1, g2, g3, g4⟩ := hR2
        exact ⟨i + 1, e', q', by rw [g1, Nat.add_assoc, Nat.add_comm 1 i], by simpa using g2, by simpa using g3, g4⟩

theorem findK_ok {t : TypeId} {a : AV} {k : Value} {as : List (AV × AV × Nat)} {es : List MapEntry} (hk : VR P K a k) (hm : MR P K as es) (w : World) {r : Option (AV × Nat)} (h : findK (eqC P t false) a as = some r) :
    (∀ em, (Instr.checkKey em 10000 t k).run P w = .ok () w) ∧ ∃ R, (Instr.findKey t k es).run P w = .ok R w ∧ Found (eqC P t false) a as es 0 r R := by
  unfold findK at h
  rw [ob_some] at h
  obtain ⟨b, hb, h⟩ := h
  obtain ⟨d, hu⟩ := eqC_some (keyEq_eqAV hb)
  rw [run_findKey' hu]
  exact ⟨fun em => keyEq_check hk hk hb em w, findE_ok hk hm w 0 h⟩

theorem MR.get {as : List (AV × AV × Nat)} {es : List MapEntry} (hm : MR P K as es) {i : Nat} {q v : AV} {n : Nat} (h : as[i]? = some (q, v, n)) : ∃ e, es[i]? = some e ∧ VR P K q e.key ∧ VR P K v e.val ∧ e.born = n := by
  induction hm generalizing i with
  | nil => simp at h
  | cons k v' n' e l r h1 h2 h3 h4 ih =>
    cases i with
    | zero => simp at h; obtain ⟨rfl, rfl, rfl⟩ := h; exact ⟨e, rfl, h1, h2, h3⟩
    | succ i => simpa using ih (by simpa using h)
end

section
variable {G : Gx} {K : Kx} {h : Heap} {ks : List Nat}

theorem look_ok (hr : HR G K h ks) {t kt e : TypeId} {z m k r : AV} {ok : Bool} {x y : Value} (hu : G.P.underlying t = some (.map kt e)) (hz : z1T G.P e = some z) (hx : VR G.P K m x) (hy : VR G.P K k y)
    (hc : lookA h (eqC G.P kt false) z ok m k = some r) : YP G.P K (Instr.lookup t x y ok) r := by
  obtain ⟨zv, hz1, hz2⟩ := run_z1T hz K.w
  simp only [lookA, ob_some] at hc
  obtain ⟨as, h1, f, h2, h3⟩ := hc
  have main : ∀ (es : List MapEntry), MR G.P K as es → ∃ v b u, (Instr.findKey kt y es).run G.P K.w = .ok v K.w ∧ (∀ em, (Instr.checkKey em 10000 kt y).run G.P K.w = .ok () K.w) ∧
      ((v = none ∧ u = zv ∧ b = false) ∨ ∃ i, v = some (i, u) ∧ b = true) ∧ VR G.P K r (if ok then .tuple #[u, .bool b] else u) := by
    intro es hm
    obtain ⟨g1, R, g2, g3⟩ := findK_ok hy hm K.w h2
    cases f with
    | none =>
      cases g3
      simp only [Option.some.injEq] at h3
      subst h3
      refine ⟨none, false, zv, g2, g1, .inl ⟨rfl, rfl, rfl⟩, ?_⟩
      rw [bif_eq]
      split
      · exact VR.tup _ [zv, .bool false] (.cons _ _ _ _ (hz2 K) (.cons _ _ _ _ (.bool _) .nil))
      · exact hz2 K
    | some p =>
      obtain ⟨v, st⟩ := p
      obtain ⟨i, e', q, rfl, a2, a3, a4⟩ := g3
      obtain ⟨e'', b1, b2, b3, b4⟩ := hm.get a3
      rw [a2] at b1
      cases b1
      simp only [Option.some.injEq] at h3
      subst h3
      refine ⟨_, true, e'.val, g2, g1, .inr ⟨_, rfl, rfl⟩, ?_⟩
      rw [bif_eq]
      split
      · exact VR.tup _ [e'.val, .bool true] (.cons _ _ _ _ b3 (.cons _ _ _ _ (.bool _) .nil))
      · exact b3
  cases hx <;> simp only [reduceCtorEq] at h1
  case nilm =>
    cases h1
    obtain ⟨v, b, u, g1, g2, g3, g4⟩ := main [] .nil
    refine ⟨_, ?_, g4⟩
    rcases g3 with ⟨rfl, rfl, rfl⟩ | ⟨i, rfl, rfl⟩
    · simp [Instr.lookup, run_underlying hu, g2, g1, hz1]
    · simp [Instr.lookup, run_underlying hu, g2, g1]
  case mp b hd =>
    simp only [ob_some, Option.some.injEq] at h1
    obtain ⟨m, hm, rfl⟩ := h1
    obtain ⟨ces, c1, c2, _⟩ := hr.map hd (getMap_some.1 hm)
    obtain ⟨v, b, u, g1, g2, g3, g4⟩ := main ces.toList c2
    refine ⟨_, ?_, g4⟩
    rcases g3 with ⟨rfl, rfl, rfl⟩ | ⟨i, rfl, rfl⟩
    · simp [Instr.lookup, run_underlying hu, run_getObj_map c1, g2, g1, hz1]
    · simp [Instr.lookup, run_underlying hu, run_getObj_map c1, g2, g1]

end
end Hx
