/- The machine (part 2). -/
import Derived.Test.YtpjkppnbnopmmaaGreatHx1
import Derived.Laws.AppendOwn
/- The keys of maps; looking up; composite values. -/
namespace Hx
open Go

section
variable {P : Program} {K : Kx}

/-! Keys. -/
def ckFields (em : Bool) (d : Nat) (cs : Array Value) : List Field → Sem Unit
  | [] => pure ()
  | f :: r => do
    if f.name ≠ "_" then
      Instr.checkKey em d f.type (← part f.type cs f.offset)
    ckFields em d cs r
def ckElems (em : Bool) (d : Nat) (e : TypeId) (cs : Array Value) : List Nat → Sem Unit
  | [] => pure ()
  | i :: r => do
    Instr.checkKey em d e (← part e cs (i * (← Go.sizeOf e)))
    ckElems em d e cs r

theorem run_check_struct (w : World) (em : Bool) (d : Nat) (t : TypeId) (fs : Array Field) (cs : Array Value) (ht : P.underlying t = some (.struct fs)) :
    (Instr.checkKey em (d + 1) t (.agg cs)).run P w = (ckFields em d cs fs.toList).run P w := by
  simp only [Instr.checkKey, Sem.run_bind, run_underlying ht, Result.andThen_ok]
  rw [← Array.forIn_toList]
  generalize fs.toList = l
  clear ht
  induction l generalizing w with
  | nil => simp [ckFields]
  | cons f l ih =>
    simp only [List.forIn_cons, ckFields, Sem.run_bind, Sem.run_ite]
    split
    · generalize (part f.type cs f.offset).run P w = r1
      cases r1 with
      | ok a w1 =>
        simp only [Result.andThen_ok]
        generalize (Instr.checkKey em d f.type a).run P w1 = r2
        cases r2 with
        | ok b w2 => simp only [Result.andThen_ok, Sem.run_pure]; exact ih w2
        | halt x w2 => simp [Result.andThen]
      | halt x w1 => simp [Result.andThen]
    · simp only [Sem.run_pure, Result.andThen_ok]
      exact ih w
theorem run_check_array (w : World) (em : Bool) (d : Nat) (t e : TypeId) (len _n : Nat) (cs : Array Value) (ht : P.underlying t = some (.array len e)) :
    (Instr.checkKey em (d + 1) t (.agg cs)).run P w = (ckElems em d e cs (List.range' 0 len)).run P w := by
  simp only [Instr.checkKey, Sem.run_bind, run_underlying ht, Result.andThen_ok]
  rw [Std.Legacy.Range.forIn_eq_forIn_range']
  simp only [Std.Legacy.Range.size, Nat.sub_zero, Nat.add_sub_cancel, Nat.div_one]
  generalize List.range' 0 len = l
  clear ht
  induction l generalizing w with
  | nil => simp [ckElems]
  | cons i l ih =>
    simp only [List.forIn_cons, ckElems, Sem.run_bind]
    generalize (Go.sizeOf e).run P w = r0
    cases r0 with
    | ok s w0 =>
      simp only [Result.andThen_ok]
      generalize (part e cs (i * s)).run P w0 = r1
      cases r1 with
      | ok a w1 =>
        simp only [Result.andThen_ok]
        generalize (Instr.checkKey em d e a).run P w1 = r2
        cases r2 with
        | ok b w2 => simp only [Result.andThen_ok, Sem.run_pure]; exact ih w2
        | halt x w2 => simp [Result.andThen]
      | halt x w1 => simp [Result.andThen]
    | halt x w0 => simp [Result.andThen]

theorem check_ok {w : World} {em : Bool} : ∀ (d : Nat) {t : TypeId} {ps : List Bool}, eqL P d t = some ps → ∀ {D : Nat}, d ≤ D → ∀ {xs : List Value}, xs.length = ps.length → ∀ {x : Value}, Shape P t xs x →
    (Instr.checkKey em D t x).run P w = .ok () w
  | 0, t, ps, he, _, _, _, _, _, _ => by simp [eqL] at he
  | d + 1, t, ps, he, D, hD, xs, hl, x, hx => by
    obtain ⟨D, rfl⟩ : ∃ D', D = D' + 1 := ⟨D - 1, by omega⟩
    have hsz := eqL_size he
    unfold eqL at he
    split at he
    · rename_i hu; rw [Instr.checkKey]; simp [run_underlying hu]
    · rename_i k hu; rw [Instr.checkKey]; simp [run_underlying hu]
    · rename_i fs hu
      split at he
      · cases he
      · rw [Option.bind_eq_some_iff] at he
        obtain ⟨l, hf, he⟩ := he
        split at he
        · cases he
          have hg : agT P t = some true := by simp [agT, hu, aggD]
          rcases hx with ⟨_, rfl⟩ | ⟨h, _⟩
          case inr => rw [hg] at h; cases h
          rw [run_check_struct w em D t fs _ hu]
          clear hu hg hsz
          have key : ∀ (fl : List Field) (n : Nat) (l : List Bool), eqF (eqL P d) fl n = some l → xs.length = n + l.length → (ckFields em D xs.toArray fl).run P w = .ok () w := by
            intro fl
            induction fl with
            | nil => intro n l _ _; simp [ckFields]
            | cons f fl ih =>
              intro n l h1 hlen
              simp only [eqF] at h1
              split at h1
              · rename_i hno
                rw [Option.bind_eq_some_iff] at h1
                obtain ⟨s, hs, h1⟩ := h1
                rw [Option.map_eq_some_iff] at h1
                obtain ⟨l', hl', rfl⟩ := h1
                simp at hno
                obtain ⟨hno1, hno2⟩ := hno
                obtain ⟨s1, s2, s3⟩ := eqL_size hs
                simp only [List.length_append] at hlen
                obtain ⟨u, hu1, hu2⟩ := run_part (o := n) w s1 s2 s3 (xs := xs) (by omega)
                have hc := check_ok (w := w) (em := em) d hs (D := D) (by omega) (xs := (xs.drop n).take s.length) (by simp; omega) hu2
                have ih' := ih (n + s.length) l' hl' (by omega)
                simp [ckFields, hno1, hno2, hu1, hc, ih']
              · cases h1
          exact key fs.toList 0 _ hf (by omega)
        · cases he
    · rename_i m e hu
      rw [Option.bind_eq_some_iff] at he
      obtain ⟨s, hs, he⟩ := he
      split at he
      · cases he
        have hg : agT P t = some true := by simp [agT, hu, aggD]
        rcases hx with ⟨_, rfl⟩ | ⟨h, _⟩
        case inr => rw [hg] at h; cases h
        obtain ⟨s1, s2, s3⟩ := eqL_size hs
        rw [run_check_array w em D t e m s.length _ hu]
        clear hu hg hsz
        simp only [List.length_flatten, List.map_replicate, List.sum_replicate_nat] at hl
        have key : ∀ (k i : Nat), i + k = m → (ckElems em D e xs.toArray (List.range' i k)).run P w = .ok () w := by
          intro k
          induction k with
          | zero => intro i _; simp [ckElems]
          | succ k ih =>
            intro i hik
            have hb : i * s.length + s.length ≤ m * s.length := by rw [← Nat.succ_mul]; exact Nat.mul_le_mul_right _ (by omega)
            obtain ⟨u, hu1, hu2⟩ := run_part (o := i * s.length) w s1 s2 s3 (xs := xs) (by omega)
            have hc := check_ok (w := w) (em := em) d hs (D := D) (by omega) (xs := (xs.drop (i * s.length)).take s.length) (by simp; omega) hu2
            rw [List.range'_succ]
            simp [ckElems, run_szT s1, hu1, hc, ih (i + 1) (by omega)]
        exact key m 0 (by omega)
      · cases he
    · cases he

theorem keyEq_eqAV {t : TypeId} {a b : AV} {r : Bool} (h : keyEq (eqC P t false) a b = some r) : eqAV (eqC P t false) a b = some r := by
  unfold keyEq at h
  split at h
  · rename_i hc; rw [hc]; exact h
  · rename_i hc; rw [hc]; exact h
  · rename_i hc; rw [hc]; exact h
  · cases h

theorem cells_same {ps : List Bool} {as bs : List AV} {xs ys : List Value} (hx : VRs P K as xs) (hy : VRs P K bs ys) (h : eqCells ps as bs = some true) :
    xs = ys ∧ ∀ n, (xs.zip ys).all (fun (x, y) => Instr.sameBits n x y) = true := by
  induction ps generalizing as bs xs ys with
  | nil => cases as <;> cases bs <;> simp [eqCells] at h; cases hx; cases hy; simp
  | cons p ps ih =>
    cases hx with
    | nil => simp [eqCells] at h
    | cons a x as xs ha has =>
      cases hy with
      | nil => simp [eqCells] at h
      | cons b y bs ys hb hbs =>
        simp only [eqCells, ob_some, Option.some.injEq, Bool.and_eq_true] at h
        obtain ⟨q, h1, s, h2, rfl, rfl⟩ := h
        obtain ⟨rfl, h3⟩ := ih has hbs h2
        rcases eqCell_run ha hb h1 with ⟨_, u, v, rfl, rfl, he⟩ | ⟨_, k, u, v, rfl, rfl, he⟩
        · have : u = v := by simpa using he.symm
          subst this
          exact ⟨rfl, fun n => by rw [List.zip_cons_cons, List.all_cons, h3 n]; simp [Instr.sameBits]⟩
        · have : u = v := by simpa using he.symm
          subst this
          exact ⟨rfl, fun n => by rw [List.zip_cons_cons, List.all_cons, h3 n]; simp [Instr.sameBits]⟩

/-- keys that are equal are the same value -/
theorem keyEq_same {t : TypeId} {a b : AV} {x y : Value} (hx : VR P K a x) (hy : VR P K b y) (h : keyEq (eqC P t false) a b = some true) : x = y ∧ Instr.sameBits 10000 x y = true := by
  unfold keyEq at h
  split at h
  · rcases eqCell_run hx hy h with ⟨h, _⟩ | ⟨_, k, u, v, rfl, rfl, he⟩
    · cases h
    · have : u = v := by simpa using he.symm
      subst this; exact ⟨rfl, by simp [Instr.sameBits]⟩
  · rcases eqCell_run hx hy h with ⟨_, u, v, rfl, rfl, he⟩ | ⟨h, _⟩
    · have : u = v := by simpa using he.symm
      subst this; exact ⟨rfl, by simp [Instr.sameBits]⟩
    · cases h
  · cases hx <;> simp only [eqAV, reduceCtorEq] at h <;> cases hy <;> simp only [reduceCtorEq] at h
    rename_i as xs hxs bs ys hys
    obtain ⟨rfl, h2⟩ := cells_same hxs hys h
    refine ⟨rfl, ?_⟩
    show (xs.toArray.size == xs.toArray.size && (xs.toArray.toList.zip xs.toArray.toList).all fun (x, y) => Instr.sameBits 9999 x y) = true
    simpa using h2 9999
  · cases h

theorem keyEq_check {t : TypeId} {a b : AV} {x y : Value} (hx : VR P K a x) (hy : VR P K b y) {r : Bool} (h : keyEq (eqC P t false) a b = some r) (em : Bool) (w : World) : (Instr.checkKey em 10000 t x).run P w = .ok () w := by
  have e : ∀ D, (Instr.checkKey em (D + 6) t x).run P w = .ok () w := by
    intro D
    unfold eqC at h
    split at h
    · rename_i hu; rw [Instr.checkKey]; simp [run_underlying hu]
    · rename_i hu; rw [Instr.checkKey]; simp [run_underlying hu]
    all_goals first
      | (simp [keyEq] at h; done)
      | (split at h <;> simp [keyEq] at h <;> done)
      | skip
    all_goals
      split at h
      · rename_i ps he
        cases hx <;> simp only [keyEq, eqAV, reduceCtorEq] at h <;> cases hy <;> simp only [reduceCtorEq] at h
        rename_i as xs hxs bs ys hys
        have hg : agT P t = some true := by unfold agT; simp [*, aggD]
        exact check_ok 6 he (by omega) (xs := xs) (by rw [hxs.length]; exact (eqCells_len h).1) (.inl ⟨hg, rfl⟩)
      · simp [keyEq] at h
  exact e 9994

theorem eqC_some {t : TypeId} {a b : AV} {r c : Bool} (h : eqAV (eqC P t c) a b = some r) : ∃ d, P.underlying t = some d := by
  cases hu : P.underlying t with
  | none => simp [eqC, hu, eqAV] at h
  | some d => exact ⟨d, rfl⟩

theorem sameNow_ok {t : TypeId} {d : TypeDesc} (hu : P.underlying t = some d) {x y : Value} {b : Bool} (h : Instr.sameNow d x y = some b) (w : World) : (Op.equal t x y).run P w = .ok b w := by
  have e : ∀ D, (Op.equalIn (D + 1) t x y).run P w = .ok b w := by
    intro D
    cases d <;> cases x <;> cases y <;> simp only [Instr.sameNow, reduceCtorEq] at h
    · rw [Op.equalIn]; simp [run_underlying hu]; simpa using h
    · rename_i k k1 n1 k2 n2
      split at h
      · rename_i hk; subst hk; rw [Op.equalIn]; simp [run_underlying hu]; simpa using h
      · cases h
    · rw [Op.equalIn]; simp [run_underlying hu]; simpa using h
  exact e 9999

theorem findNow_asking {t : TypeId} {d : TypeDesc} (hu : P.underlying t = some d) (k : Value) (w : World) : ∀ (l : List MapEntry) (i : Nat) (r : Option (Nat × Value)), Instr.findNow d k l i = some r → (Instr.findAsking t k l i).run P w = .ok r w
  | [], i, r, h => by simp [Instr.findNow] at h; subst h; simp [Instr.findAsking]
  | e :: l, i, r, h => by
    simp only [Instr.findNow] at h
    split at h
    · rename_i hs; cases h; simp [Instr.findAsking, sameNow_ok hu hs]
    · rename_i hs; simp [Instr.findAsking, sameNow_ok hu hs, findNow_asking hu k w l (i + 1) r h]
    · cases h

theorem run_findKey' {t : TypeId} {d : TypeDesc} (hu : P.underlying t = some d) (k : Value) (w : World) (l : List MapEntry) : (Instr.findKey t k l).run P w = (Instr.findAsking t k l 0).run P w := by
  simp only [Instr.findKey, Sem.run_bind, run_underlying hu, Result.andThen_ok]
  split
  · rename_i r hr; rw [findNow_asking hu k w l 0 r hr]; rfl
  · rfl

/-- what looking a key up finds -/
def Found (c : EqC) (a : AV) (as : List (AV × AV × Nat)) (es : List MapEntry) (i0 : Nat) : Option (AV × Nat) → Option (Nat × Value) → Prop
  | none, R => R = none
  | some (v, st), R => ∃ i e q, R = some (i0 + i, e.val) ∧ es[i]? = some e ∧ as[i]? = some (q, v, st) ∧ keyEq c a q = some true

theorem findE_ok {t : TypeId} {a : AV} {k : Value} {as : List (AV × AV × Nat)} {es : List MapEntry} (hk : VR P K a k) (hm : MR P K as es) (w : World) : ∀ (i0 : Nat) {r : Option (AV × Nat)}, findE (eqC P t false) a as = some r →
    ∃ R, (Instr.findAsking t k es i0).run P w = .ok R w ∧ Found (eqC P t false) a as es i0 r R := by
  induction hm with
  | nil => intro i0 r h; cases h; exact ⟨none, by simp [Instr.findAsking], rfl⟩
  | cons q v n e l es h1 h2 h3 h4 ih =>
    intro i0 r h
    have h' : ob (keyEq (eqC P t false) a q) (fun b => bif_ b (some (some (v, n))) (findE (eqC P t false) a l)) = some r := h
    rw [ob_some] at h'
    obtain ⟨b, hb, h'⟩ := h'
    have he := (eqAV_ok (w := w) hk h1 (keyEq_eqAV hb)).1
    cases b with
    | true => cases h'; exact ⟨_, by simp [Instr.findAsking, he], 0, e, q, rfl, rfl, rfl, hb⟩
    | false =>
      obtain ⟨R, hR1, hR2⟩ := ih (i0 + 1) (r := r) h'
      refine ⟨R, by simp [Instr.findAsking, he, hR1], ?_⟩
      cases r with
      | none => exact hR2
      | some p =>
        obtain ⟨v', st⟩ := p
        obtain ⟨i, e', q', g1, g2, g3, g4⟩ := hR2
        exact ⟨i + 1, e', q', by rw [g1, Nat.add_assoc, Nat.add_comm 1 i], by simpa using g2, by simpa using g3, g4⟩

theorem findK_ok {t : TypeId} {a : AV} {k : Value} {as : List (AV × AV × Nat)} {es : List MapEntry} (hk : VR P K a k) (hm : MR P K as es) (w : World) {r : Option (AV × Nat)} (h : findK (eqC P t false) a as = some r) :
    (∀ em, (Instr.checkKey em 10000 t k).run P w = .ok () w) ∧ ∃ R, (Instr.findKey t k es).run P w = .ok R w ∧ Found (eqC P t false) a as es 0 r R := by
  unfold findK at h
  rw [ob_some] at h
  obtain ⟨b, hb, h⟩ := h
  obtain ⟨d, hu⟩ := eqC_some (keyEq_eqAV hb)
  rw [run_findKey' hu]
  exact ⟨fun em => keyEq_check hk hk hb em w, findE_ok hk hm w 0 h⟩

theorem MR.get {as : List (AV × AV × Nat)} {es : List MapEntry} (hm : MR P K as es) {i : Nat} {q v : AV} {n : Nat} (h : as[i]? = some (q, v, n)) : ∃ e, es[i]? = some e ∧ VR P K q e.key ∧ VR P K v e.val ∧ e.born = n := by
  induction hm generalizing i with
  | nil => simp at h
  | cons k v' n' e l r h1 h2 h3 h4 ih =>
    cases i with
    | zero => simp at h; obtain ⟨rfl, rfl, rfl⟩ := h; exact ⟨e, rfl, h1, h2, h3⟩
    | succ i => simpa using ih (by simpa using h)
end

section
variable {G : Gx} {K : Kx} {h : Heap} {ks : List Nat}

theorem look_ok (hr : HR G K h ks) {t kt e : TypeId} {z m k r : AV} {ok : Bool} {x y : Value} (hu : G.P.underlying t = some (.map kt e)) (hz : z1T G.P e = some z) (hx : VR G.P K m x) (hy : VR G.P K k y)
    (hc : lookA h (eqC G.P kt false) z ok m k = some r) : YP G.P K (Instr.lookup t x y ok) r := by
  obtain ⟨zv, hz1, hz2⟩ := run_z1T hz K.w
  simp only [lookA, ob_some] at hc
  obtain ⟨as, h1, f, h2, h3⟩ := hc
  have main : ∀ (es : List MapEntry), MR G.P K as es → ∃ v b u, (Instr.findKey kt y es).run G.P K.w = .ok v K.w ∧ (∀ em, (Instr.checkKey em 10000 kt y).run G.P K.w = .ok () K.w) ∧
      ((v = none ∧ u = zv ∧ b = false) ∨ ∃ i, v = some (i, u) ∧ b = true) ∧ VR G.P K r (if ok then .tuple #[u, .bool b] else u) := by
    intro es hm
    obtain ⟨g1, R, g2, g3⟩ := findK_ok hy hm K.w h2
    cases f with
    | none =>
      cases g3
      simp only [Option.some.injEq] at h3
      subst h3
      refine ⟨none, false, zv, g2, g1, .inl ⟨rfl, rfl, rfl⟩, ?_⟩
      rw [bif_eq]
      split
      · exact VR.tup _ [zv, .bool false] (.cons _ _ _ _ (hz2 K) (.cons _ _ _ _ (.bool _) .nil))
      · exact hz2 K
    | some p =>
      obtain ⟨v, st⟩ := p
      obtain ⟨i, e', q, rfl, a2, a3, a4⟩ := g3
      obtain ⟨e'', b1, b2, b3, b4⟩ := hm.get a3
      rw [a2] at b1
      cases b1
      simp only [Option.some.injEq] at h3
      subst h3
      refine ⟨_, true, e'.val, g2, g1, .inr ⟨_, rfl, rfl⟩, ?_⟩
      rw [bif_eq]
      split
      · exact VR.tup _ [e'.val, .bool true] (.cons _ _ _ _ b3 (.cons _ _ _ _ (.bool _) .nil))
      · exact b3
  cases hx <;> simp only [reduceCtorEq] at h1
  case nilm =>
    cases h1
    obtain ⟨v, b, u, g1, g2, g3, g4⟩ := main [] .nil
    refine ⟨_, ?_, g4⟩
    rcases g3 with ⟨rfl, rfl, rfl⟩ | ⟨i, rfl, rfl⟩
    · simp [Instr.lookup, run_underlying hu, g2, g1, hz1]
    · simp [Instr.lookup, run_underlying hu, g2, g1]
  case mp b hd =>
    simp only [ob_some, Option.some.injEq] at h1
    obtain ⟨m, hm, rfl⟩ := h1
    obtain ⟨ces, c1, c2, _⟩ := hr.map hd (getMap_some.1 hm)
    obtain ⟨v, b, u, g1, g2, g3, g4⟩ := main ces.toList c2
    refine ⟨_, ?_, g4⟩
    rcases g3 with ⟨rfl, rfl, rfl⟩ | ⟨i, rfl, rfl⟩
    · simp [Instr.lookup, run_underlying hu, run_getObj_map c1, g2, g1, hz1]
    · simp [Instr.lookup, run_underlying hu, run_getObj_map c1, g2, g1]

end
end Hx

/- The operations that make blocks; composite values. -/
namespace Hx
open Go

section
variable {G : Gx} {K : Kx} {h : Heap} {ks : List Nat}

/-- a value and one more block -/
def NewP (G : Gx) (K : Kx) (n : Nat) (s : Sem Value) (v : AV) (blk : Blk) : Prop :=
  ∃ x w' o, s.run G.P K.w = .ok x w' ∧ (w'.heap = K.w.heap.push o ∧ FrW K.w w') ∧ VR G.P (K.new n w') v x ∧ BR G (K.new n w') n blk

theorem Kx.new_bl {K : Kx} {n : Nat} {w' : World} : (K.new n w').bl n = K.w.heap.size := if_pos rfl
theorem Kx.new_sh {K : Kx} {n : Nat} {w' : World} : (K.new n w').sh n = 0 := if_pos rfl

theorem BR.ofRow {n : Nat} {w' : World} {c : Array Value} {e : TypeId} {cs : List AV} (hw : w'.heap = K.w.heap.push (.cells c e (0, 0))) (hf : FrW K.w w') (hn : ¬ K.D n) (hv : VRs G.P K cs c.toList) : BR G (K.new n w') n (.row cs e) := by
  refine ⟨c, c.toList, ?_, hv.mono (Kx.new_le hf hw hn), fun i v hi => ?_, ?_⟩
  · rw [Kx.new_bl]; show w'.heap[_]? = _; rw [hw]; simp
  · rw [Kx.new_sh, Nat.zero_add]; simpa using hi
  · rw [Kx.new_sh]; have := hv.length; simp at this; omega

theorem BR.ofRowP {n : Nat} {w' : World} {c : Array Value} {e : TypeId} {cs : List AV} {cvs r : List Value} (hw : w'.heap = K.w.heap.push (.cells c e (0, 0))) (hf : FrW K.w w') (hn : ¬ K.D n) (hv : VRs G.P K cs cvs) (hc : c.toList = cvs ++ r) :
    BR G (K.new n w') n (.row cs e) := by
  refine ⟨c, cvs, ?_, hv.mono (Kx.new_le hf hw hn), fun i v hi => ?_, ?_⟩
  · rw [Kx.new_bl]; show w'.heap[_]? = _; rw [hw]; simp
  · rw [Kx.new_sh, Nat.zero_add, ← Array.getElem?_toList, hc, List.getElem?_append_left (List.getElem?_eq_some_iff.mp hi).1]; exact hi
  · rw [Kx.new_sh]; have := hv.length; have h2 := congrArg List.length hc; simp at h2; omega

theorem VR.newPtr {P : Program} {n : Nat} {w' : World} : VR P (K.new n w') (.ptr n 0) (.pointer (some ⟨K.w.heap.size, 0, none⟩)) := by
  have h := VR.ptr (P := P) (K := K.new n w') n 0 (.inr rfl)
  rw [Kx.new_bl, Kx.new_sh] at h
  exact h
theorem VR.newSlice {P : Program} {n : Nat} {w' : World} {c : Array Value} {e : TypeId} {len cap : Nat} (hw : w'.heap = K.w.heap.push (.cells c e (0, 0))) (hl : len ≤ cap) (hc : cap * P.cellsOf e ≤ c.size) :
    VR P (K.new n w') (.msl e n 0 len) (.slice (some ⟨K.w.heap.size, 0, none⟩) len cap) := by
  have h := VR.msl (P := P) (K := K.new n w') e n 0 len cap c e (0, 0) (.inr rfl) hl (by rw [Kx.new_bl]; show w'.heap[_]? = _; rw [hw]; simp) (by rw [Kx.new_sh]; omega)
  rw [Kx.new_bl, Kx.new_sh] at h
  exact h

theorem run_newRow {P : Program} {w : World} (e : TypeId) (c : Array Value) : (newRow e c).run P w = .ok ⟨w.heap.size, 0, none⟩ { w with heap := w.heap.push (.cells c e (0, 0)) } := rfl

theorem alloc_ok {n : Nat} {e : TypeId} {z : List AV} (hn : ¬ K.D n) (hz : zeT G.P e = some z) : NewP G K n (Instr.alloc e true (.tuple #[])) (.ptr n 0) (.row z e) := by
  obtain ⟨zv, h1, h2⟩ := run_zeT hz K.w
  exact ⟨_, { K.w with heap := K.w.heap.push (.cells zv.cells e (0, 0)) }, _, by simp [Instr.alloc, h1, newVar, run_newRow], ⟨rfl, FrW.push rfl rfl rfl rfl⟩, VR.newPtr, BR.ofRow rfl (FrW.push rfl rfl rfl rfl) hn (h2 K)⟩

theorem box_ok {n : Nat} {e : TypeId} {v : AV} {x : Value} (hn : ¬ K.D n) (hv : VR G.P K v x) : NewP G K n (Instr.box e x) (.ptr n 0) (.row v.cells e) :=
  ⟨_, { K.w with heap := K.w.heap.push (.cells x.cells e (0, 0)) }, _, by simp [Instr.box, newVar, run_newRow], ⟨rfl, FrW.push rfl rfl rfl rfl⟩, VR.newPtr, BR.ofRow rfl (FrW.push rfl rfl rfl rfl) hn hv.cells⟩

theorem mkm_ok {n : Nat} {t : TypeId} : NewP G K n (Instr.makeMap t none) (.mp n) (.mp [] 0) := by
  refine ⟨.map (some K.w.heap.size), { K.w with heap := K.w.heap.push (.map #[] 0) }, _, rfl, ⟨rfl, FrW.push rfl rfl rfl rfl⟩, ?_, ?_⟩
  · have h := VR.mp (P := G.P) (K := K.new n { K.w with heap := K.w.heap.push (.map #[] 0) }) n (.inr rfl)
    rw [Kx.new_bl] at h
    exact h
  · refine ⟨#[], ?_, .nil, fun i j a b h => by simp at h, fun i a h => by simp at h⟩
    rw [Kx.new_bl]; show (K.w.heap.push _)[_]? = _; simp

/-! parts over zeros -/
theorem foldl_set (B : List Value) : ∀ (A : Array Value) (off k : Nat), off + k + B.length ≤ A.size →
    ((B.zipIdx k).foldl (fun cs (p : Value × Nat) => cs.setIfInBounds (off + p.2) p.1) A).toList = A.toList.take (off + k) ++ B ++ A.toList.drop (off + k + B.length) := by
  induction B with
  | nil => intro A off k _; simp
  | cons v B ih =>
    intro A off k hl
    simp only [List.length_cons] at hl
    rw [List.zipIdx_cons, List.foldl_cons, ih _ off (k + 1) (by simp; omega), Array.toList_setIfInBounds]
    have e := list_seg_step A.toList (off + k) v B (by simp; omega)
    simpa [Nat.add_assoc] using e

theorem fill_ok {P : Program} {co : CoF} {ρ : Operand → Value} {stk vs : List AV} {place place' : Nat → Option (Nat × Nat)} (hco : ∀ x f v, co x = some f → f stk vs = some v → VR P K v (ρ x))
    (hpl : ∀ i q, place i = some q → place' i = some q) : ∀ (parts : List (Nat × Operand)) {ps : Parts}, coParts co place parts = some ps → ∀ {cs cs' : List AV} {cells : Array Value}, VRs P K cs cells.toList → fillParts stk vs ps cs = some cs' →
    ∃ cells', Instr.fill place' cells (parts.map fun p => (p.1, ρ p.2)) = some cells' ∧ VRs P K cs' cells'.toList
  | [], ps, hp, cs, cs', cells, hv, hf => by
    cases hp
    cases hf
    exact ⟨cells, rfl, hv⟩
  | p :: parts, ps, hp, cs, cs', cells, hv, hf => by
    unfold coParts at hp
    split at hp
    · rename_i q x l hq hx hl
      cases hp
      have hf' : ob (x stk vs) (fun v => bif_ (Nat.beq (lenL v.cells) q.2) (ob (setL q.1 v.cells cs) (fillParts stk vs l)) none) = some cs' := hf
      simp only [ob_some, bif_none, Nat.beq_eq, lenL_eq, setL_eq] at hf'
      obtain ⟨v, hx', hlen, c1, hc1, hf'⟩ := hf'
      split at hc1
      · rename_i hb
        cases hc1
        have hvx := hco _ _ _ hx hx'
        have hcs := hv.length
        have hvc := hvx.cells
        have hvl := hvc.length
        have hset := foldl_set (ρ p.2).cells.toList cells q.1 0 (by simp at hcs hvl ⊢; omega)
        have hvz : (ρ p.2).cells.zipIdx.foldl (fun cs (p : Value × Nat) => cs.setIfInBounds (q.1 + p.2) p.1) cells = ((ρ p.2).cells.toList.zipIdx 0).foldl (fun cs (p : Value × Nat) => cs.setIfInBounds (q.1 + p.2) p.1) cells := by
          rw [← Array.foldl_toList]; simp
        have hv2 : VRs P K (cs.take q.1 ++ v.cells ++ cs.drop (q.1 + v.cells.length)) (((ρ p.2).cells.zipIdx.foldl (fun cs (p : Value × Nat) => cs.setIfInBounds (q.1 + p.2) p.1) cells)).toList := by
          rw [hvz, hset, Nat.add_zero, hvl]
          exact ((hv.take _).append hvc).append (hv.drop _)
        obtain ⟨cells', h1, h2⟩ := fill_ok hco hpl parts hl hv2 hf'
        refine ⟨cells', ?_, h2⟩
        simp only [List.map_cons, Instr.fill]
        rw [hpl _ _ hq]
        simp only
        rw [if_neg]
        · exact h1
        · simp at hvl hcs ⊢; omega
      · cases hc1
    · cases hp

theorem build_ok {co : CoF} {ρ : Operand → Value} {stk vs : List AV} (hco : ∀ x f v, co x = some f → f stk vs = some v → VR G.P K v (ρ x)) {t : TypeId} {parts : Array (Nat × Operand)} {o : OpK} (hc : cBuild G.P co t parts = some o) :
    ∃ z ps, o = .a (aAgg z ps) ∧ ∀ cs, fillParts stk vs ps z = some cs → YP G.P K (Instr.build t (parts.map fun (i, x) => (i, ρ x))) (.agg cs) := by
  unfold cBuild at hc
  split at hc
  · rename_i fs z hu hz
    split at hc
    · rename_i l hl
      rw [Option.map_eq_some_iff] at hc
      obtain ⟨ps, hp, rfl⟩ := hc
      refine ⟨z, ps, rfl, fun cs hcs => ?_⟩
      obtain ⟨zv, h1, h2⟩ := run_zeT hz K.w
      obtain ⟨cells, h3, h4⟩ := fill_ok hco (place' := fun i => l[i]?) (fun i q h => h) parts.toList hp (h2 K) hcs
      refine ⟨.agg cells, ?_, by have := VR.agg (P := G.P) (K := K) cs cells.toList h4; simpa using this⟩
      have h5 := run_places (P := G.P) K.w _ _ hl
      simp [Instr.build, h1, run_underlying hu, Array.mapM_eq_mapM_toList, h5]
      rw [h3]; rfl
    · cases hc
  · rename_i n e z hu hz
    split at hc
    · rename_i sz hsz
      rw [Option.map_eq_some_iff] at hc
      obtain ⟨ps, hp, rfl⟩ := hc
      refine ⟨z, ps, rfl, fun cs hcs => ?_⟩
      obtain ⟨zv, h1, h2⟩ := run_zeT hz K.w
      obtain ⟨cells, h3, h4⟩ := fill_ok hco (place' := fun i => some (i * sz, sz)) (fun i q h => h) parts.toList hp (h2 K) hcs
      refine ⟨.agg cells, ?_, by have := VR.agg (P := G.P) (K := K) cs cells.toList h4; simpa using this⟩
      have e : (parts.map fun x => (x.1, ρ x.2)).toList = parts.toList.map fun p => (p.1, ρ p.2) := by simp
      simp [Instr.build, h1, run_underlying hu, run_szT hsz]
      rw [h3]; rfl
    · cases hc
  · cases hc

theorem rep_get (l : List Value) (n i : Nat) : ((List.replicate n l).flatten)[i]? = if i < n * l.length then l[i % l.length]? else none := by
  induction n generalizing i with
  | zero => simp
  | succ n ih =>
    rw [List.replicate_succ, List.flatten_cons, List.getElem?_append]
    by_cases h1 : i < l.length
    · rw [if_pos h1, if_pos (by rw [Nat.succ_mul]; omega), Nat.mod_eq_of_lt h1]
    · rw [if_neg h1, ih]
      by_cases h2 : i < (n + 1) * l.length
      · rw [if_pos (by rw [Nat.succ_mul] at h2; omega), if_pos h2, Nat.mod_eq_sub_mod (by omega : i ≥ l.length)]
      · rw [if_neg (by rw [Nat.succ_mul] at h2; omega), if_neg h2]

theorem range_mod (zero : Array Value) (n s : Nat) (hs : zero.size = s) : ((Array.range (n * s)).map (zero[· % zero.size]!)).toList = (List.replicate n zero.toList).flatten := by
  apply List.ext_getElem?
  intro i
  rw [rep_get]
  simp only [Array.toList_map, Array.toList_range, List.getElem?_map, Array.length_toList, hs]
  by_cases h : i < n * s
  · rw [if_pos h, List.getElem?_range h]
    have hp : 0 < s := by rcases Nat.eq_zero_or_pos s with h0 | h0; (· subst h0; simp at h); exact h0
    have : i % s < zero.size := by rw [hs]; exact Nat.mod_lt _ hp
    simp [this]
  · rw [if_neg h, List.getElem?_eq_none (by simpa using Nat.le_of_not_lt h)]; rfl

theorem bsl_ok {co : CoF} {ρ : Operand → Value} {stk vs : List AV} (hco : ∀ x f v, co x = some f → f stk vs = some v → VR G.P K v (ρ x)) {t : TypeId} {len : Nat} {parts : Array (Nat × Operand)} {o : OpK} (hc : cBuildSlice G.P co t len parts = some o) :
    ∃ e z ps, o = .a (aBsl e len z ps) ∧ ∀ n cs, ¬ K.D n → fillParts stk vs ps (rep z len) = some cs → NewP G K n (Instr.buildSlice t len (parts.map fun (i, x) => (i, ρ x))) (.msl e n 0 len) (.row cs e) := by
  unfold cBuildSlice at hc
  split at hc
  · rename_i e hu
    split at hc
    · rename_i sz z ps hsz hz hp
      split at hc
      · rename_i hl
        obtain ⟨hl, hzl⟩ := hl
        cases hc
        refine ⟨e, z, ps, rfl, fun n cs hn hcs => ?_⟩
        obtain ⟨zv, h1, h2⟩ := run_zeT hz K.w
        obtain ⟨_, _, _, hce⟩ := szT_some hsz
        have hzs : zv.cells.size = sz := by have := (h2 K).length; simpa [hzl] using this
        rw [rep_eq] at hcs
        have hz0 : VRs G.P K (List.replicate len z).flatten ((Array.range (len * sz)).map (zv.cells[· % zv.cells.size]!)).toList := by
          rw [range_mod _ _ _ hzs]; exact (h2 K).replicate len
        have hpl : ∀ (i : Nat) (q : Nat × Nat), elemPl ((szT G.P e).getD 0) i = some q → (fun i => some (i * sz, sz) : Nat → Option (Nat × Nat)) i = some q := fun i q h => by rw [hsz] at h; exact h
        obtain ⟨cells, h3, h4⟩ := fill_ok hco hpl parts.toList hp hz0 hcs
        have hw : cells.size = len * sz := by
          have h5 := h4.length
          have key : ∀ (ps : Parts) (c c' : List AV), fillParts stk vs ps c = some c' → c'.length = c.length := by
            intro ps
            induction ps with
            | nil => intro c c' h; cases h; rfl
            | cons p ps ih =>
              intro c c' h
              have h' : ob (p.2 stk vs) (fun v => bif_ (Nat.beq (lenL v.cells) p.1.2) (ob (setL p.1.1 v.cells c) (fillParts stk vs ps)) none) = some c' := h
              simp only [ob_some, bif_none, setL_eq] at h'
              obtain ⟨v, _, _, c1, h6, h7⟩ := h'
              split at h6
              · cases h6; rw [ih _ _ h7]; simp; omega
              · cases h6
          have h6 := key ps _ _ hcs
          simp only [Array.length_toList, List.length_flatten, List.map_replicate, List.sum_replicate_nat, hzl] at h5 h6
          omega
        refine ⟨_, { K.w with heap := K.w.heap.push (.cells cells e (0, 0)) }, _, ?_, ⟨rfl, FrW.push rfl rfl rfl rfl⟩, VR.newSlice rfl (Nat.le_refl _) (by rw [hce]; omega), BR.ofRow rfl (FrW.push rfl rfl rfl rfl) hn h4⟩
        by_cases h0 : len * sz = 0
        · have r0 : Array.range 0 = #[] := by simp
          have e2 : Instr.fill (fun i => some (i * sz, sz)) #[] (parts.toList.map fun p => (p.1, ρ p.2)) = some cells := by
            rw [← h3]; congr 1
            rw [h0, r0]; simp
          simp [Instr.buildSlice, run_underlying hu, run_szT hsz, h0, r0]
          rw [e2]
          simp [run_newRow]
        · simp [Instr.buildSlice, run_underlying hu, run_szT hsz, h0, h1, show ¬ (16777216 < len * sz) by omega]
          rw [h3]
          simp [run_newRow]
      · cases hc
    · cases hc
  · cases hc

theorem mks_ok {n sz by_ len m : Nat} {t e : TypeId} {z : List AV} {k k' : IntKind} (hu : G.P.underlying t = some (.slice e)) (hsz : szT G.P e = some sz) (hby : byT G.P e = some by_) (hz : zeT G.P e = some z) (hzl : z.length = sz) (hn : ¬ K.D n)
    (hlm : len ≤ m) (hr : roomy m by_ = true) : NewP G K n (Instr.makeSlice t (.int k (len : Int)) (.int k' (m : Int))) (.msl e n 0 len) (.row (rep z len) e) := by
  obtain ⟨zv, h1, h2⟩ := run_zeT hz K.w
  obtain ⟨i, hi1, hi2, hce⟩ := szT_some hsz
  have hzs : zv.cells.size = sz := by have := (h2 K).length; simpa [hzl] using this
  have hb : i.bytes = by_ := by unfold byT at hby; rw [hi1] at hby; simpa using hby
  simp only [roomy, Bool.and_eq_true, Nat.ble_eq] at hr
  have hwr : IntKind.i64.wrap (len : Int) = len := IntWalk.i64_in _ (by omega)
  have hwm : IntKind.i64.wrap (m : Int) = m := IntWalk.i64_in _ (by omega)
  have hroom : ∀ n, (askRoom n).run G.P K.w = .ok () K.w := fun n => by unfold askRoom; split <;> rfl
  have r0 : Array.range 0 = #[] := by simp
  have hr1 : ¬ ((281474976710656 : Int) < (by_ : Int) * (m : Int)) := by
    have : by_ * m ≤ 1099511627776 := by rw [Nat.mul_comm]; exact hr.1
    have h3 : ((by_ * m : Nat) : Int) ≤ 1099511627776 := by omega
    rw [Int.natCast_mul] at h3
    omega
  have hlt : ¬ ((m : Int) < (len : Int)) := by omega
  rw [rep_eq]
  by_cases h0 : m * sz = 0
  · refine ⟨_, { K.w with heap := K.w.heap.push (.cells #[] e (0, 0)) }, _, ?_, ⟨rfl, FrW.push rfl rfl rfl rfl⟩, VR.newSlice rfl hlm (by rw [hce]; simp; omega), BR.ofRow rfl (FrW.push rfl rfl rfl rfl) hn ?_⟩
    · simp [Instr.makeSlice, run_underlying hu, asInt, asIntOf, typeInfo, hi1, hb, hwr, hwm, run_szT hsz, h0, hr1, r0, show ¬ ((m : Int) < 0) by omega, show ¬ ((len : Int) < 0) by omega, hlt, run_newRow]
    · have : (List.replicate len z).flatten = [] := by
        apply List.eq_nil_of_length_eq_zero; simp [hzl]
        rcases Nat.mul_eq_zero.mp h0 with h | h
        · have : len = 0 := by omega
          simp [this]
        · simp [h]
      rw [this]; exact .nil
  · refine ⟨_, { K.w with heap := K.w.heap.push (.cells ((Array.range (m * sz)).map (zv.cells[· % zv.cells.size]!)) e (0, 0)) }, _, ?_, ⟨rfl, FrW.push rfl rfl rfl rfl⟩, VR.newSlice rfl hlm (by rw [hce]; simp), BR.ofRowP rfl (FrW.push rfl rfl rfl rfl) hn ((h2 K).replicate len) (r := (List.replicate (m - len) zv.cells.toList).flatten) ?_⟩
    · simp [Instr.makeSlice, run_underlying hu, asInt, asIntOf, typeInfo, hi1, hb, hwr, hwm, run_szT hsz, h0, hr1, h1, show ¬ ((m : Int) < 0) by omega, show ¬ ((len : Int) < 0) by omega, hlt, run_newRow]
    · rw [range_mod _ _ _ hzs, ← List.flatten_append, List.replicate_append_replicate, Nat.add_sub_cancel' hlm]

end
end Hx

/- The operations that turn blocks: stores, copies, entries of maps. -/
namespace Hx
open Go

section
variable {G : Gx} {K : Kx} {h : Heap}

/-- an operation that turns memory -/
def WP (G : Gx) (K : Kx) (h : Heap) (s : Sem Value) (v : AV) (h' : Heap) : Prop :=
  ∃ x K', s.run G.P K.w = .ok x K'.w ∧ VR G.P K' v x ∧ Tn (fun i => h'.low ≤ i) h K K' ∧ HR G K' h' [] ∧ ∀ i, K'.D i → K.D i
/-- one without a result -/
def UP (G : Gx) (K : Kx) (h : Heap) (s : Sem Unit) (h' : Heap) : Prop :=
  ∃ K', s.run G.P K.w = .ok () K'.w ∧ Tn (fun i => h'.low ≤ i) h K K' ∧ HR G K' h' [] ∧ ∀ i, K'.D i → K.D i

theorem flat_ok {P : Program} {l : List AV} {xs : List Value} (hv : VRs P K l xs) (hf : flat l = true) : ∀ v ∈ xs, v.oneCell' = true := by
  induction l generalizing xs with
  | nil => cases hv; simp
  | cons a l ih =>
    cases hv with
    | cons _ x _ r h1 h2 =>
      have key : x.oneCell' = true ∧ flat l = true := by
        cases h1 <;> first
          | exact ⟨rfl, hf⟩
          | (have hf' : false = true := hf; cases hf')
      intro v hv
      rcases List.mem_cons.1 hv with rfl | hv
      · exact key.1
      · exact ih h2 key.2 v hv

theorem clear_cells (z : Array Value) (n : Nat) : (Builtin.zeroCells z n).toList = (List.replicate n z.toList).flatten := range_mod _ _ _ rfl

/-- one part of a row is turned -/
theorem store_ok (hr : HR G K h []) {b o : Nat} {r : List AV × TypeId} {l cs : List AV} {xs : List Value} (hd : K.D b) (hg : getRow h b = some r) (hs : setL o l r.1 = some cs) (hl : VRs G.P K l xs) (hf : flat l = true) :
    UP G K h (storeCells ⟨K.bl b, o + K.sh b, none⟩ xs) (h.put b (.row cs r.2)) := by
  have hg' := getRow_some.1 hg
  obtain ⟨c, cvs, h1, h2, h3, h4⟩ := hr.blk b _ hd hg'
  rw [setL_eq] at hs
  split at hs
  · rename_i hb
    cases hs
    have hxl := hl.length
    have hcl := h2.length
    have hst := run_storeCells_at G.P (K.bl b) (o + K.sh b) r.2 xs 0 c K.w h1 (by omega) (flat_ok hl hf)
    simp only [Nat.add_zero] at hst
    have hcz : c.toList.length = c.size := by simp
    obtain ⟨hw1, hw2⟩ := hr.write (x := .row (r.1.take o ++ l ++ r.1.drop (o + l.length)) r.2) (w' := K.w.setRow (K.bl b) (c.toList.take (o + K.sh b) ++ xs ++ c.toList.drop (o + K.sh b + xs.length)).toArray)
      (FrW.set (b := K.bl b) rfl rfl (fun k hk => setRow_other _ _ _ _ hk) (by rw [setRow_heap _ _ _ _ _ _ h1, h1]; rfl)) hd (by rw [hg']; rfl) (fun k hk => setRow_other _ _ _ _ hk) (by simp [World.setRow]) (fun c' e fr hc => by
        rw [h1] at hc; cases hc
        refine ⟨_, _, setRow_heap _ _ _ _ _ _ h1, ?_⟩
        simp only [List.size_toArray, List.length_append, List.length_take, List.length_drop, hcz]; omega) (fun L hL => by rw [h1] at hL; cases hL) (fun hle => by
        refine ⟨_, cvs.take o ++ xs ++ cvs.drop (o + xs.length), setRow_heap _ _ _ _ _ _ h1, ?_, fun i v hi => ?_, ?_⟩
        · have := (((h2.take o).append hl).append (h2.drop (o + l.length))).mono hle
          simpa only [hxl] using this
        · show (c.toList.take (o + K.sh b) ++ xs ++ c.toList.drop (o + K.sh b + xs.length)).toArray[K.sh b + i]? = some v
          rw [List.getElem?_toArray]
          simp only [List.getElem?_append, List.length_append, List.length_take, List.getElem?_take, List.getElem?_drop, hcz] at hi ⊢
          by_cases i1 : i < o
          · rw [if_pos (by omega), if_pos (by omega), if_pos (by omega)] at hi
            rw [if_pos (by omega), if_pos (by omega), if_pos (by omega)]
            have := h3 i v hi
            simpa using this
          · by_cases i2 : i < o + xs.length
            · rw [if_pos (by omega), if_neg (by omega)] at hi
              rw [if_pos (by omega), if_neg (by omega)]
              rw [show K.sh b + i - min (o + K.sh b) c.size = i - min o cvs.length by omega]
              exact hi
            · rw [if_neg (by omega)] at hi
              rw [if_neg (by omega)]
              have := h3 _ v hi
              rw [← this, ← Array.getElem?_toList]
              congr 1
              omega
        · show K.sh b + _ ≤ _
          simp only [List.size_toArray, List.length_append, List.length_take, List.length_drop, hcz]; omega)
    exact ⟨_, hst, hw2, hw1, fun _ h => h⟩
  · cases hs

theorem storeAt_ok (hr : HR G K h []) {t : TypeId} {n : Nat} {a v : AV} {x y : Value} {h' : Heap} (hn : szT G.P t = some n) (ha : VR G.P K a x) (hv : VR G.P K v y) (hl : lenL v.cells = n) (hs : storeN h a v.cells = some h') :
    UP G K h (Instr.storeAt t x y) h' := by
  cases ha <;> simp only [storeN, reduceCtorEq, bif_none, ob_some, Option.some.injEq] at hs
  case ptr b o hd =>
    obtain ⟨hf, r, hg, cs, hs, rfl⟩ := hs
    obtain ⟨K', h1, h2, h3⟩ := store_ok hr hd hg hs hv.cells hf
    have hsz : y.cells.size = n := by have := hv.cells.length; rw [lenL_eq] at hl; simpa [hl] using this
    exact ⟨K', by simp [Instr.storeAt, Instr.sureAddr, storeVar, run_szT hn, hsz, h1], h2, h3⟩

/-- all elements of a slice are cleared -/
theorem clear_ok (hr : HR G K h []) {t ty e : TypeId} {sz : Nat} {z : List AV} {s u : AV} {x : Value} {h' : Heap} (hu : G.P.underlying t = some (.slice e)) (_hsz : szT G.P e = some sz) (hz : zeT G.P e = some z) (hs : VR G.P K s x) (hc : clrE h z s = some (u, h')) :
    WP G K h (Builtin.clear_ #[t] ty #[x]) u h' := by
  simp only [clrE, ob_some] at hc
  obtain ⟨n, hn, hc⟩ := hc
  obtain ⟨i', zv, hi3, hi4, hz2⟩ := zeT_some hz
  have stay : n = 0 → u = undefA ∧ h' = h → WP G K h (Builtin.clear_ #[t] ty #[x]) u h' := by
    rintro rfl ⟨rfl, rfl⟩
    refine ⟨.tuple #[], K, ?_, VR.tup [] [] .nil, Tn.refl _ _ _, hr, fun _ h => h⟩
    cases hs <;> simp only [lenA, reduceCtorEq, Option.some.injEq] at hn <;> (try subst hn) <;> simp [Builtin.clear_, run_underlying hu]
  split at hc
  · cases hc; exact stay rfl ⟨rfl, rfl⟩
  · rename_i hn0
    split at hc
    · rename_i e' b o m
      simp only [ob_some, Option.some.injEq, Prod.mk.injEq] at hc
      obtain ⟨h1, hst, rfl, rfl⟩ := hc
      simp only [lenA, Option.some.injEq] at hn
      subst hn
      simp only [storeN, bif_none, ob_some, Option.some.injEq] at hst
      obtain ⟨hf, r, hg, cs, hst, rfl⟩ := hst
      cases hs with
      | msl _ _ _ _ cap c t' fr hd hcap h3 h4 =>
        have hzr : VRs G.P K (rep z m) (List.replicate m zv.cells.toList).flatten := by rw [rep_eq]; exact (hz2 K).replicate m
        obtain ⟨K', g1, g2, g3, g4⟩ := store_ok hr hd hg hst hzr hf
        refine ⟨.tuple #[], K', ?_, VR.tup [] [] .nil, g2, g3, g4⟩
        have hm : m ≠ 0 := hn0
        have hzc : (Builtin.zeroCells zv.cells m).toList = (List.replicate m zv.cells.toList).flatten := clear_cells zv.cells m
        have hzv : (zeroValue e).run G.P K.w = .ok zv K.w := by simp [zeroValue, typeInfo, hi3, hi4]
        cases m with
        | zero => exact absurd rfl hm
        | succ m => simp [Builtin.clear_, run_underlying hu, hzv, hzc, g1]
      | msl0 => exact absurd rfl hn0
    · cases hc

/-- the first elements of a slice -/
theorem firstCells_ok {ks : List Nat} (hr : HR G K h ks) {sz n : Nat} {v : AV} {x : Value} {l : List AV} (hv : VR G.P K v x) (hs : sliceCells h sz n v = some l) :
    ∃ xs : List Value, (∀ w, w.heap = K.w.heap → (Builtin.firstCells sz n x).run G.P w = .ok xs.toArray w) ∧ VRs G.P K l xs ∧ l.length = n * sz := by
  have hcell : ∀ (w : World), w.heap = K.w.heap → ∀ a, w.cell? a = K.w.cell? a := fun w hw a => by simp [World.cell?, hw]
  cases hv <;> simp only [sliceCells, reduceCtorEq, bif_none, ob_some, cut_some, Nat.ble_eq, Nat.beq_eq, Option.some.injEq] at hs
  case nils => obtain ⟨rfl, rfl⟩ := hs; exact ⟨[], fun w hw => by simp [Builtin.firstCells], .nil, by simp⟩
  case emp0 => obtain ⟨rfl, rfl⟩ := hs; exact ⟨[], fun w hw => by simp [Builtin.firstCells], .nil, by simp⟩
  case emp1 a cap => obtain ⟨rfl, rfl⟩ := hs; exact ⟨[], fun w hw => by simp [Builtin.firstCells, loadCells, loadCellsFrom], .nil, by simp⟩
  case msl e b o m cap c t fr hd h1 h2 h3 =>
    obtain ⟨h5, r, hg, h6, rfl⟩ := hs
    obtain ⟨cvs, h7, h8⟩ := hr.cellsAt hd (getRow_some.1 hg)
    have h9 := (h7.drop o).take (n * sz)
    have h10 := h9.length
    refine ⟨_, fun w hw => ?_, h9, by simp; omega⟩
    have := h8.cut o (n * sz)
    rw [Nat.add_comm] at this
    exact run_loadCells_at (P := G.P) w _ _ _ (fun i v hi => (hcell w hw _).trans (this i v hi)) _ (by rw [h10]; simp; omega)
  case msl0 e b o a hd =>
    obtain ⟨h5, r, hg, h6, rfl⟩ := hs
    have : n = 0 := by omega
    subst this
    exact ⟨[], fun w hw => by simp [Builtin.firstCells, loadCells, loadCellsFrom], by simpa using VRs.nil, by simp⟩
  case isl cs m b q cap cvs h1 h2 h3 h4 h5 =>
    obtain ⟨h5, h6, rfl⟩ := hs
    have h9 := (h1.drop 0).take (n * sz)
    have h10 := h9.length
    refine ⟨_, fun w hw => ?_, h9, by simp at h6 ⊢; omega⟩
    have := h2.cut 0 (n * sz)
    exact run_loadCells_at (P := G.P) w _ _ _ (fun i v hi => (hcell w hw _).trans (this i v hi)) _ (by rw [h10]; simp at h6 ⊢; omega)

theorem lenOf_ok {v : AV} {x : Value} {n : Nat} (hv : VR G.P K v x) (hl : lenA v = some n) (w : World) : (Builtin.lenOf x).run G.P w = .ok n w := by
  cases hv <;> simp only [lenA, Option.some.injEq, reduceCtorEq] at hl <;> subst hl <;> rfl

theorem copy_ok (hr : HR G K h []) {t u ty e : TypeId} {sz : Nat} {d s r : AV} {x y : Value} {h' : Heap} (hu : G.P.underlying t = some (.slice e)) (hsz : szT G.P e = some sz) (hd : VR G.P K d x) (hs : VR G.P K s y)
    (hc : cpyE h sz d s = some (r, h')) : WP G K h (Builtin.copy_ #[t, u] ty #[x, y]) r h' := by
  simp only [cpyE, ob_some, fN_eq, bif_eq, Nat.ble_eq] at hc
  obtain ⟨m, hm, k, hk, cs, hcs, hc⟩ := hc
  have hmin : (if m ≤ k then m else k) = min m k := by rw [Nat.min_def]
  rw [hmin] at hcs hc
  obtain ⟨xs, h1, h2, h3⟩ := firstCells_ok hr hs hcs
  replace h1 := h1 K.w rfl
  have hl := lenOf_ok hs hm K.w
  have same : h' = h → ∀ (a : Option Addr) (cap : Nat), x = .slice a k cap → r = .int .i64 (min m k : Nat) → (a = none ∨ xs = []) → WP G K h (Builtin.copy_ #[t, u] ty #[x, y]) r h' := by
    rintro rfl a cap rfl rfl ha
    refine ⟨_, K, ?_, .int _ _, Tn.refl _ _ _, hr, fun _ h => h⟩
    have hmn : Nat.min m k = min m k := rfl
    rcases ha with rfl | rfl
    · simp [Builtin.copy_, run_underlying hu, hl, run_szT hsz, hmn, h1]; rfl
    · cases a <;> (simp [Builtin.copy_, run_underlying hu, hl, run_szT hsz, hmn, h1, storeCells]; rfl)
  have hkk : ∀ (a : Option Addr) (cap : Nat) (q : Nat), x = .slice a q cap → lenA d = some q → q = k := fun _ _ q _ hq => by rw [hk] at hq; cases hq; rfl
  have hk0 : k = 0 → xs = [] := by
    rintro rfl
    have := h2.length
    rw [Nat.min_zero] at h3
    apply List.eq_nil_of_length_eq_zero
    omega
  cases hd <;> simp only [reduceCtorEq, ob_some, Option.some.injEq, Prod.mk.injEq] at hc
  case nils => obtain ⟨rfl, rfl⟩ := hc; simp only [lenA, Option.some.injEq] at hk; subst hk; exact same rfl none 0 rfl rfl (.inl rfl)
  case emp0 => obtain ⟨rfl, rfl⟩ := hc; simp only [lenA, Option.some.injEq] at hk; subst hk; exact same rfl none 0 rfl rfl (.inl rfl)
  case emp1 a cap => obtain ⟨rfl, rfl⟩ := hc; simp only [lenA, Option.some.injEq] at hk; subst hk; exact same rfl (some a) cap rfl rfl (.inr (hk0 rfl))
  case msl e' b o q cap c t' fr hd h5 h6 h7 =>
    simp only [lenA, Option.some.injEq] at hk; subst hk
    obtain ⟨h1', hst, rfl, rfl⟩ := hc
    simp only [storeN, bif_none, ob_some, Option.some.injEq] at hst
    obtain ⟨hf, row, hg, cs', hset, rfl⟩ := hst
    obtain ⟨K', g1, g2, g3⟩ := store_ok hr hd hg hset h2 hf
    refine ⟨_, K', ?_, .int _ _, g2, g3⟩
    have hmn : Nat.min m q = min m q := rfl
    simp [Builtin.copy_, run_underlying hu, hl, run_szT hsz, hmn, h1, g1]; rfl
  case msl0 e' b o a hd =>
    simp only [lenA, Option.some.injEq] at hk; subst hk
    obtain ⟨h1', hst, rfl, rfl⟩ := hc
    simp only [storeN, bif_none, ob_some, Option.some.injEq] at hst
    obtain ⟨hf, row, hg, cs', hset, rfl⟩ := hst
    have hx0 := hk0 rfl
    subst hx0
    cases h2
    obtain ⟨K', g1, g2, g3⟩ := store_ok hr hd hg hset .nil hf
    refine ⟨_, K', ?_, .int _ _, g2, g3⟩
    have hmn : Nat.min m 0 = min m 0 := rfl
    simp [storeCells] at g1
    rw [← g1]
    have h1' : (Builtin.firstCells sz 0 y).run G.P K.w = .ok #[] K.w := by simpa using h1
    simp [Builtin.copy_, run_underlying hu, hl, run_szT hsz, h1', storeCells]; rfl

end
end Hx

/- The operations that turn maps. -/
namespace Hx
open Go

section
variable {P : Program} {K : Kx}

theorem setE_eq {as : List (AV × AV × Nat)} {n i : Nat} {q v0 : AV} {st : Nat} (v : AV) (hs : Stamps as n) (h : as[i]? = some (q, v0, st)) : setE st v as = as.set i (q, v, st) := by
  induction as generalizing i n with
  | nil => simp at h
  | cons x as ih =>
    show bif_ (Nat.beq st x.2.2) ((x.1, v, st) :: as) (x :: setE st v as) = _
    rw [bif_eq]
    cases i with
    | zero => simp at h; subst h; simp
    | succ i =>
      have hx : x.2.2 < st := hs.1 0 (i + 1) x _ rfl h (by omega)
      rw [if_neg (by rw [Nat.beq_eq]; omega)]
      have hs' : Stamps as n := ⟨fun a b p q h1 h2 hl => hs.1 (a + 1) (b + 1) p q h1 h2 (by omega), fun a p h1 => hs.2 (a + 1) p h1⟩
      rw [ih hs' h]; rfl

theorem MR.modify {as : List (AV × AV × Nat)} {l : List MapEntry} (hm : MR P K as l) {i : Nat} {x : AV × AV × Nat} (f : MapEntry → MapEntry)
    (hf : ∀ e, l[i]? = some e → VR P K x.1 (f e).key ∧ VR P K x.2.1 (f e).val ∧ (f e).born = x.2.2) : MR P K (as.set i x) (l.modify i f) := by
  induction hm generalizing i with
  | nil => simpa using MR.nil
  | cons k v n e l r h1 h2 h3 h4 ih =>
    cases i with
    | zero => obtain ⟨g1, g2, g3⟩ := hf e rfl; simpa using MR.cons _ _ _ _ _ _ g1 g2 g3 h4
    | succ i => simpa using MR.cons _ _ _ _ _ _ h1 h2 h3 (ih (fun e he => hf e he))

theorem MR.push {as : List (AV × AV × Nat)} {l : List MapEntry} (hm : MR P K as l) {k v : AV} {n : Nat} {e : MapEntry} (h1 : VR P K k e.key) (h2 : VR P K v e.val) (h3 : e.born = n) : MR P K (as ++ [(k, v, n)]) (l ++ [e]) := by
  induction hm with
  | nil => exact .cons _ _ _ _ _ _ h1 h2 h3 .nil
  | cons k v n e l r g1 g2 g3 _ ih => exact .cons _ _ _ _ _ _ g1 g2 g3 ih

theorem Stamps.set {as : List (AV × AV × Nat)} {n i : Nat} {q v0 v : AV} {st : Nat} (hs : Stamps as n) (h : as[i]? = some (q, v0, st)) : Stamps (as.set i (q, v, st)) n := by
  have key : ∀ (j : Nat) (a : AV × AV × Nat), (as.set i (q, v, st))[j]? = some a → ∃ b, as[j]? = some b ∧ b.2.2 = a.2.2 := by
    intro j a ha
    rw [List.getElem?_set] at ha
    split at ha
    · rename_i e; subst e
      split at ha
      · cases ha; exact ⟨_, h, rfl⟩
      · cases ha
    · exact ⟨a, ha, rfl⟩
  refine ⟨fun a b p r h1 h2 hl => ?_, fun a p h1 => ?_⟩
  · obtain ⟨p', g1, g2⟩ := key a p h1
    obtain ⟨r', g3, g4⟩ := key b r h2
    rw [← g2, ← g4]; exact hs.1 a b p' r' g1 g3 hl
  · obtain ⟨p', g1, g2⟩ := key a p h1
    rw [← g2]; exact hs.2 a p' g1

theorem Stamps.push {as : List (AV × AV × Nat)} {n : Nat} {k v : AV} (hs : Stamps as n) : Stamps (as ++ [(k, v, n)]) (n + 1) := by
  have key : ∀ (j : Nat) (a : AV × AV × Nat), (as ++ [(k, v, n)])[j]? = some a → (as[j]? = some a ∧ j < as.length) ∨ (j = as.length ∧ a = (k, v, n)) := by
    intro j a ha
    rw [List.getElem?_append] at ha
    split at ha
    · rename_i hj; exact .inl ⟨ha, hj⟩
    · rename_i hj
      have : j - as.length = 0 := by
        have := (List.getElem?_eq_some_iff.1 ha).1
        simp at this; omega
      rw [this] at ha
      simp at ha
      exact .inr ⟨by omega, ha.symm⟩
  refine ⟨fun a b p r h1 h2 hl => ?_, fun a p h1 => ?_⟩
  · rcases key a p h1 with ⟨g1, g2⟩ | ⟨g1, rfl⟩ <;> rcases key b r h2 with ⟨g3, g4⟩ | ⟨g3, rfl⟩
    · exact hs.1 a b p r g1 g3 hl
    · exact hs.2 a p g1
    · omega
    · omega
  · rcases key a p h1 with ⟨g1, _⟩ | ⟨_, rfl⟩
    · have := hs.2 a p g1; omega
    · exact Nat.lt_succ_self _

theorem hasE_ok {as : List (AV × AV × Nat)} {st : Nat} (h : hasE st as = true) : ∃ (i : Nat) (q v : AV), as[i]? = some (q, v, st) := by
  induction as with
  | nil => cases h
  | cons x as ih =>
    have h' : bif_ (Nat.beq st x.2.2) true (hasE st as) = true := h
    rw [bif_eq] at h'
    split at h'
    · rename_i he; rw [Nat.beq_eq] at he; exact ⟨0, x.1, x.2.1, by rw [he]; rfl⟩
    · obtain ⟨i, q, v, hi⟩ := ih h'; exact ⟨i + 1, q, v, hi⟩
end

section
variable {G : Gx} {K : Kx} {h : Heap}

theorem run_setObj_map {P : Program} {w : World} {b : Nat} {es : Array MapEntry} {n : Nat} (hb : w.heap[b]? = some (.map es n)) (o : Obj) : (setObj b o).run P w = .ok () { w with heap := w.heap.setIfInBounds b o } := by
  simp [setObj, Sem.run, hb]

theorem HR.writeMap (hr : HR G K h []) {b : Nat} {as as' : List (AV × AV × Nat)} {n n' : Nat} {ces ces' : Array MapEntry} (hd : K.D b) (hg : h.get b = some (.mp as n)) (hc : K.w.heap[K.bl b]? = some (.map ces n))
    (hm : MR G.P K as' ces'.toList) (hs : Stamps as' n') :
    HR G (K.on { K.w with heap := K.w.heap.setIfInBounds (K.bl b) (.map ces' n') }) (h.put b (.mp as' n')) [] ∧
      Tn (fun i => (h.put b (.mp as' n')).low ≤ i) h K (K.on { K.w with heap := K.w.heap.setIfInBounds (K.bl b) (.map ces' n') }) := by
  have hlt : K.bl b < K.w.heap.size := hr.inh b hd
  exact hr.write (FrW.set (b := K.bl b) rfl rfl (fun c hcb => by show (K.w.heap.setIfInBounds _ _)[c]? = _; rw [Array.getElem?_setIfInBounds_ne (Ne.symm hcb)]) (by rw [hc]; show frOf (K.w.heap.setIfInBounds _ _)[K.bl b]? = _; simp [hlt, frOf])) hd (by rw [hg]; rfl) (fun c hcb => by show (K.w.heap.setIfInBounds _ _)[c]? = _; rw [Array.getElem?_setIfInBounds_ne (Ne.symm hcb)]) (by simp) (fun c e fr hx => by rw [hc] at hx; cases hx) (fun L hx => by rw [hc] at hx; cases hx)
    fun hle => ⟨ces', by show (K.w.heap.setIfInBounds _ _)[K.bl b]? = _; simp [hlt], hm.mono hle, hs⟩

theorem same_heap {w : World} {b : Nat} {o : Obj} (h : w.heap[b]? = some o) : { w with heap := w.heap.setIfInBounds b o } = w := by
  have : w.heap.setIfInBounds b o = w.heap := by
    apply Array.ext_getElem?
    intro i
    rw [Array.getElem?_setIfInBounds]
    split
    · rename_i e; subst e
      split
      · exact h.symm
      · rename_i hh; exact absurd (Array.getElem?_eq_some_iff.1 h).1 hh
    · rfl
  rw [this]

theorem stays_ok {t : TypeId} {a q : AV} {x y : Value} {w : World} (hx : VR G.P K a x) (hy : VR G.P K q y) (h : keyEq (eqC G.P t false) a q = some true) : x = y ∧ (Instr.keyThatStays y x).run G.P w = .ok x w := by
  obtain ⟨rfl, h2⟩ := keyEq_same hx hy h
  exact ⟨rfl, by simp [Instr.keyThatStays, h2]⟩

theorem mup_ok (hr : HR G K h []) {t kt e : TypeId} {m k v u : AV} {x y z : Value} {h' : Heap} (hu : G.P.underlying t = some (.map kt e)) (hx : VR G.P K m x) (hy : VR G.P K k y) (hz : VR G.P K v z)
    (hc : mupE h (eqC G.P kt false) m k v = some (u, h')) : UP G K h (Instr.mapUpdate t x y z) h' ∧ u = undefA := by
  cases hx <;> simp only [mupE, reduceCtorEq, ob_some] at hc
  case mp b hd =>
    obtain ⟨r, hg, f, hf, hc⟩ := hc
    have hg' := getMap_some.1 hg
    obtain ⟨ces, c1, c2, c3⟩ := hr.map hd hg'
    obtain ⟨g1, R, g2, g3⟩ := findK_ok hy c2 K.w hf
    cases f with
    | none =>
      cases g3
      simp only [Option.some.injEq, Prod.mk.injEq] at hc
      obtain ⟨rfl, rfl⟩ := hc
      rw [catL_eq]
      have hm : MR G.P K (r.1 ++ [(k, v, r.2)]) (ces.push { key := y, val := z, born := r.2 }).toList := by
        rw [Array.toList_push]; exact c2.push hy hz rfl
      obtain ⟨w1, w2⟩ := hr.writeMap hd hg' c1 hm c3.push
      exact ⟨⟨_, by simp [Instr.mapUpdate, run_underlying hu, run_getObj_map c1, g1, g2, run_setObj_map c1]; rfl, w2, w1, fun _ h => h⟩, rfl⟩
    | some p =>
      obtain ⟨v0, st⟩ := p
      obtain ⟨i, e', q, rfl, a2, a3, a4⟩ := g3
      obtain ⟨e'', b1, b2, b3, b4⟩ := c2.get a3
      rw [a2] at b1
      cases b1
      simp only [Option.some.injEq, Prod.mk.injEq] at hc
      obtain ⟨rfl, rfl⟩ := hc
      obtain ⟨s1, s2⟩ := stays_ok (w := K.w) hy b2 a4
      rw [setE_eq v c3 a3]
      have hm : MR G.P K (r.1.set i (q, v, st)) (ces.modify i fun e => { e with key := y, val := z }).toList := by
        rw [Array.toList_modify]
        exact c2.modify _ fun e he => by
          rw [a2] at he; cases he
          exact ⟨by rw [s1]; exact b2, hz, b4⟩
      obtain ⟨w1, w2⟩ := hr.writeMap hd hg' c1 hm (c3.set a3)
      have hk : ces[i]? = some e' := by simpa using a2
      exact ⟨⟨_, by simp [Instr.mapUpdate, run_underlying hu, run_getObj_map c1, g1, g2, hk, s2, run_setObj_map c1]; rfl, w2, w1, fun _ h => h⟩, rfl⟩

theorem men_ok (hr : HR G K h []) {t kt e : TypeId} {m k zz u : AV} {x y : Value} {h' : Heap} (hu : G.P.underlying t = some (.map kt e)) (hzz : z1T G.P e = some zz) (hx : VR G.P K m x) (hy : VR G.P K k y)
    (hc : menE h (eqC G.P kt false) zz m k = some (u, h')) : WP G K h (Instr.mapEntry t x y) u h' := by
  obtain ⟨zv, hz1, hz2⟩ := run_z1T hzz K.w
  cases hx <;> simp only [menE, reduceCtorEq, ob_some, fN_eq] at hc
  case mp b hd =>
    obtain ⟨r, hg, f, hf, hc⟩ := hc
    have hg' := getMap_some.1 hg
    obtain ⟨ces, c1, c2, c3⟩ := hr.map hd hg'
    obtain ⟨g1, R, g2, g3⟩ := findK_ok hy c2 K.w hf
    cases f with
    | none =>
      cases g3
      simp only [Option.some.injEq, Prod.mk.injEq] at hc
      obtain ⟨rfl, rfl⟩ := hc
      rw [catL_eq]
      have hm : MR G.P K (r.1 ++ [(k, zz, r.2)]) (ces.push { key := y, val := zv, born := r.2 }).toList := by
        rw [Array.toList_push]; exact c2.push hy (hz2 K) rfl
      obtain ⟨w1, w2⟩ := hr.writeMap hd hg' c1 hm c3.push
      refine ⟨.tuple #[zv, goInt r.2], _, ?_, VR.tup _ [zv, goInt r.2] (.cons _ _ _ _ (hz2 _) (.cons _ _ _ _ (.int _ _) .nil)), w2, w1, fun _ h => h⟩
      simp [Instr.mapEntry, run_underlying hu, run_getObj_map c1, g1, g2, hz1, run_setObj_map c1]; rfl
    | some p =>
      obtain ⟨v0, st⟩ := p
      obtain ⟨i, e', q, rfl, a2, a3, a4⟩ := g3
      obtain ⟨e'', b1, b2, b3, b4⟩ := c2.get a3
      rw [a2] at b1
      cases b1
      simp only [Option.some.injEq, Prod.mk.injEq] at hc
      obtain ⟨rfl, rfl⟩ := hc
      obtain ⟨s1, s2⟩ := stays_ok (w := K.w) hy b2 a4
      have hk : ces[i]? = some e' := by simpa using a2
      have hmod : (ces.modify i fun e => { e with key := y }) = ces := by
        apply Array.ext_getElem?
        intro j
        rw [Array.getElem?_modify]
        split
        · rename_i e; subst e
          rw [hk, Option.map_some, s1]
        · rfl
      refine ⟨.tuple #[e'.val, goInt e'.born], K, ?_, ?_, Tn.refl _ _ _, hr, fun _ h => h⟩
      · simp [Instr.mapEntry, run_underlying hu, run_getObj_map c1, g1, g2, hk, s2, hmod, run_setObj_map c1, same_heap c1]
      · rw [b4]; exact VR.tup _ [e'.val, goInt st] (.cons _ _ _ _ b3 (.cons _ _ _ _ (.int _ _) .nil))

theorem mes_ok (hr : HR G K h []) {t : TypeId} {m s v u : AV} {x y z : Value} {h' : Heap} (hx : VR G.P K m x) (hy : VR G.P K s y) (hz : VR G.P K v z)
    (hc : mesE h m s v = some (u, h')) : UP G K h (Instr.entryStore t x y z) h' ∧ u = undefA := by
  cases hx <;> simp only [mesE, reduceCtorEq, ob_some, bif_none] at hc
  case mp b hd =>
    obtain ⟨st, hst, r, hg, hh, hc⟩ := hc
    simp only [Option.some.injEq, Prod.mk.injEq] at hc
    obtain ⟨rfl, rfl⟩ := hc
    obtain ⟨k, rfl⟩ := natOf_ok hy hst
    have hg' := getMap_some.1 hg
    obtain ⟨ces, c1, c2, c3⟩ := hr.map hd hg'
    obtain ⟨i, q, v0, a3⟩ := hasE_ok hh
    obtain ⟨e', b1, b2, b3, b4⟩ := c2.get a3
    have hk : ces[i]? = some e' := by simpa using b1
    rw [setE_eq v c3 a3]
    have hm : MR G.P K (r.1.set i (q, v, st)) (ces.modify i fun e => { e with val := z }).toList := by
      rw [Array.toList_modify]
      exact c2.modify _ fun e he => by
        rw [b1] at he; cases he
        exact ⟨b2, hz, b4⟩
    obtain ⟨w1, w2⟩ := hr.writeMap hd hg' c1 hm (c3.set a3)
    have hfi : ces.findIdx? (fun e => (e.born : Int) == (st : Int)) = some i := by
      rw [Array.findIdx?_eq_some_iff_getElem]
      have hil := (Array.getElem?_eq_some_iff.1 hk)
      refine ⟨hil.1, by rw [hil.2, b4]; simp, fun j hj => ?_⟩
      have hjl : j < ces.size := Nat.lt_trans hj hil.1
      have hjr : j < r.1.length := by have := c2.length; simp at this; omega
      obtain ⟨ej, d1, d2, d3, d4⟩ := c2.get (List.getElem?_eq_getElem hjr : r.1[j]? = some (r.1[j].1, r.1[j].2.1, r.1[j].2.2))
      have d1' : ces[j]? = some ej := by simpa using d1
      rw [(Array.getElem?_eq_some_iff.1 d1').2, d4]
      have h5 : r.1[j].2.2 < st := c3.1 j i _ _ (List.getElem?_eq_getElem hjr) a3 hj
      have h6 : ¬ ((r.1[j].2.2 : Int) = (st : Int)) := by omega
      simpa using h6
    exact ⟨⟨_, by simp [Instr.entryStore, run_getObj_map c1, asInt, asIntOf, hfi, run_setObj_map c1]; rfl, w2, w1, fun _ h => h⟩, rfl⟩

end
end Hx

/- Ending the use of blocks; append. -/
namespace Hx
open Go

theorem HR.more {G : Gx} {K : Kx} {h : Heap} {ks ks' : List Nat} (hr : HR G K h ks) (hk : ∀ i, i ∈ ks → i ∈ ks') : HR G K h ks' :=
  ⟨hr.lt, hr.inh, hr.own, hr.old, hr.blk, fun x y hx hy hsx hsy hne he => (hr.dist x y hx hy hsx hsy hne he).imp (fun h => ⟨hk _ h.1, h.2⟩) (fun h => ⟨hk _ h.1, h.2⟩), hr.aold, hr.bsz⟩

theorem Heap.get_kills (ks : List Nat) (h : Heap) (i : Nat) : (h.kills ks).get i = if i ∈ ks then none else h.get i := by
  induction ks generalizing h with
  | nil => simp [Heap.kills]
  | cons b ks ih =>
    show (Heap.kills ks (h.kill b)).get i = _
    rw [ih]
    unfold Heap.kill
    rw [Heap.get_alter]
    by_cases h1 : i ∈ ks
    · simp [h1]
    · by_cases h2 : i = b <;> simp [h1, h2]
theorem Heap.next_kills (ks : List Nat) (h : Heap) : (h.kills ks).next = h.next := by
  induction ks generalizing h with
  | nil => rfl
  | cons b ks ih =>
    show (Heap.kills ks (h.kill b)).next = _
    rw [ih]; exact Heap.next_alter _ _ _
theorem Heap.low_kills (ks : List Nat) (h : Heap) : (h.kills ks).low ≤ h.low ∧ ∀ i ∈ ks, (h.kills ks).low ≤ i := by
  induction ks generalizing h with
  | nil => exact ⟨Nat.le_refl _, by simp⟩
  | cons b ks ih =>
    obtain ⟨h1, h2⟩ := ih (h.kill b)
    have h3 : (h.kill b).low = min b h.low := Heap.low_alter _ _ _
    show (Heap.kills ks (h.kill b)).low ≤ _ ∧ ∀ i ∈ b :: ks, (Heap.kills ks (h.kill b)).low ≤ i
    refine ⟨by omega, fun i hi => ?_⟩
    rcases List.mem_cons.1 hi with rfl | hi
    · omega
    · exact h2 i hi

/-- the state after blocks' use has ended -/
def Kx.end_ (G : Gx) (K : Kx) (h : Heap) : Kx := { K with O := fun c => G.A c ∨ ∃ b, K.D b ∧ (h.get b).isSome = true ∧ K.bl b = c }

theorem HR.kills {G : Gx} {K : Kx} {h : Heap} {ks : List Nat} (hr : HR G K h ks) : HR G (K.end_ G (h.kills ks)) (h.kills ks) [] ∧ Tn (fun _ => False) h K (K.end_ G (h.kills ks)) := by
  have lv : ∀ i, ((h.kills ks).get i).isSome = true → i ∉ ks ∧ (h.kills ks).get i = h.get i := fun i hi => by
    rw [Heap.get_kills] at hi ⊢
    split at hi
    · cases hi
    · rename_i hn; exact ⟨hn, by rw [if_neg hn]⟩
  have hle : Kle K (K.end_ G (h.kills ks)) := by
    refine ⟨fun _ h => h, fun _ _ => rfl, fun _ _ => rfl, fun c hc => .inl ?_, fun _ _ _ => rfl, fun _ c _ fr h => ⟨c, fr, h, rfl⟩, fun _ L h => ⟨L, h⟩, Nat.le_refl _, FrW.refl _⟩
    rw [hr.own]
    rcases hc with h1 | ⟨i, h1, h2, h3⟩
    · exact .inl h1
    · exact .inr ⟨i, h1, by rw [← (lv i h2).2]; exact h2, h3⟩
  refine ⟨⟨fun b hb => by rw [Heap.next_kills]; exact hr.lt b hb, hr.inh, fun c => Iff.rfl, fun b hb hs => hr.old b hb (by rw [← (lv b hs).2]; exact hs), fun b x hb hx => ?_, fun x y hx hy hsx hsy hne he => ?_, hr.aold, hr.bsz⟩,
    ⟨hle, fun _ _ _ _ => rfl, fun b hb hn => absurd hb hn⟩⟩
  · have := (lv b (by rw [hx]; rfl)).2
    rw [this] at hx
    exact (hr.blk b x hb hx).mono hle hb rfl
  · obtain ⟨x1, x2⟩ := lv x hsx
    obtain ⟨y1, y2⟩ := lv y hsy
    rcases hr.dist x y hx hy (by rw [← x2]; exact hsx) (by rw [← y2]; exact hsy) hne he with ⟨h1, _⟩ | ⟨h1, _⟩
    · exact absurd h1 x1
    · exact absurd h1 y1

/-- one more name for a part of a block -/
def Kx.share (K : Kx) (n b o : Nat) (w' : World) : Kx where
  D := fun i => K.D i ∨ i = n
  bl := fun i => if i = n then K.bl b else K.bl i
  sh := fun i => if i = n then K.sh b + o else K.sh i
  O := K.O
  w := w'

theorem HR.share {G : Gx} {K : Kx} {H : Heap} {ks : List Nat} (hr : HR G K H ks) {b n o : Nat} {old new : List AV} {e : TypeId} {c : Array Value} {xs : List Value} {w' : World} (hd : K.D b) (hgb : H.get b = some (.row old e)) (hn : ¬ K.D n) (hln : n < H.next)
    (hgn : H.get n = some (.row (old.drop o ++ new) e)) (ho : o ≤ old.length) (hbk : b ∉ ks) (hc : K.w.heap[K.bl b]? = some (.cells c e (0, 0))) (hnew : VRs G.P K new xs) (hfit : K.sh b + old.length + new.length ≤ c.size)
    (hw : w' = K.w.setRow (K.bl b) (c.toList.take (K.sh b + old.length) ++ xs ++ c.toList.drop (K.sh b + old.length + xs.length)).toArray) :
    HR G (K.share n b o w') H (b :: ks) ∧ Tn (fun i => i ∈ b :: ks) H K (K.share n b o w') := by
  have ne : ∀ i, K.D i → i ≠ n := fun i hi e => hn (e ▸ hi)
  have bl : ∀ i, K.D i → (K.share n b o w').bl i = K.bl i := fun i hi => if_neg (ne i hi)
  have sh : ∀ i, K.D i → (K.share n b o w').sh i = K.sh i := fun i hi => if_neg (ne i hi)
  have bln : (K.share n b o w').bl n = K.bl b := if_pos rfl
  have shn : (K.share n b o w').sh n = K.sh b + o := if_pos rfl
  have fi : ∀ i, K.D i → fin (K.share n b o w') H i = fin K H i := fun i hi => by unfold fin; rw [sh i hi]
  have hO : K.O (K.bl b) := (hr.own _).2 (.inr ⟨b, hd, by rw [hgb]; rfl, rfl⟩)
  have hxl := hnew.length
  have hcz : c.toList.length = c.size := by simp
  let c' := (c.toList.take (K.sh b + old.length) ++ xs ++ c.toList.drop (K.sh b + old.length + xs.length)).toArray
  have hc'z : c'.size = c.size := by
    show (List.toArray _).size = _
    simp only [List.size_toArray, List.length_append, List.length_take, List.length_drop, hcz]; omega
  have hcb : w'.heap[K.bl b]? = some (.cells c' e (0, 0)) := by rw [hw]; exact setRow_heap _ _ _ _ _ _ hc
  have hco : ∀ k, k ≠ K.bl b → w'.heap[k]? = K.w.heap[k]? := fun k hk => by rw [hw]; exact setRow_other _ _ _ _ hk
  have hsz : w'.heap.size = K.w.heap.size := by rw [hw]; simp [World.setRow]
  have lowc : ∀ i, i < K.sh b + old.length → c'[i]? = c[i]? := fun i hi => by
    show (List.toArray _)[i]? = _
    rw [List.getElem?_toArray, List.append_assoc, List.getElem?_append, if_pos (by rw [List.length_take, hcz]; omega), List.getElem?_take, if_pos hi]
    simp
  have midc : ∀ i, i < xs.length → c'[K.sh b + old.length + i]? = xs[i]? := fun i hi => by
    show (List.toArray _)[_]? = _
    rw [List.getElem?_toArray, List.getElem?_append, if_pos (by rw [List.length_append, List.length_take, hcz]; omega), List.getElem?_append, if_neg (by rw [List.length_take, hcz]; omega), List.length_take, hcz]
    congr 1; omega
  have hle : Kle K (K.share n b o w') := by
    refine ⟨fun _ h => .inl h, bl, sh, fun _ h => .inl h, fun k _ ho' => hco k fun e => ho' (e ▸ hO), fun k ck ek fr hck => ?_, fun k L hck => ?_, Nat.le_of_eq hsz.symm, FrW.set (b := K.bl b) (by rw [hw]; rfl) (by rw [hw]; rfl) hco (by show frOf w'.heap[K.bl b]? = _; rw [hcb, hc]; rfl)⟩
    · by_cases hk : k = K.bl b
      · subst hk
        rw [hc] at hck; cases hck
        exact ⟨c', _, hcb, hc'z⟩
      · exact ⟨ck, fr, (hco k hk).trans hck, rfl⟩
    · by_cases hk : k = K.bl b
      · subst hk
        rw [hc] at hck; cases hck
      · exact ⟨L, (hco k hk).trans hck⟩
  have finb : fin K H b = K.sh b + old.length := by unfold fin; rw [hgb]
  have finn : fin (K.share n b o w') H n = K.sh b + o + (old.length - o + new.length) := by unfold fin; rw [hgn, shn]; simp
  have near : ∀ i, K.D i → (H.get i).isSome = true → K.bl i = K.bl b → (i = b ∨ i ∈ ks) ∧ fin K H i ≤ K.sh b + old.length := fun i hi hs he => by
    by_cases hib : i = b
    · subst hib; exact ⟨.inl rfl, by rw [finb]; exact Nat.le_refl _⟩
    · rcases hr.dist i b hi hd hs (by rw [hgb]; rfl) hib he with ⟨h1, h2⟩ | ⟨h1, _⟩
      · exact ⟨.inr h1, by rw [finb] at h2; exact h2⟩
      · exact absurd h1 hbk
  refine ⟨⟨fun i hi => ?_, fun i hi => ?_, fun k => ?_, fun i hi hs => ?_, fun i y hi hy => ?_, fun p q hp hq hsp hsq hne he => ?_, hr.aold, ?_⟩, ⟨hle, fun i hi hs hni => ?_, fun i hi hni => ?_⟩⟩
  · rcases hi with h1 | h1
    · exact hr.lt i h1
    · omega
  · show _ < w'.heap.size
    rw [hsz]
    rcases hi with h1 | h1
    · rw [bl i h1]; exact hr.inh i h1
    · rw [h1, bln]; exact hr.inh b hd
  · show K.O k ↔ _
    rw [hr.own]
    constructor
    · rintro (h1 | ⟨i, h1, h2, h3⟩)
      · exact .inl h1
      · exact .inr ⟨i, .inl h1, h2, by rw [bl i h1]; exact h3⟩
    · rintro (h1 | ⟨i, h1 | h1, h2, h3⟩)
      · exact .inl h1
      · exact .inr ⟨i, h1, h2, by rw [bl i h1] at h3; exact h3⟩
      · subst h1; rw [bln] at h3; exact .inr ⟨b, hd, by rw [hgb]; rfl, h3⟩
  · rcases hi with h1 | h1
    · rw [bl i h1]; exact hr.old i h1 hs
    · rw [h1, bln]; exact hr.old b hd (by rw [hgb]; rfl)
  · rcases hi with h1 | h1
    · by_cases hk : K.bl i = K.bl b
      · have hb := hr.blk i y h1 hy
        obtain ⟨_, hf⟩ := near i h1 (by rw [hy]; rfl) hk
        cases y with
        | row cs ei =>
          obtain ⟨ci, cvs, g1, g2, g3, g4⟩ := hb
          rw [hk, hc] at g1; cases g1
          have hfi : fin K H i = K.sh i + cs.length := by unfold fin; rw [hy]
          refine ⟨c', cvs, by rw [bl i h1, hk]; exact hcb, g2.mono hle, fun j v hj => ?_, by rw [sh i h1, hc'z]; exact g4⟩
          rw [sh i h1, lowc]
          · exact g3 j v hj
          · have := g2.length
            have := (List.getElem?_eq_some_iff.1 hj).1
            omega
        | mp es m => obtain ⟨ces, g1, _⟩ := hb; rw [hk, hc] at g1; cases g1
        | loop st pd vs ps bid => obtain ⟨L, I, g1, _⟩ := hb; rw [hk, hc] at g1; cases g1
      · exact (hr.blk i y h1 hy).mono hle h1 (hco _ hk)
    · subst h1
      rw [hgn] at hy; cases hy
      obtain ⟨cb, cvs, g1, g2, g3, g4⟩ := hr.blk b _ hd hgb
      rw [hc] at g1; cases g1
      have hcvl := g2.length
      refine ⟨c', cvs.drop o ++ xs, by rw [bln]; exact hcb, ((g2.drop o).append hnew).mono hle, fun j v hj => ?_, ?_⟩
      · rw [shn]
        rw [List.getElem?_append] at hj
        split at hj
        · rename_i hjl
          simp only [List.length_drop] at hjl
          rw [List.getElem?_drop] at hj
          rw [lowc _ (by omega), Nat.add_assoc]
          exact g3 _ v hj
        · rename_i hjl
          simp only [List.length_drop] at hjl hj
          have hx1 := (List.getElem?_eq_some_iff.1 hj).1
          rw [show K.sh b + o + j = K.sh b + old.length + (j - (cvs.length - o)) by omega, midc _ hx1]
          exact hj
      · rw [shn, hc'z]; simp only [List.length_append, List.length_drop]; omega
  · rcases hp with h1 | h1 <;> rcases hq with h2 | h2
    · rw [bl p h1, bl q h2] at he
      rw [fi p h1, fi q h2]
      exact (hr.dist p q h1 h2 hsp hsq hne he).imp (fun h => ⟨List.mem_cons_of_mem _ h.1, h.2⟩) (fun h => ⟨List.mem_cons_of_mem _ h.1, h.2⟩)
    · subst h2
      rw [bl p h1, bln] at he
      obtain ⟨g1, g2⟩ := near p h1 hsp he
      exact .inl ⟨by rcases g1 with rfl | g1 <;> simp [*], by rw [finn, fi p h1]; omega⟩
    · subst h1
      rw [bl q h2, bln] at he
      obtain ⟨g1, g2⟩ := near q h2 hsq he.symm
      exact .inr ⟨by rcases g1 with rfl | g1 <;> simp [*], by rw [finn, fi q h2]; omega⟩
    · exact absurd (h1.trans h2.symm) hne
  · show _ ≤ w'.heap.size; rw [hsz]; exact hr.bsz
  · refine hco _ fun he => hni ?_
    rcases (near i hi hs he).1 with rfl | h1
    · simp
    · simp [h1]
  · rcases hi with h1 | h1
    · exact absurd h1 hni
    · subst h1; exact .inr ⟨b, hd, by rw [hgb]; rfl, by simp, bln⟩

end Hx

/- append; the common form of the operations that leave old blocks alone. -/
namespace Hx
open Go

/-- what is there is there also -/
def Sub (h H : Heap) : Prop := ∀ i x, h.get i = some x → H.get i = some x
def Heap.wf (h : Heap) : Prop := ∀ i, h.next ≤ i → h.get i = none

theorem Sub.refl (h : Heap) : Sub h h := fun _ _ h => h
theorem Sub.trans {a b c : Heap} (h : Sub a b) (h' : Sub b c) : Sub a c := fun i x hx => h' i x (h i x hx)
theorem Sub.push {h : Heap} (hw : h.wf) (x : Blk) : Sub h (h.push x) := fun i y hy => by
  rw [Heap.get_push]
  split
  · rename_i e; subst e; rw [hw _ (Nat.le_refl _)] at hy; cases hy
  · exact hy
theorem Heap.wf_push {h : Heap} (hw : h.wf) (x : Blk) : (h.push x).wf := fun i hi => by
  rw [Heap.next_push] at hi
  rw [Heap.get_push, if_neg (by omega)]
  exact hw i (by omega)

/-- an operation that leaves old blocks alone -/
def AP (G : Gx) (K : Kx) (H : Heap) (s : Sem Value) (v : AV) (ks' : List Nat) (n m : Nat) : Prop :=
  ∃ x K', s.run G.P K.w = .ok x K'.w ∧ VR G.P K' v x ∧ HR G K' H ks' ∧ Tn (fun i => i ∈ ks') H K K' ∧ ∀ i, K'.D i → K.D i ∨ (i = n ∧ n < m)

section
variable {G : Gx} {K : Kx} {H : Heap} {ks : List Nat}

theorem YP.ap {s : Sem Value} {v : AV} (hr : HR G K H ks) (h : YP G.P K s v) (n m : Nat) : AP G K H s v ks n m := by
  obtain ⟨x, h1, h2⟩ := h
  exact ⟨x, K, h1, h2, hr, Tn.refl _ _ _, fun i h => .inl h⟩
theorem NewP.ap {s : Sem Value} {v : AV} {n m : Nat} {blk : Blk} (hm : n < m) (hr : HR G K H ks) (hn : ¬ K.D n) (hl : n < H.next) (hg : H.get n = some blk) (h : NewP G K n s v blk) : AP G K H s v ks n m := by
  obtain ⟨x, w', o, h1, ⟨h2, hf⟩, h3, h4⟩ := h
  exact ⟨x, K.new n w', h1, h3, hr.add hf h2 hn hl hg h4, Kx.new_tn hf h2 hn hr.inh _ _, fun i h => h.imp id fun e => ⟨e, hm⟩⟩

theorem sliceCells_sub {h : Heap} (hs : Sub h H) {sz n : Nat} {v : AV} {l : List AV} (hc : sliceCells h sz n v = some l) : sliceCells H sz n v = some l := by
  cases v <;> simp only [sliceCells, reduceCtorEq, bif_none, ob_some] at hc ⊢
  case msl e b o m => obtain ⟨h1, r, h2, h3⟩ := hc; exact ⟨h1, r, getRow_some.2 (hs _ _ (getRow_some.1 h2)), h3⟩
  all_goals exact hc

theorem zeroCells_size (z : Array Value) (n : Nat) : (Builtin.zeroCells z n).size = n * z.size := by simp [Builtin.zeroCells]

theorem run_grow {P : Program} (w : World) {t u ty e ue : TypeId} {i : TypeInfo} {z : Value} (ht : P.underlying t = some (.slice e)) (hu : P.underlying u = some (.slice ue)) (hi : P.info? e = some i) (hz : i.zero = some z)
    (base : Option Addr) (sLen sCap n : Nat) (y : Value) (olds news : Array Value) (hlen : ∀ w, (Builtin.lenOf y).run P w = .ok n w) (ho : (Builtin.firstCells i.size sLen (.slice base sLen sCap)).run P w.drew = .ok olds w.drew)
    (hn : (Builtin.firstCells i.size n y).run P w.drew = .ok news w.drew) (hg : sCap < sLen + n) (h63 : ((sLen + n : Nat) : Int) ≤ 9223372036854775807) (hfit : Builtin.nextslicecap (sLen + n) sCap * i.bytes ≤ 281474976710656) :
    (Builtin.append_ #[t, u] ty #[.slice base sLen sCap, y]).run P w =
      .ok (.slice (some ⟨w.heap.size, 0, none⟩) (sLen + n) (grownCap w (sLen + n) sCap e))
        (w.drew.alloc (.cells (olds ++ news ++ Builtin.zeroCells z.cells (grownCap w (sLen + n) sCap e - (sLen + n))) e)) := by
  have hn' : ¬ (sLen + n ≤ sCap) := by omega
  have h63' : ¬ (9223372036854775807 < ((sLen : Int) + (n : Int))) := by omega
  have h48' : ¬ (281474976710656 < Builtin.nextslicecap (sLen + n) sCap * i.bytes) := by omega
  simp [Builtin.append_, run_underlying ht, run_underlying hu, Go.sizeOf, typeInfo, zeroValue, hi, hz, hlen, hn', h63', h48', Question.forced, hn, ho, newRow, grownCap]

/-- a row that has grown, in a block of its own -/
theorem grow_ok {n0 : Nat} {t u ty e ue sz by_ n sLen sCap : Nat} {z : List AV} {y : Value} {base : Option Addr} {old new : List AV} {olds news : List Value} (hu : G.P.underlying t = some (.slice e)) (hue : G.P.underlying u = some (.slice ue)) (hsz : szT G.P e = some sz)
    (hby : byT G.P e = some by_) (hz : zeT G.P e = some z) (hzl : z.length = sz) (hn : ¬ K.D n0) (hlen : ∀ w, (Builtin.lenOf y).run G.P w = .ok n w) (ho : (Builtin.firstCells sz sLen (.slice base sLen sCap)).run G.P K.w.drew = .ok olds.toArray K.w.drew)
    (hnw : (Builtin.firstCells sz n y).run G.P K.w.drew = .ok news.toArray K.w.drew) (h1 : VRs G.P K old olds) (h2 : VRs G.P K new news) (h3 : old.length = sLen * sz) (h4 : new.length = n * sz)
    (hg : sCap < sLen + n) (hr : roomy (sLen + n) by_ = true) : NewP G K n0 (Builtin.append_ #[t, u] ty #[.slice base sLen sCap, y]) (.msl e n0 0 (sLen + n)) (.row (old ++ new) e) := by
  obtain ⟨i, hi1, hi2, hce⟩ := szT_some hsz
  obtain ⟨i', zv, hi3, hi4, hz2⟩ := zeT_some hz
  rw [hi1] at hi3; cases hi3
  have hzs : zv.cells.size = sz := by have := (hz2 K).length; simpa [hzl] using this
  have hb : i.bytes = by_ := by unfold byT at hby; rw [hi1] at hby; simpa using hby
  simp only [roomy, Bool.and_eq_true, Nat.ble_eq] at hr
  subst hi2
  have hfit := growslice_fits (bytes := i.bytes) hg (by rw [hb]; omega)
  have hrun := run_grow (ty := ty) K.w hu hue hi1 hi4 base sLen sCap n y olds.toArray news.toArray hlen ho hnw hg (by omega) hfit
  have hcap := grownCap_ge K.w (sLen + n) sCap e
  have l1 := h1.length
  have l2 := h2.length
  refine ⟨_, K.w.drew.alloc (.cells (olds.toArray ++ news.toArray ++ Builtin.zeroCells zv.cells (grownCap K.w (sLen + n) sCap e - (sLen + n))) e (0, 0)), _, hrun, ⟨rfl, FrW.push rfl rfl rfl rfl⟩, VR.newSlice rfl hcap ?_, ?_⟩
  · rw [hce]
    simp only [Array.size_append, List.size_toArray, zeroCells_size, hzs]
    rw [l1, l2, h3, h4, ← Nat.add_mul, ← Nat.add_mul]
    exact Nat.le_of_eq (by congr 1; omega)
  · refine ⟨_, olds ++ news, by rw [Kx.new_bl]; show (K.w.heap.push _)[_]? = _; simp; rfl, (h1.append h2).mono (Kx.new_le (w' := K.w.drew.alloc (.cells (olds.toArray ++ news.toArray ++ Builtin.zeroCells zv.cells (grownCap K.w (sLen + n) sCap e - (sLen + n))) e (0, 0))) (FrW.push (o := (.cells (olds.toArray ++ news.toArray ++ Builtin.zeroCells zv.cells (grownCap K.w (sLen + n) sCap e - (sLen + n))) e (0, 0))) rfl rfl rfl rfl) rfl hn), fun j v hj => ?_, ?_⟩
    · rw [Kx.new_sh, Nat.zero_add]
      have hjl := (List.getElem?_eq_some_iff.1 hj).1
      rw [← Array.getElem?_toList]
      simp only [Array.toList_append]
      rw [List.getElem?_append, if_pos hjl]
      exact hj
    · rw [Kx.new_sh]; simp; omega

theorem roomy_mono {n m b : Nat} (h : roomy n b = true) (hm : m ≤ n) : roomy m b = true := by
  simp only [roomy, Bool.and_eq_true, Nat.ble_eq] at h ⊢
  have := Nat.mul_le_mul_right b hm
  omega

theorem app_ok {h h' : Heap} {kill : Option Nat} (hr : HR G K H ks) {t u ty e sz by_ : Nat} {z : List AV} {s a v : AV} {x y : Value} (hu : G.P.underlying t = some (.slice e)) (hu2 : slcT G.P u = true) (hsz : szT G.P e = some sz) (hby : byT G.P e = some by_)
    (hz : zeT G.P e = some z) (hzl : z.length = sz) (hx : VR G.P K s x) (hy : VR G.P K a y) (hwf : h.wf) (hn0 : h.next < h'.next → ¬ K.D h.next) (hc : appA h e sz by_ s a = some (v, h', kill)) (hs : Sub h' H) (hl : h'.next ≤ H.next) (hk : ∀ b, kill = some b → b ∉ ks) :
    AP G K H (Builtin.append_ #[t, u] ty #[x, y]) v (kill.toList ++ ks) h.next h'.next ∧ (h' = h ∨ ∃ blk, h' = h.push blk) := by
  obtain ⟨i, hi1, hi2, hce⟩ := szT_some hsz
  obtain ⟨ue, hue⟩ : ∃ ue, G.P.underlying u = some (.slice ue) := by
    unfold slcT at hu2
    split at hu2
    · exact ⟨_, by assumption⟩
    · cases hu2
  simp only [appA, ob_some] at hc
  obtain ⟨n, hna, new, hnew, hc⟩ := hc
  have hlen : ∀ w, (Builtin.lenOf y).run G.P w = .ok n w := lenOf_ok hy hna
  have grown : ∀ {b o len : Nat} {e' : Nat} {base : Option Addr} {cap : Nat} {old : List AV}, len * sz ≤ old.length - o → old.length = o + len * sz → h.get b = some (.row old e) → cap < len + n → roomy (len + n) by_ = true → h' = h.push (.row (old.drop o ++ new) e) → v = .msl e h.next 0 (len + n) →
      kill = some b → (Builtin.firstCells sz len (.slice base len cap)).run G.P K.w.drew = (Builtin.firstCells sz len (.slice base len cap)).run G.P K.w.drew →
      (∃ olds : List Value, (Builtin.firstCells sz len (.slice base len cap)).run G.P K.w.drew = .ok olds.toArray K.w.drew ∧ VRs G.P K (old.drop o) olds) → AP G K H (Builtin.append_ #[t, u] ty #[.slice base len cap, y]) v (kill.toList ++ ks) h.next h'.next := by
    rintro b o len e' base cap old ho1 ho2 hgb hcap hrm rfl rfl rfl _ ⟨olds, g1, g2⟩
    have hn : ¬ K.D h.next := hn0 (by rw [Heap.next_push]; omega)
    have hsh : Sub h H := (Sub.push hwf _).trans hs
    obtain ⟨xs, h1, h2, h3⟩ := firstCells_ok hr hy (sliceCells_sub hsh hnew)
    have hnp := grow_ok (ty := ty) hu hue hsz hby hz hzl hn hlen g1 (h1 _ rfl) g2 h2 (by rw [List.length_drop]; omega) h3 hcap hrm
    exact hnp.ap (by rw [Heap.next_push]; omega) (hr.more fun i hi => by simp [hi]) hn (by rw [Heap.next_push] at hl; omega) (hs _ _ (by rw [Heap.get_push, if_pos rfl]))
  cases hx <;> simp only [reduceCtorEq] at hc
  case nils =>
    rw [bif_eq] at hc
    split at hc
    · rename_i hn0
      rw [Nat.beq_eq] at hn0; subst hn0
      simp only [Option.some.injEq, Prod.mk.injEq] at hc
      obtain ⟨rfl, rfl, rfl⟩ := hc
      obtain ⟨xs, h1, h2, h3⟩ := firstCells_ok hr hy (sliceCells_sub hs hnew)
      refine ⟨YP.ap hr ⟨_, ?_, .nils⟩ _ _, .inl rfl⟩
      simp [Builtin.append_, run_underlying hu, run_underlying hue, run_szT hsz, hlen, h1 K.w rfl]
    · rename_i hn0
      have hn1 : n ≠ 0 := fun e => hn0 (by rw [Nat.beq_eq]; exact e)
      simp only [bif_none, fN_eq, Option.some.injEq, Prod.mk.injEq] at hc
      obtain ⟨hrm, rfl, rfl, rfl⟩ := hc
      have hn : ¬ K.D h.next := hn0 (by rw [Heap.next_push]; omega)
      have hsh : Sub h H := (Sub.push hwf _).trans hs
      obtain ⟨xs, h1, h2, h3⟩ := firstCells_ok hr hy (sliceCells_sub hsh hnew)
      have hnp := grow_ok (ty := ty) (base := none) (sLen := 0) (sCap := 0) (old := []) (olds := []) hu hue hsz hby hz hzl hn hlen (by simp [Builtin.firstCells]) (h1 _ rfl) .nil h2 (by simp) h3 (by omega) (by rw [Nat.zero_add]; exact hrm)
      rw [Nat.zero_add] at hnp
      exact ⟨hnp.ap (by rw [Heap.next_push]; omega) hr hn (by rw [Heap.next_push] at hl; omega) (hs _ _ (by rw [Heap.get_push, if_pos rfl]; rfl)), .inr ⟨_, rfl⟩⟩
  case msl e' b o len cap c ct fr hd hcap h3 h4 =>
    simp only [ob_some, bif_none, fN_eq, Bool.and_eq_true, Nat.beq_eq, Nat.ble_eq, Option.some.injEq, Prod.mk.injEq, lenL_eq, catL_eq, dropL_eq] at hc
    obtain ⟨row, hg, ⟨⟨⟨⟨⟨⟨he1, he2⟩, hrm⟩, hrl⟩, hn1⟩, hs1⟩, hfl⟩, rfl, rfl, rfl⟩ := hc
    have hn : ¬ K.D h.next := hn0 (by rw [Heap.next_push]; omega)
    subst he1
    have hg' := getRow_some.1 hg
    rw [← he2] at hg'
    have hsh : Sub h H := (Sub.push hwf _).trans hs
    obtain ⟨xs, h1, h2, h5⟩ := firstCells_ok hr hy (sliceCells_sub hsh hnew)
    refine ⟨?_, .inr ⟨_, rfl⟩⟩
    by_cases hroom : len + n ≤ cap
    · obtain ⟨c2, cvs, q1, q2, q3, q4⟩ := hr.blk b _ hd (hsh _ _ hg')
      rw [h3] at q1; cases q1
      have hlenm : (len + n) * sz ≤ cap * sz := Nat.mul_le_mul_right _ hroom
      rw [Nat.add_mul] at hlenm
      rw [hce] at h4
      have hl1 := h2.length
      obtain ⟨w1, w2⟩ := hr.share (n := h.next) (o := o) (new := new) hd (hsh _ _ hg') hn (by rw [Heap.next_push] at hl; omega) (hs _ _ (by rw [Heap.get_push, if_pos rfl])) (by omega) (hk b rfl) h3 h2 (by omega) rfl
      have hst := run_storeCells_at G.P (K.bl b) (o + K.sh b + len * sz) e xs 0 c K.w h3 (by omega) (flat_ok h2 hfl)
      simp only [Nat.add_zero] at hst
      rw [show o + K.sh b + len * sz = K.sh b + row.1.length by omega] at hst
      refine ⟨.slice (some ⟨K.bl b, o + K.sh b, none⟩) (len + n) cap, _, ?_, ?_, w1, w2, fun i h => h.imp id fun e => ⟨e, by rw [Heap.next_push]; omega⟩⟩
      rotate_left
      · have hv := VR.msl (P := G.P) (K := K.share h.next b o (K.w.setRow (K.bl b) (c.toList.take (K.sh b + row.1.length) ++ xs ++ c.toList.drop (K.sh b + row.1.length + xs.length)).toArray)) e h.next 0 (len + n) cap _ e (0, 0) (.inr rfl) hroom
          (by rw [show (Kx.share K h.next b o _).bl h.next = K.bl b from if_pos rfl]; exact setRow_heap _ _ _ _ _ _ h3)
          (by
            rw [show (Kx.share K h.next b o _).sh h.next = K.sh b + o from if_pos rfl, hce]
            simp only [List.size_toArray, List.length_append, List.length_take, List.length_drop, Array.length_toList]; omega)
        rw [show (Kx.share K h.next b o _).bl h.next = K.bl b from if_pos rfl, show (Kx.share K h.next b o _).sh h.next = K.sh b + o from if_pos rfl, Nat.zero_add, Nat.add_comm (K.sh b) o] at hv
        exact hv
      · simp [Builtin.append_, run_underlying hu, run_underlying hue, run_szT hsz, hlen, hroom, h1 K.w rfl, addr_add]
        rw [show o + K.sh b + len * sz = K.sh b + row.1.length by omega, hst]
        simp only [List.append_assoc, Result.andThen_ok]
        rfl
    · refine grown (e' := e) (o := o) (by omega) hrl.symm hg' (by omega) hrm rfl rfl rfl rfl ?_
      have hx' := VR.msl (P := G.P) (K := K) e b o len cap c ct fr hd hcap h3 h4
      have hsc : sliceCells H sz len (.msl e b o len) = some ((row.1.drop o).take (len * sz)) := by
        simp only [sliceCells, bif_none, ob_some, cut_some, Nat.ble_eq]
        exact ⟨Nat.le_refl _, (row.1, e), getRow_some.2 (hsh _ _ hg'), by show _ ≤ row.1.length - o; omega, rfl⟩
      obtain ⟨olds, g1, g2, g3⟩ := firstCells_ok hr hx' hsc
      refine ⟨olds, g1 _ rfl, ?_⟩
      rwa [List.take_of_length_le (by rw [List.length_drop]; omega)] at g2
  case msl0 e' b o ad hd =>
    simp only [ob_some, bif_none, fN_eq, Bool.and_eq_true, Nat.beq_eq, Nat.ble_eq, Option.some.injEq, Prod.mk.injEq, lenL_eq, catL_eq, dropL_eq] at hc
    obtain ⟨row, hg, ⟨⟨⟨⟨⟨⟨he1, he2⟩, hrm⟩, hrl⟩, hn1⟩, hs1⟩, hfl⟩, rfl, rfl, rfl⟩ := hc
    have hn : ¬ K.D h.next := hn0 (by rw [Heap.next_push]; omega)
    subst he1
    have hg' := getRow_some.1 hg
    rw [← he2] at hg'
    refine ⟨grown (e' := e) (o := o) (by omega) hrl.symm hg' (by omega) hrm rfl rfl rfl rfl ⟨[], by simp [Builtin.firstCells, loadCells, loadCellsFrom], ?_⟩, .inr ⟨_, rfl⟩⟩
    rw [List.drop_eq_nil_of_le (by omega)]
    exact .nil

end
end Hx

