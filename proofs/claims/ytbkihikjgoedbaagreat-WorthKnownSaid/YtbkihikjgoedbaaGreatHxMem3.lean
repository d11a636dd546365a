/- The operations that turn maps. -/
import Derived.Test.YtbkihikjgoedbaaGreatHxMem2
namespace Hx
open Go

section
variable {P : Program} {K : Kx}

theorem setE_eq {as : List (AV × AV × Nat)} {n i : Nat} {q v0 : AV} {st : Nat} (v : AV) (hs : Stamps as n) (h : as[i]? = some (q, v0, st)) : setE st v as = as.set i (q, v, st) := by
  induction as generalizing i n with
  | nil => simp at h
  | cons x as ih =>
    show bif_ (Nat.beq st x.2.2) ((x.1, v, st) :: as) (x :: setE st v as) = _
    rw [bif_eq]
    cases i with
    | zero => simp at h; subst h; simp
    | succ i =>
      have hx : x.2.2 < st := hs.1 0 (i + 1) x _ rfl h (by omega)
      rw [if_neg (by rw [Nat.beq_eq]; omega)]
      have hs' : Stamps as n := ⟨fun a b p q h1 h2 hl => hs.1 (a + 1) (b + 1) p q h1 h2 (by omega), fun a p h1 => hs.2 (a + 1) p h1⟩
      rw [ih hs' h]; rfl

theorem MR.modify {as : List (AV × AV × Nat)} {l : List MapEntry} (hm : MR P K as l) {i : Nat} {x : AV × AV × Nat} (f : MapEntry → MapEntry)
    (hf : ∀ e, l[i]? = some e → VR P K x.1 (f e).key ∧ VR P K x.2.1 (f e).val ∧ (f e).born = x.2.2) : MR P K (as.set i x) (l.modify i f) := by
  induction hm generalizing i with
  | nil => simpa using MR.nil
  | cons k v n e l r h1 h2 h3 h4 ih =>
    cases i with
    | zero => obtain ⟨g1, g2, g3⟩ := hf e rfl; simpa using MR.cons _ _ _ _ _ _ g1 g2 g3 h4
    | succ i => simpa using MR.cons _ _ _ _ _ _ h1 h2 h3 (ih (fun e he => hf e he))

theorem MR.push {as : List (AV × AV × Nat)} {l : List MapEntry} (hm : MR P K as l) {k v : AV} {n : Nat} {e : MapEntry} (h1 : VR P K k e.key) (h2 : VR P K v e.val) (h3 : e.born = n) : MR P K (as ++ [(k, v, n)]) (l ++ [e]) := by
  induction hm with
  | nil => exact .cons _ _ _ _ _ _ h1 h2 h3 .nil
  | cons k v n e l r g1 g2 g3 _ ih => exact .cons _ _ _ _ _ _ g1 g2 g3 ih

theorem Stamps.set {as : List (AV × AV × Nat)} {n i : Nat} {q v0 v : AV} {st : Nat} (hs : Stamps as n) (h : as[i]? = some (q, v0, st)) : Stamps (as.set i (q, v, st)) n := by
  have key : ∀ (j : Nat) (a : AV × AV × Nat), (as.set i (q, v, st))[j]? = some a → ∃ b, as[j]? = some b ∧ b.2.2 = a.2.2 := by
    intro j a ha
    rw [List.getElem?_set] at ha
    split at ha
    · rename_i e; subst e
      split at ha
      · cases ha; exact ⟨_, h, rfl⟩
      · cases ha
    · exact ⟨a, ha, rfl⟩
  refine ⟨fun a b p r h1 h2 hl => ?_, fun a p h1 => ?_⟩
  · obtain ⟨p', g1, g2⟩ := key a p h1
    obtain ⟨r', g3, g4⟩ := key b r h2
    rw [← g2, ← g4]; exact hs.1 a b p' r' g1 g3 hl
  · obtain ⟨p', g1, g2⟩ := key a p h1
    rw [← g2]; exact hs.2 a p' g1

theorem Stamps.push {as : List (AV × AV × Nat)} {n : Nat} {k v : AV} (hs : Stamps as n) : Stamps (as ++ [(k, v, n)]) (n + 1) := by
  have key : ∀ (j : Nat) (a : AV × AV × Nat), (as ++ [(k, v, n)])[j]? = some a → (as[j]? = some a ∧ j < as.length) ∨ (j = as.length ∧ a = (k, v, n)) := by
    intro j a ha
    rw [List.getElem?_append] at ha
    split at ha
    · rename_i hj; exact .inl ⟨ha, hj⟩
    · rename_i hj
      have : j - as.length = 0 := by
        have := (List.getElem?_eq_some_iff.1 ha).1
        simp at this; omega
      rw [this] at ha
      simp at ha
      exact .inr ⟨by omega, ha.symm⟩
  refine ⟨fun a b p r h1 h2 hl => ?_, fun a p h1 => ?_⟩
  · rcases key a p h1 with ⟨g1, g2⟩ | ⟨g1, rfl⟩ <;> rcases key b r h2 with ⟨g3, g4⟩ | ⟨g3, rfl⟩
    · exact hs.1 a b p r g1 g3 hl
    · exact hs.2 a p g1
    · omega
    · omega
  · rcases key a p h1 with ⟨g1, _⟩ | ⟨_, rfl⟩
    · have := hs.2 a p g1; omega
    · exact Nat.lt_succ_self _

theorem hasE_ok {as : List (AV × AV × Nat)} {st : Nat} (h : hasE st as = true) : ∃ (i : Nat) (q v : AV), as[i]? = some (q, v, st) := by
  induction as with
  | nil => cases h
  | cons x as ih =>
    have h' : bif_ (Nat.beq st x.2.2) true (hasE st as) = true := h
    rw [bif_eq] at h'
    split at h'
    · rename_i he; rw [Nat.beq_eq] at he; exact ⟨0, x.1, x.2.1, by rw [he]; rfl⟩
    · obtain ⟨i, q, v, hi⟩ := ih h'; exact ⟨i + 1, q, v, hi⟩
end

section
variable {G : Gx} {K : Kx} {h : Heap}

theorem run_setObj_map {P : Program} {w : World} {b : Nat} {es : Array MapEntry} {n : Nat} (hb : w.heap[b]? = some (.map es n)) (o : Obj) : (setObj b o).run P w = .ok () { w with heap := w.heap.setIfInBounds b o } := by
  simp [setObj, Sem.run, hb]

theorem HR.writeMap (hr : HR G K h []) {b : Nat} {as as' : List (AV × AV × Nat)} {n n' : Nat} {ces ces' : Array MapEntry} (hd : K.D b) (hg : h.get b = some (.mp as n)) (hc : K.w.heap[K.bl b]? = some (.map ces n))
    (hm : MR G.P K as' ces'.toList) (hs : Stamps as' n') :
    HR G (K.on { K.w with heap := K.w.heap.setIfInBounds (K.bl b) (.map ces' n') }) (h.put b (.mp as' n')) [] ∧
      Tn (fun i => (h.put b (.mp as' n')).low ≤ i) h K (K.on { K.w with heap := K.w.heap.setIfInBounds (K.bl b) (.map ces' n') }) := by
  have hlt : K.bl b < K.w.heap.size := hr.inh b hd
  exact hr.write (FrW.set (b := K.bl b) rfl rfl (fun c hcb => by show (K.w.heap.setIfInBounds _ _)[c]? = _; rw [Array.getElem?_setIfInBounds_ne (Ne.symm hcb)]) (by rw [hc]; show frOf (K.w.heap.setIfInBounds _ _)[K.bl b]? = _; simp [hlt, frOf])) hd (by rw [hg]; rfl) (fun c hcb => by show (K.w.heap.setIfInBounds _ _)[c]? = _; rw [Array.getElem?_setIfInBounds_ne (Ne.symm hcb)]) (by simp) (fun c e fr hx => by rw [hc] at hx; cases hx) (fun L hx => by rw [hc] at hx; cases hx)
    fun hle => ⟨ces', by show (K.w.heap.setIfInBounds _ _)[K.bl b]? = _; simp [hlt], hm.mono hle, hs⟩

theorem same_heap {w : World} {b : Nat} {o : Obj} (h : w.heap[b]? = some o) : { w with heap := w.heap.setIfInBounds b o } = w := by
  have : w.heap.setIfInBounds b o = w.heap := by
    apply Array.ext_getElem?
    intro i
    rw [Array.getElem?_setIfInBounds]
    split
    · rename_i e; subst e
      split
      · exact h.symm
      · rename_i hh; exact absurd (Array.getElem?_eq_some_iff.1 h).1 hh
    · rfl
  rw [this]

theorem stays_ok {t : TypeId} {a q : AV} {x y : Value} {w : World} (hx : VR G.P K a x) (hy : VR G.P K q y) (h : keyEq (eqC G.P t false) a q = some true) : x = y ∧ (Instr.keyThatStays y x).run G.P w = .ok x w := by
  obtain ⟨rfl, h2⟩ := keyEq_same hx hy h
  exact ⟨rfl, by simp [Instr.keyThatStays, h2]⟩

theorem mup_ok (hr : HR G K h []) {t kt e : TypeId} {m k v u : AV} {x y z : Value} {h' : Heap} (hu : G.P.underlying t = some (.map kt e)) (hx : VR G.P K m x) (hy : VR G.P K k y) (hz : VR G.P K v z)
    (hc : mupE h (eqC G.P kt false) m k v = some (u, h')) : UP G K h (Instr.mapUpdate t x y z) h' ∧ u = undefA := by
  cases hx <;> simp only [mupE, reduceCtorEq, ob_some] at hc
  case mp b hd =>
    obtain ⟨r, hg, f, hf, hc⟩ := hc
    have hg' := getMap_some.1 hg
    obtain ⟨ces, c1, c2, c3⟩ := hr.map hd hg'
    obtain ⟨g1, R, g2, g3⟩ := findK_ok hy c2 K.w hf
    cases f with
    | none =>
      cases g3
      simp only [Option.some.injEq, Prod.mk.injEq] at hc
      obtain ⟨rfl, rfl⟩ := hc
      rw [catL_eq]
      have hm : MR G.P K (r.1 ++ [(k, v, r.2)]) (ces.push { key := y, val := z, born := r.2 }).toList := by
        rw [Array.toList_push]; exact c2.push hy hz rfl
      obtain ⟨w1, w2⟩ := hr.writeMap hd hg' c1 hm c3.push
      exact ⟨⟨_, by simp [Instr.mapUpdate, run_underlying hu, run_getObj_map c1, g1, g2, run_setObj_map c1]; rfl, w2, w1, fun _ h => h⟩, rfl⟩
    | some p =>
      obtain ⟨v0, st⟩ := p
      obtain ⟨i, e', q, rfl, a2, a3, a4⟩ := g3
      obtain ⟨e'', b1, b2, b3, b4⟩ := c2.get a3
      rw [a2] at b1
      cases b1
      simp only [Option.some.injEq, Prod.mk.injEq] at hc
      obtain ⟨rfl, rfl⟩ := hc
      obtain ⟨s1, s2⟩ := stays_ok (w := K.w) hy b2 a4
      rw [setE_eq v c3 a3]
      have hm : MR G.P K (r.1.set i (q, v, st)) (ces.modify i fun e => { e with key := y, val := z }).toList := by
        rw [Array.toList_modify]
        exact c2.modify _ fun e he => by
          rw [a2] at he; cases he
          exact ⟨by rw [s1]; exact b2, hz, b4⟩
      obtain ⟨w1, w2⟩ := hr.writeMap hd hg' c1 hm (c3.set a3)
      have hk : ces[i]? = some e' := by simpa using a2
      exact ⟨⟨_, by simp [Instr.mapUpdate, run_underlying hu, run_getObj_map c1, g1, g2, hk, s2, run_setObj_map c1]; rfl, w2, w1, fun _ h => h⟩, rfl⟩

theorem men_ok (hr : HR G K h []) {t kt e : TypeId} {m k zz u : AV} {x y : Value} {h' : Heap} (hu : G.P.underlying t = some (.map kt e)) (hzz : z1T G.P e = some zz) (hx : VR G.P K m x) (hy : VR G.P K k y)
    (hc : menE h (eqC G.P kt false) zz m k = some (u, h')) : WP G K h (Instr.mapEntry t x y) u h' := by
  obtain ⟨zv, hz1, hz2⟩ := run_z1T hzz K.w
  cases hx <;> simp only [menE, reduceCtorEq, ob_some, fN_eq] at hc
  case mp b hd =>
    obtain ⟨r, hg, f, hf, hc⟩ := hc
    have hg' := getMap_some.1 hg
    obtain ⟨ces, c1, c2, c3⟩ := hr.map hd hg'
    obtain ⟨g1, R, g2, g3⟩ := findK_ok hy c2 K.w hf
    cases f with
    | none =>
      cases g3
      simp only [Option.some.injEq, Prod.mk.injEq] at hc
      obtain ⟨rfl, rfl⟩ := hc
      rw [catL_eq]
      have hm : MR G.P K (r.1 ++ [(k, zz, r.2)]) (ces.push { key := y, val := zv, born := r.2 }).toList := by
        rw [Array.toList_push]; exact c2.push hy (hz2 K) rfl
      obtain ⟨w1, w2⟩ := hr.writeMap hd hg' c1 hm c3.push
      refine ⟨.tuple #[zv, goInt r.2], _, ?_, VR.tup _ [zv, goInt r.2] (.cons _ _ _ _ (hz2 _) (.cons _ _ _ _ (.int _ _) .nil)), w2, w1, fun _ h => h⟩
      simp [Instr.mapEntry, run_underlying hu, run_getObj_map c1, g1, g2, hz1, run_setObj_map c1]; rfl
    | some p =>
      obtain ⟨v0, st⟩ := p
      obtain ⟨i, e', q, rfl, a2, a3, a4⟩ := g3
      obtain ⟨e'', b1, b2, b3, b4⟩ := c2.get a3
      rw [a2] at b1
      cases b1
      simp only [Option.some.injEq, Prod.mk.injEq] at hc
      obtain ⟨rfl, rfl⟩ := hc
      obtain ⟨s1, s2⟩ := stays_ok (w := K.w) hy b2 a4
      have hk : ces[i]? = some e' := by simpa using a2
      have hmod : (ces.modify i fun e => { e with key := y }) = ces := by
        apply Array.ext_getElem?
        intro j
        rw [Array.getElem?_modify]
        split
        · rename_i e; subst e
          rw [hk, Option.map_some, s1]
        · rfl
      refine ⟨.tuple #[e'.val, goInt e'.born], K, ?_, ?_, Tn.refl _ _ _, hr, fun _ h => h⟩
      · simp [Instr.mapEntry, run_underlying hu, run_getObj_map c1, g1, g2, hk, s2, hmod, run_setObj_map c1, same_heap c1]
      · rw [b4]; exact VR.tup _ [e'.val, goInt st] (.cons _ _ _ _ b3 (.cons _ _ _ _ (.int _ _) .nil))

theorem mes_ok (hr : HR G K h []) {t : TypeId} {m s v u : AV} {x y z : Value} {h' : Heap} (hx : VR G.P K m x) (hy : VR G.P K s y) (hz : VR G.P K v z)
    (hc : mesE h m s v = some (u, h')) : UP G K h (Instr.entryStore t x y z) h' ∧ u = undefA := by
  cases hx <;> simp only [mesE, reduceCtorEq, ob_some, bif_none] at hc
  case mp b hd =>
    obtain ⟨st, hst, r, hg, hh, hc⟩ := hc
    simp only [Option.some.injEq, Prod.mk.injEq] at hc
    obtain ⟨rfl, rfl⟩ := hc
    obtain ⟨k, rfl⟩ := natOf_ok hy hst
    have hg' := getMap_some.1 hg
    obtain ⟨ces, c1, c2, c3⟩ := hr.map hd hg'
    obtain ⟨i, q, v0, a3⟩ := hasE_ok hh
    obtain ⟨e', b1, b2, b3, b4⟩ := c2.get a3
    have hk : ces[i]? = some e' := by simpa using b1
    rw [setE_eq v c3 a3]
    have hm : MR G.P K (r.1.set i (q, v, st)) (ces.modify i fun e => { e with val := z }).toList := by
      rw [Array.toList_modify]
      exact c2.modify _ fun e he => by
        rw [b1] at he; cases he
        exact ⟨b2, hz, b4⟩
    obtain ⟨w1, w2⟩ := hr.writeMap hd hg' c1 hm (c3.set a3)
    have hfi : ces.findIdx? (fun e => (e.born : Int) == (st : Int)) = some i := by
      rw [Array.findIdx?_eq_some_iff_getElem]
      have hil := (Array.getElem?_eq_some_iff.1 hk)
      refine ⟨hil.1, by rw [hil.2, b4]; simp, fun j hj => ?_⟩
      have hjl : j < ces.size := Nat.lt_trans hj hil.1
      have hjr : j < r.1.length := by have := c2.length; simp at this; omega
      obtain ⟨ej, d1, d2, d3, d4⟩ := c2.get (List.getElem?_eq_getElem hjr : r.1[j]? = some (r.1[j].1, r.1[j].2.1, r.1[j].2.2))
      have d1' : ces[j]? = some ej := by simpa using d1
      rw [(Array.getElem?_eq_some_iff.1 d1').2, d4]
      have h5 : r.1[j].2.2 < st := c3.1 j i _ _ (List.getElem?_eq_getElem hjr) a3 hj
      have h6 : ¬ ((r.1[j].2.2 : Int) = (st : Int)) := by omega
      simpa using h6
    exact ⟨⟨_, by simp [Instr.entryStore, run_getObj_map c1, asInt, asIntOf, hfi, run_setObj_map c1]; rfl, w2, w1, fun _ h => h⟩, rfl⟩

end
end Hx
