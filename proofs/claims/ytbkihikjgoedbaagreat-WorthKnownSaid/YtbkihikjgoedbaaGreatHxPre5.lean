/- Regions that draw their order: what holds on the way. -/
import Derived.Test.YtbkihikjgoedbaaGreatHxPre4
namespace Hx
open Go

structure HMon (h h' : Heap) : Prop where
  next : h.next ≤ h'.next
  same : ∀ b, b < h.next → h'.get b = h.get b
  wf : h.wf → h'.wf
  low : h'.low = h.low
theorem HMon.refl (h : Heap) : HMon h h := ⟨Nat.le_refl _, fun _ _ => rfl, fun h => h, rfl⟩
theorem HMon.trans {a b c : Heap} (x : HMon a b) (y : HMon b c) : HMon a c :=
  ⟨Nat.le_trans x.next y.next, fun i hi => (y.same i (Nat.lt_of_lt_of_le hi x.next)).trans (x.same i hi), fun h => y.wf (x.wf h), y.low.trans x.low⟩
theorem HMon.sub {h h' : Heap} (hm : HMon h h') (hw : h.wf) : Sub h h' := fun i x hx => by
  rw [hm.same i ?_]
  · exact hx
  · apply Classical.byContradiction
    intro hn
    rw [hw i (by omega)] at hx; cases hx
theorem HMon.ext {h h' : Heap} (hm : HMon h h') : HExt h h' := ⟨hm.next, by rw [hm.low]; exact Nat.le_refl _, fun b hb _ => hm.same b hb, fun b hb hn => by rw [hm.same b hb]; exact hn⟩
theorem grows_mon {h h' : Heap} (hg : Grows h h') : HMon h h' := by
  refine ⟨?_, fun b hb => grows_same hg hb, grows_wf hg, ?_⟩
  · rcases hg with rfl | ⟨x, rfl⟩
    · exact Nat.le_refl _
    · rw [Heap.next_push]; omega
  · rcases hg with rfl | ⟨x, rfl⟩
    · rfl
    · exact Heap.low_push _ _

theorem idxO_some {t : Nat} : ∀ {l : List (Option Nat)} {j : Nat}, idxO t l = some j → l[j]? = some (some t)
  | [], j, h => by cases h
  | x :: l, j, h => by
    unfold idxO at h
    split at h
    · rename_i e; cases h; simp [e]
    · rw [Option.map_eq_some_iff] at h; obtain ⟨j', h1, rfl⟩ := h; simpa using idxO_some h1
theorem idxO_none {t : Nat} : ∀ {l : List (Option Nat)}, idxO t l = none → some t ∉ l
  | [], h => by simp
  | x :: l, h => by
    unfold idxO at h
    split at h
    · cases h
    · rename_i e; rw [Option.map_eq_none_iff] at h; simp [idxO_none h, Ne.symm e]

def Ls (listed : Array Bool) (i : Nat) : Prop := listed.getD i false = true
theorem ls_set {listed : Array Bool} {i j : Nat} (hi : i < listed.size) : Ls (listed.setIfInBounds i true) j ↔ j = i ∨ Ls listed j := by
  unfold Ls
  by_cases h : j = i
  · subst h; simp [hi]
  · simp only [Array.getD_eq_getD_getElem?]
    rw [Array.getElem?_setIfInBounds_ne (fun e => h e.symm)]
    simp [h]

structure Rgn (G : Gx) (V : Vn) (cf : CallFn) (ops : Array Oper) (b perm : List Nat) (k : Nat) (l : List Oper) (its : List IT) (T : List PS) (vs0 : List AV) (h0 : Heap) (ds : Defs) (fin : St) (m : Option Nat) (K0 : Kx) (a0 : Act) : Prop where
  ok : PermOk G.P b ops.toList perm k
  gl : getOps ops.toList perm = some l
  ci : ∃ its0, compIts G.P V true ops l [] = some its0 ∧ addChk G.P V ops.toList b k 0 l perm [] [] its0 = some its
  tr : ∃ cs, flChk G.P V ops.toList (dsAt l [] k) (fun q => looseAt G.P ops.toList b q (perm.drop k)) (perm.take k).reverse 0 = some cs ∧ TrH cf ds fin cs k its [] [] vs0 h0 T
  hs : SR G V m K0 a0 vs0 h0 ds
  hv : V.vsl.Nodup
  hcf : CallOk G V.gl cf

/-- the operation at p -/
structure At (G : Gx) (V : Vn) (cf : CallFn) (ops : Array Oper) (b perm : List Nat) (k : Nat) (l : List Oper) (its : List IT) (T : List PS) (vs0 : List AV) (h0 : Heap) (ds : Defs) (p i : Nat) (o : Oper) (it : IT) (s : PS) : Prop where
  pi : perm[p]? = some i
  oi : ops[i]? = some o
  lp : l[p]? = some o
  ip : its[p]? = some it
  tp : T[p]? = some s
  co : compOpB G.P (compX V (dsAt l [] p)) o.op = some it.op
  cg : compG ops (dsAt l [] p) o.guard = some it.grd
  wr : it.wr = o.dst.bind (idxN · V.vsl)
  dst : dstOk V o.dst = true
  nd : isDfr o.op = false
  stk : s.stk = stkAt T [] p
  vs : s.vs = vsAt its T vs0 p
  grd : GrdR it s
  hd : p < k → s.h = hdAt T h0 p ∧ HdR cf (ksAt T [] p) it s ∧ ∀ b, s.kill = some b → b ∉ ksAt T [] p
  tl : k ≤ p → s.h = tlAt k T [] h0 p ∧ TlR cf ds it s
  pos : PosOk G.P b ops.toList perm k p i
  op : opAt ops.toList i = o
  ck : k ≤ p → pureOp G.P o.op = false → fltOp o = false → flChk G.P V ops.toList (dsAt l [] p) (fun q => !(bAt b i).testBit q) (perm.take p).reverse 0 = some it.chk

section
variable {G : Gx} {V : Vn} {cf : CallFn} {ops : Array Oper} {b perm : List Nat} {k : Nat} {l : List Oper} {its : List IT} {T : List PS} {vs0 : List AV} {h0 : Heap} {ds : Defs} {fin : St} {m : Option Nat} {K0 : Kx} {a0 : Act}

theorem Rgn.itg (R : Rgn G V cf ops b perm k l its T vs0 h0 ds fin m K0 a0) : its.length = l.length ∧ ∀ p o, l[p]? = some o → ∃ it, its[p]? = some it ∧
    compOpB G.P (compX V (dsAt l [] p)) o.op = some it.op ∧ compG ops (dsAt l [] p) o.guard = some it.grd ∧ it.wr = o.dst.bind (idxN · V.vsl) ∧ dstOk V o.dst = true ∧ isDfr o.op = false ∧
    ∀ i, perm[p]? = some i → k ≤ p → pureOp G.P o.op = false → fltOp o = false → flChk G.P V ops.toList (dsAt l [] p) (fun q => !(bAt b i).testBit q) (perm.take p).reverse 0 = some it.chk := by
  obtain ⟨its0, h1, h2⟩ := R.ci
  obtain ⟨g1, g2⟩ := compIts_get h1
  obtain ⟨g3, g4⟩ := addChk_get h2
  refine ⟨g3.trans g1, fun p o hp => ?_⟩
  obtain ⟨it0, a1, a2, a3, a4, a5, a6⟩ := g2 p o hp
  obtain ⟨it, b1, b2, b3, b4, b5⟩ := g4 p it0 a1
  refine ⟨it, b1, by rw [b2]; exact a2, by rw [b3]; exact a3, by rw [b4]; exact a4, a5, by simpa using a6, fun i hi hk hpu hfl => ?_⟩
  have := b5 o i hp hi (by omega) hpu hfl
  unfold dsAt
  simpa using this
theorem Rgn.trg (R : Rgn G V cf ops b perm k l its T vs0 h0 ds fin m K0 a0) : T.length = its.length ∧ k ≤ its.length ∧ fin = ⟨vsAt its T vs0 its.length, tlAt k T [] h0 its.length, ds⟩ ∧
    (∃ cs, flChk G.P V ops.toList (dsAt l [] k) (fun q => looseAt G.P ops.toList b q (perm.drop k)) (perm.take k).reverse 0 = some cs ∧ chkOk cs (stkAt T [] k) (vsAt its T vs0 k) (tlAt k T [] h0 k) = true) ∧
    ∀ p s it, T[p]? = some s → its[p]? = some it → s.stk = stkAt T [] p ∧ s.vs = vsAt its T vs0 p ∧ GrdR it s ∧ (p < k → s.h = hdAt T h0 p ∧ HdR cf (ksAt T [] p) it s ∧ ∀ b, s.kill = some b → b ∉ ksAt T [] p) ∧ (k ≤ p → s.h = tlAt k T [] h0 p ∧ TlR cf ds it s) := by
  obtain ⟨cs, h1, h2⟩ := R.tr
  obtain ⟨g1, g2, g3, g4, g5⟩ := h2.get
  exact ⟨g1, g2, g3, ⟨cs, h1, g4⟩, g5⟩

theorem Rgn.lens (R : Rgn G V cf ops b perm k l its T vs0 h0 ds fin m K0 a0) : perm.length = ops.size ∧ l.length = ops.size ∧ its.length = ops.size ∧ T.length = ops.size ∧ k ≤ ops.size := by
  have h1 : perm.length = ops.size := by simpa using R.ok.len
  have h2 : l.length = perm.length := (getOps_get R.gl).1
  have h3 : its.length = l.length := R.itg.1
  have h4 : T.length = its.length := R.trg.1
  have h5 : k ≤ its.length := R.trg.2.1
  refine ⟨h1, ?_, ?_, ?_, ?_⟩ <;> omega

theorem Rgn.at (R : Rgn G V cf ops b perm k l its T vs0 h0 ds fin m K0 a0) {p i : Nat} (hp : perm[p]? = some i) : ∃ o it s, At G V cf ops b perm k l its T vs0 h0 ds p i o it s := by
  obtain ⟨o, h1, h2⟩ := (getOps_get R.gl).2 p i hp
  obtain ⟨it, h3, h4, h5, h6, h7, h8, h9⟩ := R.itg.2 p o h1
  have hl := R.lens
  have hlt := (List.getElem?_eq_some_iff.1 hp).1
  have hT : T[p]? = some (T[p]'(by omega)) := List.getElem?_eq_getElem _
  obtain ⟨g1, g2, g3, g4, g5⟩ := R.trg.2.2.2.2 p _ it hT h3
  have e : opAt ops.toList i = o := by unfold opAt; rw [getL_eq, h2]; rfl
  exact ⟨o, it, _, hp, by rw [← Array.getElem?_toList]; exact h2, h1, h3, hT, h4, h5, h6, h7, h8, g1, g2, g3, g4, g5, R.ok.pos p i hp, e, h9 i hp⟩

theorem perm_inj (R : Rgn G V cf ops b perm k l its T vs0 h0 ds fin m K0 a0) {p q i : Nat} (hp : perm[p]? = some i) (hq : perm[q]? = some i) : p = q := by
  obtain ⟨h1, e1⟩ := List.getElem?_eq_some_iff.1 hp
  obtain ⟨h2, e2⟩ := List.getElem?_eq_some_iff.1 hq
  have hpw := List.pairwise_iff_getElem.1 R.ok.nd
  rcases Nat.lt_trichotomy p q with h | h | h
  · exact absurd (e1.trans e2.symm) (hpw p q h1 h2 h)
  · exact h
  · exact absurd (e2.trans e1.symm) (hpw q p h2 h1 h)

theorem perm_pos (R : Rgn G V cf ops b perm k l its T vs0 h0 ds fin m K0 a0) {i : Nat} (hi : i < ops.size) : ∃ p : Nat, perm[p]? = some i :=
  List.getElem?_of_mem (R.ok.all (by simpa using hi))

/-- slots and order -/
structure Com (G : Gx) (ops : Array Oper) (b perm : List Nat) (T : List PS) (K0 : Kx) (a0 : Act) (listed : Array Bool) (a : Act) (K : Kx) : Prop where
  lsz : listed.size = ops.size
  clos : ∀ i, Ls listed i → ∀ j, (bAt b i).testBit j = true → Ls listed j
  vals : ∀ (p i : Nat) (s : PS) (o : Oper) (t : Nat), perm[p]? = some i → Ls listed i → T[p]? = some s → ops[i]? = some o → o.dst = some t → ∃ x, a.tmps[t]? = some x ∧ VR G.P K s.v x
  old : ∀ (t : Nat), (∀ (i : Nat) (o : Oper), Ls listed i → ops[i]? = some o → o.dst ≠ some t) → a.tmps[t]? = a0.tmps[t]?
  size : a.tmps.size = a0.tmps.size
  dfr : a.defers = a0.defers
  kle : Kle K0 K
theorem Com.mono {listed : Array Bool} {a : Act} {K K' : Kx} (C : Com G ops b perm T K0 a0 listed a K) (hk : Kle K K') : Com G ops b perm T K0 a0 listed a K' :=
  ⟨C.lsz, C.clos, fun p i s o t h1 h2 h3 h4 h5 => (let ⟨x, h6, h7⟩ := C.vals p i s o t h1 h2 h3 h4 h5; ⟨x, h6, h7.mono hk⟩), C.old, C.size, C.dfr, C.kle.trans hk⟩

theorem Com.lt {listed : Array Bool} {a : Act} {K : Kx} (C : Com G ops b perm T K0 a0 listed a K) {i : Nat} (h : Ls listed i) : i < ops.size := by
  rw [← C.lsz]
  apply Classical.byContradiction
  intro hn
  unfold Ls at h
  rw [Array.getD_eq_getD_getElem?, Array.getElem?_eq_none (by omega)] at h
  cases h

theorem ready_spec (R : Rgn G V cf ops b perm k l its T vs0 h0 ds fin m K0 a0) {listed : Array Bool} {a : Act} {K : Kx} (C : Com G ops b perm T K0 a0 listed a K) {i : Nat} (hi : i ∈ Region.ready .any ops listed) :
    i < ops.size ∧ ¬ Ls listed i ∧ ∀ j, (bAt b i).testBit j = true → Ls listed j := by
  unfold Region.ready at hi
  rw [List.mem_filter, List.mem_range, Bool.and_eq_true, Bool.not_eq_true'] at hi
  obtain ⟨h1, h2, h3⟩ := hi
  obtain ⟨o, ho⟩ : ∃ o, ops[i]? = some o := ⟨ops[i], by simp [h1]⟩
  rw [ho] at h3
  simp only [Option.map_some, Option.getD_some] at h3
  refine ⟨h1, fun hl => ?_, fun j hj => ?_⟩
  · unfold Ls at hl
    have : i < listed.size := by rw [C.lsz]; exact h1
    simp [Array.getD_eq_getD_getElem?, this] at hl h2
    rw [hl] at h2; cases h2
  · rw [R.ok.bef i o (by rw [Array.getElem?_toList]; exact ho), edgeM_bit] at hj
    obtain ⟨e, he, hb, hj⟩ := hj
    have hle : Ls listed e.on := by
      rw [Array.all_eq_true_iff_forall_mem] at h3
      have := h3 e (by simpa using he)
      rw [hb] at this
      exact this
    rcases hj with rfl | hj
    · exact hle
    · exact C.clos _ hle _ hj

theorem ready_ne (R : Rgn G V cf ops b perm k l its T vs0 h0 ds fin m K0 a0) {listed : Array Bool} {a : Act} {K : Kx} (C : Com G ops b perm T K0 a0 listed a K) (hr : Region.ready .any ops listed = []) : ∀ i, i < ops.size → Ls listed i := by
  have key : ∀ p i : Nat, perm[p]? = some i → Ls listed i := by
    intro p
    induction p using Nat.strongRecOn with
    | ind p ih =>
      intro i hi
      apply Classical.byContradiction
      intro hn
      obtain ⟨o, it, s, A⟩ := R.at hi
      have : i ∈ Region.ready .any ops listed := by
        unfold Region.ready
        have hlt : i < ops.size := (Array.getElem?_eq_some_iff.1 A.oi).1
        rw [List.mem_filter, List.mem_range, Bool.and_eq_true, Bool.not_eq_true', A.oi]
        refine ⟨hlt, ?_, ?_⟩
        · have hl : i < listed.size := by rw [C.lsz]; exact hlt
          unfold Ls at hn
          simp [Array.getD_eq_getD_getElem?, hl] at hn ⊢
          exact hn
        · simp only [Option.map_some, Option.getD_some]
          rw [Array.all_eq_true_iff_forall_mem]
          intro e he
          cases hb : Region.binds .any e with
          | false => rfl
          | true =>
            have hbit : (bAt b i).testBit e.on = true := by
              rw [R.ok.bef i o (by rw [Array.getElem?_toList]; exact A.oi), edgeM_bit]
              exact ⟨e, by simpa using he, hb, .inl rfl⟩
            obtain ⟨q, hq, hqe⟩ := A.pos.bef _ hbit
            exact ih q hq _ hqe
      rw [hr] at this; cases this
  intro i hi
  obtain ⟨p, hp⟩ := perm_pos R hi
  exact key p i hp

/-- only these operands -/
noncomputable def coR (co : CoF) (l : List Operand) : CoF := fun x => open Classical in if x ∈ l then co x else none
theorem coR_comp {P : Program} {co : CoF} {o : Op} : compOp P (coR co o.operands.toList) o = compOp P co o := (compOp_congr fun x hx => by unfold coR; rw [if_pos hx]).symm.symm

/-- a result of an operation before -/
theorem com_stkP (R : Rgn G V cf ops b perm k l its T vs0 h0 ds fin m K0 a0) {p : Nat} (hp : p ≤ ops.size) {t j : Nat} (hj : idxO t (dsAt l [] p) = some j) :
    ∃ q iq oq sq, q < p ∧ perm[q]? = some iq ∧ ops[iq]? = some oq ∧ oq.dst = some t ∧ T[q]? = some sq ∧ (stkAt T [] p)[j]? = some sq.v := by
  have hl := R.lens
  have h1 := idxO_some hj
  unfold dsAt at h1
  rw [List.append_nil] at h1
  have hjl := (List.getElem?_eq_some_iff.1 h1).1
  rw [List.length_reverse, List.length_map, List.length_take] at hjl
  rw [List.getElem?_reverse (by rw [List.length_map, List.length_take]; exact hjl), List.length_map, List.length_take, List.getElem?_map, List.getElem?_take, if_pos (by omega)] at h1
  rw [Option.map_eq_some_iff] at h1
  obtain ⟨oq, hq, hd⟩ := h1
  have hmin : min p l.length = p := by omega
  rw [hmin] at hq
  obtain ⟨iq, hiq⟩ : ∃ iq, perm[p - 1 - j]? = some iq := ⟨perm[p - 1 - j]'(by omega), List.getElem?_eq_getElem _⟩
  obtain ⟨oq', itq, sq, Aq⟩ := R.at hiq
  have : oq' = oq := by have := Aq.lp; rw [hq] at this; cases this; rfl
  subst this
  refine ⟨p - 1 - j, iq, oq', sq, by omega, hiq, Aq.oi, hd, Aq.tp, ?_⟩
  rw [stkAt_get (by omega), List.append_nil, List.getElem?_reverse (by rw [List.length_map, List.length_take]; omega), List.length_map, List.length_take, List.getElem?_map, List.getElem?_take, if_pos (by omega)]
  have hmin : min p T.length = p := by omega
  rw [hmin, Aq.tp]; rfl

theorem com_stk (R : Rgn G V cf ops b perm k l its T vs0 h0 ds fin m K0 a0) {p i : Nat} {o : Oper} {it : IT} {s : PS} (A : At G V cf ops b perm k l its T vs0 h0 ds p i o it s) {t j : Nat} (hj : idxO t (dsAt l [] p) = some j) :
    ∃ q iq oq sq, q < p ∧ perm[q]? = some iq ∧ ops[iq]? = some oq ∧ oq.dst = some t ∧ T[q]? = some sq ∧ s.stk[j]? = some sq.v := by
  rw [A.stk]
  have hl := R.lens
  have hlt := (List.getElem?_eq_some_iff.1 A.pi).1
  exact com_stkP R (by omega) hj

theorem com_opsP (R : Rgn G V cf ops b perm k l its T vs0 h0 ds fin m K0 a0) {listed : Array Bool} {a : Act} {K : Kx} (C : Com G ops b perm T K0 a0 listed a K) {r i : Nat} {o : Oper} {it : IT} {s : PS} (A : At G V cf ops b perm k l its T vs0 h0 ds r i o it s)
    (hni : ¬ Ls listed i) (hrd : ∀ j, (bAt b i).testBit j = true → Ls listed j) {p : Nat} (hrp : r ≤ p) (hp : p ≤ ops.size) (hnw : ∀ (w : Nat) (oq : Oper) (t : Nat), r ≤ w → w < p → l[w]? = some oq → oq.dst = some t → Operand.tmp t ∉ o.op.operands.toList) :
    OpsOk G.P K (coR (compX V (dsAt l [] p)) o.op.operands.toList) (stkAt T [] p) (vsAt its T vs0 p) a.eval := by
  intro x f v hc hf
  unfold coR at hc
  split at hc
  rotate_left
  · cases hc
  · rename_i hmem
    cases x with
    | tmp t =>
      have hread := A.pos.reads t (by rw [A.op]; exact hmem)
      unfold readOk at hread
      have wr : ∀ {q : Nat} {oq : Oper}, ops[q]? = some oq → oq.dst = some t → (bAt b i).testBit q = true ∨ (bAt b q).testBit i = true := by
        intro q oq hq hd
        split at hread
        · rename_i hw
          exact absurd hd (writer_none hw q oq (by rw [Array.getElem?_toList]; exact hq))
        · rename_i w hw
          obtain ⟨w', ow, e, h1, h2⟩ := writer_some hw
          have : w = q := by
            rw [e, Nat.zero_add]
            exact R.ok.dst w' q ow oq t h1 (by rw [Array.getElem?_toList]; exact hq) h2 hd
          subst this
          rw [Bool.or_eq_true] at hread
          exact hread
      simp only [compX] at hc
      split at hc
      · rename_i j hj
        cases hc
        obtain ⟨q, iq, oq, sq, hq, h1, h2, h3, h4, h5⟩ := com_stkP R hp hj
        have hqr : q < r := by
          apply Classical.byContradiction
          intro hn
          obtain ⟨oq', itq, sq', Aq⟩ := R.at h1
          have e := Aq.oi
          rw [h2] at e; cases e
          exact hnw q oq t (by omega) hq Aq.lp h3 hmem
        have hf' : getL (stkAt T [] p) j = some v := hf
        rw [getL_eq, h5] at hf'
        cases hf'
        have hls : Ls listed iq := by
          rcases wr h2 h3 with h6 | h6
          · exact hrd _ h6
          · obtain ⟨q', hq', hqe⟩ := (R.ok.pos q iq h1).bef i h6
            have := perm_inj R hqe A.pi
            omega
        obtain ⟨x, h7, h8⟩ := C.vals q iq sq oq t h1 hls h4 h2 h3
        show VR G.P K sq.v (a.tmps.getD t undef)
        rw [Array.getD_eq_getD_getElem?, h7]; exact h8
      · rename_i hno
        rw [Option.map_eq_some_iff] at hc
        obtain ⟨vi, hvi, rfl⟩ := hc
        have hno' := idxO_none hno
        have hvt := idxN_some hvi
        have nowr : ∀ q oq, q < p → l[q]? = some oq → oq.dst ≠ some t := fun q oq hq ho hd => hno' (by
          unfold dsAt
          rw [List.append_nil, List.mem_reverse, List.mem_map]
          exact ⟨oq, List.mem_of_getElem? (i := q) (by rw [List.getElem?_take, if_pos hq]; exact ho), hd⟩)
        have hvs : (vsAt its T vs0 p)[vi]? = vs0[vi]? := by
          refine vsAt_old fun q itq hq hitq hwr => ?_
          have hl := R.lens
          have hql := (List.getElem?_eq_some_iff.1 hitq).1
          obtain ⟨iq, hiq⟩ : ∃ iq, perm[q]? = some iq := ⟨perm[q]'(by omega), List.getElem?_eq_getElem _⟩
          obtain ⟨oq, itq', sq, Aq⟩ := R.at hiq
          have e := Aq.ip
          rw [hitq] at e; cases e
          rw [Aq.wr] at hwr
          cases hd : oq.dst with
          | none => rw [hd] at hwr; cases hwr
          | some t' =>
            rw [hd] at hwr
            have := idxN_some (show idxN t' V.vsl = some vi from hwr)
            rw [hvt] at this; cases this
            exact nowr q oq hq Aq.lp hd
        have hf' : getL (vsAt its T vs0 p) vi = some v := hf
        rw [getL_eq, hvs] at hf'
        obtain ⟨v', x, h1, h2, h3⟩ := R.hs.slots.2 vi t hvt
        rw [h1] at hf'; cases hf'
        show VR G.P K v (a.tmps.getD t undef)
        rw [Array.getD_eq_getD_getElem?, C.old t ?_, h2]
        · exact h3.mono C.kle
        · intro j oj hj hoj hd
          rcases wr hoj hd with h6 | h6
          · obtain ⟨q', hq', hqe⟩ := A.pos.bef j h6
            obtain ⟨oq, itq, sq, Aq⟩ := R.at hqe
            have e := Aq.oi
            rw [hoj] at e; cases e
            exact nowr q' oj (by omega) Aq.lp hd
          · exact hni (C.clos j hj i h6)
    | const c =>
      simp only [compX, Option.map_eq_some_iff] at hc
      obtain ⟨u, hu, rfl⟩ := hc
      cases hf
      exact ofValue_ok hu
    | global g =>
      simp only [compX, Option.map_eq_some_iff] at hc
      obtain ⟨cs, hu, rfl⟩ := hc
      cases hf
      obtain ⟨cvs, h1, h2, h3, h4⟩ := (R.hs.gl.mono C.kle) g cs hu
      have := VR.iptr cs 0 g 0 cvs h1 h2 h3 h4
      simpa [Act.eval] using this
    | func f =>
      cases hc
      cases hf
      exact VR.fn f [] [] [] [] .nil .nil

theorem com_ops (R : Rgn G V cf ops b perm k l its T vs0 h0 ds fin m K0 a0) {listed : Array Bool} {a : Act} {K : Kx} (C : Com G ops b perm T K0 a0 listed a K) {p i : Nat} {o : Oper} {it : IT} {s : PS} (A : At G V cf ops b perm k l its T vs0 h0 ds p i o it s)
    (hni : ¬ Ls listed i) (hrd : ∀ j, (bAt b i).testBit j = true → Ls listed j) : OpsOk G.P K (coR (compX V (dsAt l [] p)) o.op.operands.toList) s.stk s.vs a.eval := by
  rw [A.stk, A.vs]
  have hl := R.lens
  have hlt := (List.getElem?_eq_some_iff.1 A.pi).1
  exact com_opsP R C A hni hrd (Nat.le_refl _) (by omega) fun w oq t h1 h2 => by omega

theorem com_guard (R : Rgn G V cf ops b perm k l its T vs0 h0 ds fin m K0 a0) {listed : Array Bool} {a : Act} {K : Kx} (C : Com G ops b perm T K0 a0 listed a K) {p i : Nat} {o : Oper} {it : IT} {s : PS} (A : At G V cf ops b perm k l its T vs0 h0 ds p i o it s)
    (hrd : ∀ j, (bAt b i).testBit j = true → Ls listed j) : Region.wanted o (yielded ops a.tmps) = s.on := by
  have hg := A.grd.1
  have hc := A.cg
  unfold Region.wanted
  cases hgd : o.guard with
  | none =>
    rw [hgd] at hc
    simp only [compG, Option.some.injEq] at hc
    rw [← hc] at hg
    have hg' : some true = some s.on := hg
    simpa using hg'
  | some g =>
    obtain ⟨j, want⟩ := g
    rw [hgd] at hc
    simp only [compG] at hc
    split at hc
    · rename_i t hj
      rw [Option.map_eq_some_iff] at hc
      obtain ⟨p', hp', e⟩ := hc
      rw [← e] at hg
      obtain ⟨q, iq, oq, sq, hq, h1, h2, h3, h4, h5⟩ := com_stk R A hp'
      have hg' : ob (getL s.stk p') (guardB want) = some s.on := hg
      rw [getL_eq, h5] at hg'
      have hg' : guardB want sq.v = some s.on := hg'
      rw [Option.bind_eq_some_iff] at hj
      obtain ⟨oj, hoj, hdj⟩ := hj
      have e2 : iq = j := R.ok.dst iq j oq oj t (by rw [Array.getElem?_toList]; exact h2) (by rw [Array.getElem?_toList]; exact hoj) h3 hdj
      subst e2
      have hls : Ls listed iq := hrd _ (A.pos.grd iq want (by rw [A.op]; exact hgd))
      obtain ⟨x, h7, h8⟩ := C.vals q iq sq oq t h1 hls h4 h2 h3
      unfold yielded
      simp only [hoj, Option.bind_some, hdj, h7]
      unfold guardB at hg'
      split at hg'
      · rename_i bb hv
        simp only [bif_eq, Option.some.injEq] at hg'
        rw [← hg']
        rw [hv] at h8
        cases h8
        cases want <;> cases bb <;> rfl
      · rename_i hv
        rw [hv] at h8
        cases h8
        have hg2 : false = s.on := by simpa using hg'
        rw [← hg2]
        rfl
      · cases hg'
    · cases hc

theorem com_put (R : Rgn G V cf ops b perm k l its T vs0 h0 ds fin m K0 a0) {listed : Array Bool} {a : Act} {K K' : Kx} (C : Com G ops b perm T K0 a0 listed a K) {p i : Nat} {o : Oper} {it : IT} {s : PS} (A : At G V cf ops b perm k l its T vs0 h0 ds p i o it s)
    (hrd : ∀ j, (bAt b i).testBit j = true → Ls listed j) (hk : Kle K K') {x : Value} (hx : VR G.P K' s.v x) : Com G ops b perm T K0 a0 (listed.setIfInBounds i true) (a.put o.dst x) K' := by
  have hil : i < ops.size := (Array.getElem?_eq_some_iff.1 A.oi).1
  have hil' : i < listed.size := by rw [C.lsz]; exact hil
  refine ⟨by rw [Array.size_setIfInBounds]; exact C.lsz, fun j hj q hq => ?_, fun p' i' s' o' t h1 h2 h3 h4 h5 => ?_, fun t ht => ?_, by rw [put_size]; exact C.size, by rw [put_defers]; exact C.dfr, C.kle.trans hk⟩
  · rw [ls_set hil'] at hj ⊢
    rcases hj with rfl | hj
    · exact .inr (hrd q hq)
    · exact .inr (C.clos j hj q hq)
  · rw [ls_set hil'] at h2
    rw [put_tmps]
    by_cases hii : i' = i
    · subst hii
      have := perm_inj R h1 A.pi
      subst this
      have e1 := A.tp; rw [h3] at e1; cases e1
      have e2 := A.oi; rw [h4] at e2; cases e2
      have hlt : t < a.tmps.size := by
        have := A.dst
        rw [h5] at this
        simp [dstOk] at this
        have := R.hs.nt
        rw [C.size]; omega
      rw [if_pos ⟨h5, hlt⟩]
      exact ⟨x, rfl, hx⟩
    · rw [if_neg (fun hh => hii (R.ok.dst i' i o' o t (by rw [Array.getElem?_toList]; exact h4) (by rw [Array.getElem?_toList]; exact A.oi) h5 hh.1))]
      obtain ⟨y, h6, h7⟩ := C.vals p' i' s' o' t h1 (h2.resolve_left hii) h3 h4 h5
      exact ⟨y, h6, h7.mono hk⟩
  · rw [put_tmps, if_neg (fun hh => ht i o ((ls_set hil').2 (.inl rfl)) A.oi hh.1)]
    exact C.old t fun j oj hj hoj => ht j oj ((ls_set hil').2 (.inr hj)) hoj

end
end Hx
