/- How a function is left: results, deferred calls, marks. -/
import Derived.Test.YtbkihikjgoedbaaGreatHxRec
import Derived.RangeFuncLeaves
namespace Hx
open Go

section
variable {G : Gx} {K : Kx}

def resV (tmps : Array Value) (r : ResultVar) : Sem Value :=
  match r with
  | .tmp t => pure (tmps.getD t undef)
  | .cell a t => do loadVar t (← asAddr (tmps.getD a undef))

theorem results_ok {V : Vn} {h : Heap} {ks : List Nat} (hr : HR G K h ks) {vs : List AV} {tmps : Array Value} (hs : Slots G.P K V.vsl vs tmps) : ∀ {rs : List ResultVar} {l : List IRes} {vals : List AV}, compRes G.P V rs = some l → mapO (resultA vs h) l = some vals →
    ∃ xs : List Value, (rs.mapM (resV tmps)).run G.P K.w = .ok xs K.w ∧ VRs G.P K vals xs
  | [], l, vals, hc, hm => by
    cases hc; cases hm
    exact ⟨[], rfl, .nil⟩
  | r :: rs, l, vals, hc, hm => by
    have slot : ∀ {i t : Nat} {v : AV}, idxN t V.vsl = some i → getL vs i = some v → VR G.P K v (tmps.getD t undef) := by
      intro i t v hi hv
      obtain ⟨v', x, h1, h2, h3⟩ := hs.2 i t (idxN_some hi)
      rw [getL_eq, h1] at hv
      cases hv
      rw [Array.getD_eq_getD_getElem?, h2]; exact h3
    cases r with
    | tmp t =>
      simp only [compRes] at hc
      split at hc
      · rename_i i l' hi hl
        cases hc
        have hm' : ob (getL vs i) (fun y => ob (mapO (resultA vs h) l') fun ys => some (y :: ys)) = some vals := hm
        simp only [ob_some, Option.some.injEq] at hm'
        obtain ⟨v, hv, vals', hv2, rfl⟩ := hm'
        obtain ⟨xs, h1, h2⟩ := results_ok hr hs hl hv2
        exact ⟨_ :: xs, by simp [List.mapM_cons, h1, resV], .cons _ _ _ _ (slot hi hv) h2⟩
      · cases hc
    | cell a t =>
      simp only [compRes] at hc
      split at hc
      · rename_i i n g l' hi hn hg hl
        cases hc
        have hm' : ob (ob (getL vs i) fun p => ob (loadN h n p) fun cs => pack g cs) (fun y => ob (mapO (resultA vs h) l') fun ys => some (y :: ys)) = some vals := hm
        simp only [ob_some, Option.some.injEq] at hm'
        obtain ⟨v, ⟨p, hp, cs, hcs, hpk⟩, vals', hv2, rfl⟩ := hm'
        obtain ⟨xs, h1, h2⟩ := results_ok hr hs hl hv2
        have hpv := slot hi hp
        obtain ⟨y, h3, h4⟩ := load_ok hr hn hg hpv hcs hpk
        obtain ⟨b, o, cvs, h5, _⟩ := loadN_ok hr hpv hcs
        rw [h5] at h3
        refine ⟨y :: xs, ?_, .cons _ _ _ _ h4 h2⟩
        simp only [Instr.loadAt, Instr.sureAddr] at h3
        have h5' : (tmps[a]?.getD undef) = .pointer (some ⟨b, o, none⟩) := by rw [← Array.getD_eq_getD_getElem?]; exact h5
        have h3' : (loadVar t ⟨b, o, none⟩).run G.P K.w = .ok y K.w := by simpa using h3
        simp [List.mapM_cons, h1, h5', asAddr, resV, h3']
      · cases hc


theorem results_run {V : Vn} {h : Heap} {ks : List Nat} (hr : HR G K h ks) {vs : List AV} {tmps : Array Value} (hs : Slots G.P K V.vsl vs tmps) {fn : Func} {l : List IRes} {vals : List AV} (hc : compRes G.P V fn.results.toList = some l) (hm : mapO (resultA vs h) l = some vals) :
    ∃ x, (results fn tmps).run G.P K.w = .ok x K.w ∧ VR G.P K (tupV vals) x := by
  obtain ⟨xs, h1, h2⟩ := results_ok hr hs hc hm
  have e : (results fn tmps) = (do let vs ← fn.results.mapM (resV tmps); pure (if h : vs.size = 1 then vs[0] else .tuple vs)) := rfl
  have h3 : (fn.results.mapM (resV tmps)).run G.P K.w = .ok xs.toArray K.w := by
    rw [Array.mapM_eq_mapM_toList]
    simp [h1]
  have hl := h2.length
  refine ⟨if h : xs.toArray.size = 1 then xs.toArray[0] else .tuple xs.toArray, by rw [e]; simp only [Sem.run_bind, h3, Result.andThen_ok, Sem.run_pure], ?_⟩
  unfold tupV
  split
  · cases h2 with
    | cons _ x _ r hv hr' => cases hr'; simpa using hv
  · rename_i hne
    rw [dif_neg]
    · exact .tup _ _ h2
    · intro h1'
      have : vals.length = 1 := by rw [← hl]; simpa using h1'
      match vals, this with
      | [v], _ => exact hne v rfl

/-- a mark is taken: the block of deferred calls is shut -/
theorem shut_le {b : Nat} (hb : K.w.heap[b]? = some (.deferred (some []))) : Klw K (K.on { K.w with heap := K.w.heap.setIfInBounds b (.deferred none) }) := by
  have ne : ∀ c, c ≠ b → (K.w.heap.setIfInBounds b (.deferred none))[c]? = K.w.heap[c]? := fun c hc => Array.getElem?_setIfInBounds_ne (Ne.symm hc)
  refine ⟨fun _ h => h, fun _ _ => rfl, fun _ _ => rfl, fun _ h => .inl h, fun c _ _ => ?_, fun c cs e fr hc => ⟨cs, fr, ?_, rfl⟩, by show _ ≤ (K.w.heap.setIfInBounds b (.deferred none)).size; simp⟩
  · by_cases h : c = b
    · subst h; exact .inr ⟨_, hb⟩
    · exact .inl (ne c h)
  · have : c ≠ b := fun e => by rw [e, hb] at hc; cases hc
    exact (ne c this).trans hc

theorem HR.shut {h : Heap} (hr : HR G K h []) {b : Nat} (hb : K.w.heap[b]? = some (.deferred (some []))) : HR G (K.on { K.w with heap := K.w.heap.setIfInBounds b (.deferred none) }) h [] := by
  have ne : ∀ c, c ≠ b → (K.w.heap.setIfInBounds b (.deferred none))[c]? = K.w.heap[c]? := fun c hc => Array.getElem?_setIfInBounds_ne (Ne.symm hc)
  refine ⟨hr.lt, fun i hi => by show K.bl i < (K.w.heap.setIfInBounds b (.deferred none)).size; have := hr.inh i hi; simpa using this, hr.own, hr.old, fun i x hi hx => ?_, hr.dist, hr.aold, by show _ ≤ (K.w.heap.setIfInBounds b (.deferred none)).size; have := hr.bsz; simpa using this⟩
  have h0 := hr.blk i x hi hx
  have : K.bl i ≠ b := fun e => by
    cases x with
    | row cs e' => obtain ⟨c, _, h1, _⟩ := h0; rw [e, hb] at h1; cases h1
    | mp es n => obtain ⟨c, h1, _⟩ := h0; rw [e, hb] at h1; cases h1
    | loop st pd vs ps bid => obtain ⟨L, I, h1, _⟩ := h0; rw [e, hb] at h1; cases h1
  exact h0.monoW (shut_le hb) hi (ne _ this)

theorem DR.monoW {P : Program} {K K' : Kx} (hk : Klw K K') {x : AV × List AV} {d : Deferred} (h : DR P K x d) : DR P K' x d := by
  cases h with
  | mk f a c as va vc vas h1 h2 h3 => exact .mk f a c as va vc vas (h1.monoW hk) (h2.monoW hk) (h3.monoW hk)
theorem GlOk.monoW {P : Program} {K K' : Kx} {gl : Nat → Option (List AV)} (hk : Klw K K') (h : GlOk P K gl) : GlOk P K' gl := fun g cs hg =>
  let ⟨cvs, h1, h2, h3, h4⟩ := h g cs hg
  ⟨cvs, h1.monoW hk, hk.at h3 h4 h2, hk.nown h3 h4, Nat.lt_of_lt_of_le h4 hk.size⟩

theorem DRs.shut {m : Option Nat} {b : Nat} (hb : K.w.heap[b]? = some (.deferred (some []))) {l : Defs} {r : List Deferred} (h : DRs G.P K m l r) (hd : ∀ d, d ∈ r → d.target ≠ .collected b) :
    DRs G.P (K.on { K.w with heap := K.w.heap.setIfInBounds b (.deferred none) }) m l r := by
  induction h with
  | nil => exact .nil
  | cons x d l r h _ ih => exact .cons x d l r (h.monoW (shut_le hb)) (ih fun d hd' => hd d (List.mem_cons_of_mem _ hd'))
  | mark c l r h1 h2 h3 h4 _ ih =>
    have hne : c ≠ b := fun e => hd _ List.mem_cons_self (by rw [e])
    refine .mark c l r ?_ h2 h3 h4 (ih fun d hd' => hd d (List.mem_cons_of_mem _ hd'))
    show (K.w.heap.setIfInBounds b (.deferred none))[c]? = _
    rw [Array.getElem?_setIfInBounds_ne (Ne.symm hne)]; exact h1

theorem Stp.shut {K0 : Kx} {h0 h : Heap} (st : Stp K0 h0 K h) (hr0 : ∀ i, K0.D i → K0.bl i < K0.w.heap.size) {b : Nat} (hb : K.w.heap[b]? = some (.deferred (some []))) (hge : K0.w.heap.size ≤ b) :
    Stp K0 h0 (K.on { K.w with heap := K.w.heap.setIfInBounds b (.deferred none) }) h := by
  have ne : ∀ c, c ≠ b → (K.w.heap.setIfInBounds b (.deferred none))[c]? = K.w.heap[c]? := fun c hc => Array.getElem?_setIfInBounds_ne (Ne.symm hc)
  refine ⟨⟨⟨st.tn.le.D, st.tn.le.bl, st.tn.le.sh, st.tn.le.own, fun c hc ho => ?_, fun c cs e fr hc => ?_, fun c L hc => ?_, ?_, st.tn.le.fr.trans (FrW.set (b := b) rfl rfl ne (by rw [hb]; show frOf (K.w.heap.setIfInBounds _ _)[b]? = _; simp [(Array.getElem?_eq_some_iff.1 hb).1, frOf]))⟩, fun i hi hl hn => ?_, st.tn.nb⟩, st.ext, st.wf, st.dm⟩
  · exact (ne c (by omega)).trans (st.tn.le.imm c hc ho)
  · obtain ⟨c', fr', h1, h2⟩ := st.tn.le.shp c cs e fr hc
    have := (Array.getElem?_eq_some_iff.1 hc).1
    exact ⟨c', fr', (ne c (by omega)).trans h1, h2⟩
  · obtain ⟨L', h1⟩ := st.tn.le.lps c L hc
    have := (Array.getElem?_eq_some_iff.1 hc).1
    exact ⟨L', (ne c (by omega)).trans h1⟩
  · show _ ≤ (K.w.heap.setIfInBounds b (.deferred none)).size
    have := st.tn.le.size; simpa using this
  · have := hr0 i hi
    exact (ne _ (by omega)).trans (st.tn.unt i hi hl hn)

theorem run_takeDeferred {P : Program} {w : World} {b : Nat} (hb : w.heap[b]? = some (.deferred (some []))) : (Instr.takeDeferred b).run P w = .ok [] { w with heap := w.heap.setIfInBounds b (.deferred none) } := by
  simp [Instr.takeDeferred, getObj, setObj, Sem.run, hb]

end
end Hx
