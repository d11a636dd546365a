/- Regions that draw their order: the region. -/
import Derived.Test.YtbkihikjgoedbaaGreatHxPre7
namespace Hx
open Go

theorem count_set : ∀ (l : List Nat) (p q : Nat → Bool) (i : Nat), l.Nodup → i ∈ l → p i = true → q i = false → (∀ j, j ≠ i → q j = p j) → l.countP q + 1 = l.countP p
  | [], p, q, i, _, h, _, _, _ => by cases h
  | x :: l, p, q, i, hn, h, hp, hq, he => by
    obtain ⟨hx, hn⟩ := List.nodup_cons.1 hn
    rw [List.countP_cons, List.countP_cons]
    by_cases hxi : x = i
    · subst hxi
      have hsame : l.countP q = l.countP p := List.countP_congr fun j hj => by rw [he j (fun e => hx (e ▸ hj))]
      rw [hp, hq, hsame]; rfl
    · have hm : i ∈ l := (List.mem_cons.1 h).resolve_left (fun e => hxi e.symm)
      have := count_set l p q i hn hm hp hq he
      rw [he x hxi]; omega

theorem HR.sameHeap {G : Gx} {K : Kx} {h : Heap} (hr : HR G K h []) {w' : World} (ho : w'.os = K.w.os) (hout : w'.output = K.w.output) (hw : w'.heap = K.w.heap) : HR G (K.on w') h [] ∧ Stp K h (K.on w') h := by
  have hle : Kle K (K.on w') := ⟨fun _ h => h, fun _ _ => rfl, fun _ _ => rfl, fun _ h => .inl h, fun c _ _ => by show w'.heap[c]? = _; rw [hw], fun b c e fr hc => ⟨c, fr, by show w'.heap[b]? = _; rw [hw]; exact hc, rfl⟩, fun b L hL => ⟨L, by show w'.heap[b]? = _; rw [hw]; exact hL⟩, by show _ ≤ w'.heap.size; rw [hw]; exact Nat.le_refl _, ho, hout, fun c => by show frOf w'.heap[c]? = _; rw [hw]⟩
  have same : ∀ c : Nat, (K.on w').w.heap[c]? = K.w.heap[c]? := fun c => by show w'.heap[c]? = _; rw [hw]
  exact ⟨⟨hr.lt, fun b hb => by show _ < w'.heap.size; rw [hw]; exact hr.inh b hb, hr.own, hr.old, fun b x hb hx => (hr.blk b x hb hx).mono hle hb (same _), hr.dist, hr.aold, by show _ ≤ w'.heap.size; rw [hw]; exact hr.bsz⟩,
    ⟨hle, fun b _ _ _ => same _, fun b hb hn => absurd hb hn⟩, HExt.refl _, fun h => h, fun _ h => .inl h⟩

section
variable {G : Gx} {V : Vn} {cf : CallFn} {ops : Array Oper} {b perm : List Nat} {k : Nat} {l : List Oper} {its : List IT} {T : List PS} {vs0 : List AV} {h0 : Heap} {ds : Defs} {fin : St} {m : Option Nat} {K0 : Kx} {a0 : Act} {F : Fence} {n : Nat} {Q : Exit → Act → World → Prop}

theorem reg_end (R : Rgn G V cf ops b perm k l its T vs0 h0 ds fin m K0 a0) {listed : Array Bool} {a : Act} {K : Kx} (C : Com G ops b perm T K0 a0 listed a K) (Z : Phz G V ops perm k l its T vs0 h0 K0 listed K) (hall : ∀ i, i < ops.size → Ls listed i) :
    ∃ K1 : Kx, K1.w = K.w ∧ Stp K0 h0 K1 fin.h ∧ SR G V m K1 a fin.vs fin.h fin.ds := by
  have hl := R.lens
  have hmem : ∀ (p i : Nat), perm[p]? = some i → Ls listed i := fun p i hp => by
    obtain ⟨o, it, s, A⟩ := R.at hp
    exact hall i (Array.getElem?_eq_some_iff.1 A.oi).1
  have hB : ∃ K1 : Kx, K1.w = K.w ∧ Kle K K1 ∧ ∃ q, PhB G V ops perm k l its T vs0 h0 K0 listed K1 q := by
    rcases Z with ⟨mm, ksl, Z⟩ | ⟨q, Z⟩
    · obtain ⟨K1, h1, h2, h3⟩ := ph_toB R Z fun p i _ hi _ => .inl (hmem p i hi)
      exact ⟨K1, h1, h2, k, h3⟩
    · exact ⟨K, rfl, Kle.refl K, q, Z⟩
  obtain ⟨K1, h1, h2, q, Z1⟩ := hB
  have hfin := R.trg.2.2.1
  have etl : fin.h = tlAt k T [] h0 q := by
    rw [hfin]
    show tlAt k T [] h0 its.length = _
    rw [hl.2.2.1]
    exact tl_same R Z1.kq ops.size Z1.qn (Nat.le_refl _) fun p i hp _ hi => .inl (Z1.front p i hp hi (hmem p i hi))
  have hvs : fin.vs = vsAt its T vs0 its.length := by rw [hfin]
  have hds : fin.ds = ds := by rw [hfin]
  refine ⟨K1, h1, by rw [etl]; exact Z1.st, ⟨⟨by rw [hvs, vsAt_length]; exact R.hs.slots.1, fun i t hit => ?_⟩, by rw [C.size]; exact R.hs.nt, by rw [etl]; exact Z1.hr, by rw [etl]; exact Z1.st.wf R.hs.wf, by rw [hds, C.dfr]; exact R.hs.dfr.mono Z1.st.tn.le, R.hs.gl.mono Z1.st.tn.le⟩⟩
  have hidx : idxN t V.vsl = some i := by
    cases hx : idxN t V.vsl with
    | none => exact absurd (List.mem_of_getElem? hit) (idxN_none hx)
    | some j =>
      have hj := idxN_some hx
      obtain ⟨q1, e1⟩ := List.getElem?_eq_some_iff.1 hit
      obtain ⟨q2, e2⟩ := List.getElem?_eq_some_iff.1 hj
      have hpw := List.pairwise_iff_getElem.1 R.hv
      rcases Nat.lt_trichotomy i j with h | h | h
      · exact absurd (e1.trans e2.symm) (hpw i j q1 q2 h)
      · rw [h]
      · exact absurd (e2.trans e1.symm) (hpw j i q2 q1 h)
  have wrt : ∀ {o : Oper} {it : IT}, it.wr = o.dst.bind (idxN · V.vsl) → it.wr = some i → o.dst = some t := by
    intro o it h3 h4
    rw [h3] at h4
    cases hd : o.dst with
    | none => rw [hd] at h4; cases h4
    | some t' =>
      rw [hd] at h4
      have := idxN_some (show idxN t' V.vsl = some i from h4)
      rw [hit] at this; cases this; rfl
  obtain ⟨v0, x0, s1, s2, s3⟩ := R.hs.slots.2 i t hit
  have hil : i < vs0.length := (List.getElem?_eq_some_iff.1 s1).1
  by_cases hw : ∃ (p j : Nat) (o : Oper), perm[p]? = some j ∧ ops[j]? = some o ∧ o.dst = some t
  · obtain ⟨p, j, o, hp, ho, hd⟩ := hw
    obtain ⟨o', it, s, A⟩ := R.at hp
    have e := A.oi; rw [ho] at e; cases e
    obtain ⟨x, h3, h4⟩ := C.vals p j s o t hp (hmem p j hp) A.tp ho hd
    refine ⟨s.v, x, ?_, h3, h4.mono h2⟩
    rw [hvs]
    refine vsAt_new A.ip A.tp (by rw [A.wr, hd]; exact hidx) (by have := (List.getElem?_eq_some_iff.1 A.ip).1; exact this) hil fun q' it' hne hit' hwr => ?_
    have hq'l := (List.getElem?_eq_some_iff.1 hit').1
    obtain ⟨j', hj'⟩ : ∃ j', perm[q']? = some j' := ⟨perm[q']'(by omega), List.getElem?_eq_getElem _⟩
    obtain ⟨o', it'', s', A'⟩ := R.at hj'
    have e := A'.ip; rw [hit'] at e; cases e
    have hd' := wrt A'.wr hwr
    have : j' = j := R.ok.dst j' j o' o t (by rw [Array.getElem?_toList]; exact A'.oi) (by rw [Array.getElem?_toList]; exact ho) hd' hd
    subst this
    exact hne (perm_inj R hj' hp)
  · refine ⟨v0, x0, ?_, ?_, s3.mono Z1.st.tn.le⟩
    · rw [hvs, vsAt_old fun q' it' _ hit' hwr => ?_, s1]
      have hq'l := (List.getElem?_eq_some_iff.1 hit').1
      obtain ⟨j', hj'⟩ : ∃ j', perm[q']? = some j' := ⟨perm[q']'(by omega), List.getElem?_eq_getElem _⟩
      obtain ⟨o', it'', s', A'⟩ := R.at hj'
      have e := A'.ip; rw [hit'] at e; cases e
      exact hw ⟨q', j', o', hj', A'.oi, wrt A'.wr hwr⟩
    · rw [C.old t fun j o hj ho hd => ?_, s2]
      obtain ⟨p, hp⟩ := perm_pos R (Array.getElem?_eq_some_iff.1 ho).1
      exact hw ⟨p, j, o, hp, ho, hd⟩

theorem any_ok (R : Rgn G V cf ops b perm k l its T vs0 h0 ds fin m K0 a0) (hF : plainF F) (hQ : ∀ a' K', Stp K0 h0 K' fin.h → SR G V m K' a' fin.vs fin.h fin.ds → Q .normal a' K'.w) : ∀ (fuel : Nat) (listed : Array Bool) (a : Act) (K : Kx),
    Com G ops b perm T K0 a0 listed a K → Phz G V ops perm k l its T vs0 h0 K0 listed K → (List.range ops.size).countP (fun i => !listed.getD i false) = fuel → wpAnyIn F n G.P .any ops Q fuel listed a K.w := by
  have fin' : ∀ {listed : Array Bool} {a : Act} {K : Kx}, Com G ops b perm T K0 a0 listed a K → Phz G V ops perm k l its T vs0 h0 K0 listed K → (∀ i, i < ops.size → Ls listed i) → Q .normal a K.w := by
    intro listed a K C Z hall
    obtain ⟨K1, h1, h2, h3⟩ := reg_end R C Z hall
    rw [← h1]
    exact hQ a K1 h2 h3
  intro fuel
  induction fuel with
  | zero =>
    intro listed a K C Z hc
    rw [List.countP_eq_zero] at hc
    have hall : ∀ i, i < ops.size → Ls listed i := fun i hi => by
      have := hc i (List.mem_range.2 hi)
      unfold Ls
      simpa using this
    refine ⟨?_, fin' C Z hall⟩
    rw [List.eq_nil_iff_forall_not_mem]
    intro i hi
    obtain ⟨h1, h2, _⟩ := ready_spec R C hi
    exact h2 (hall i h1)
  | succ fuel ih =>
    intro listed a K C Z hc
    refine ⟨fun hr => fin' C Z (ready_ne R C hr), fun i hi => ?_⟩
    obtain ⟨h1, h2, _⟩ := ready_spec R C hi
    refine op_step R hF C Z hi fun a' K' C' Z' => ih _ a' K' C' Z' ?_
    have := count_set (List.range ops.size) (fun j => !listed.getD j false) (fun j => !(listed.setIfInBounds i true).getD j false) i List.nodup_range (List.mem_range.2 h1) (by unfold Ls at h2; simpa using h2)
      (by have h3 : Ls (listed.setIfInBounds i true) i := (ls_set (by rw [C.lsz]; exact h1)).2 (.inl rfl)
          unfold Ls at h3; simp only [h3]; rfl)
      (fun j hj => by
        have h3 := ls_set (listed := listed) (i := i) (j := j) (by rw [C.lsz]; exact h1)
        unfold Ls at h3
        have h4 : ((listed.setIfInBounds i true).getD j false) = listed.getD j false := by
          rw [Bool.eq_iff_iff, h3]
          exact ⟨fun h => h.resolve_left hj, .inr⟩
        rw [h4])
    omega

end

section
variable {G : Gx} {V : Vn} {cf : CallFn} {L : Nat}

theorem pre_ok (hmix : G.P.follows .mixedOrders = true) (hcf : CallOk G V.gl cf) (hv : V.vsl.Nodup) : PreOk G V cf L := by
  intro m F id ops x hF hc n ex s' K a s Q he hs hcx hp
  unfold compPre at hc
  simp only at hc
  split at hc
  · rename_i l hl
    split at hc
    · rename_i its0 hits
      split at hc
      rotate_left
      · cases hc
      rename_i its cs hadd hck
      split at hc
      · rename_i hpre
        cases hc
        have hok := preOk_get hpre hl
        have hnd : ∀ it ∈ its, ∀ f args, it.op ≠ .dfr f args := by
          intro it hit f args hop
          obtain ⟨p, hp⟩ := List.getElem?_of_mem hit
          obtain ⟨h1, h2⟩ := compIts_get hits
          obtain ⟨q1, q2⟩ := addChk_get hadd
          have hpl := (List.getElem?_eq_some_iff.1 hp).1
          obtain ⟨it', h3, h4, h5, h6, h7, h8⟩ := h2 p (l[p]'(by omega)) (List.getElem?_eq_getElem _)
          obtain ⟨it2, q3, q4, _⟩ := q2 p it' h3
          rw [hp] at q3; cases q3
          rw [← q4, hop] at h4
          have h4 := (compOpB_some h4).resolve_right (fun e => by cases e)
          rcases comp_none h4 with ⟨f, hf⟩ | ⟨f, hf⟩ | ⟨f, args, c, x, hf, _⟩ | ⟨f, args, c, x, _, ho, _⟩ | ⟨f, x, hf, _⟩ | ⟨hf, _⟩
          · cases hf
          · cases hf
          · cases hf
          · rw [ho] at h8; cases h8
          · cases hf
          · cases hf
        obtain ⟨rfl, T, tr⟩ := evPre_tr hnd (show evPre cf cs _ its [] [] s.vs s.h s.ds = some (ex, s') from he)
        obtain ⟨hr0, st0⟩ := hs.hr.sameHeap (w' := { K.w with drawn := K.w.drawn + 1 }) rfl rfl rfl
        have hs0 : SR G V m (K.on { K.w with drawn := K.w.drawn + 1 }) a s.vs s.h s.ds := hs.mono st0 hr0
        have R : Rgn G V cf ops (befGo ops.toList []) _ _ l its T s.vs s.h s.ds s' m (K.on { K.w with drawn := K.w.drawn + 1 }) a := ⟨hok, hl, ⟨its0, hits, hadd⟩, ⟨cs, by unfold dsAt; rw [List.append_nil]; exact hck, tr⟩, hs0, hv, hcf⟩
        refine wpIn_region_any hmix ?_
        refine any_ok R hF (fun a' K' st hs' => hp .normal a' K' (st0.trans hs.hr st) hs' trivial) ops.size _ a (K.on { K.w with drawn := K.w.drawn + 1 }) ?_ (ph_start R) ?_
        · have hno : ∀ i, ¬ Ls (Array.replicate ops.size false) i := fun i hi => by
            unfold Ls at hi
            rw [Array.getD_eq_getD_getElem?, Array.getElem?_replicate] at hi
            split at hi <;> cases hi
          exact ⟨by simp, fun i hi => absurd hi (hno i), fun p i s o t _ hi => absurd hi (hno i), fun t _ => rfl, rfl, rfl, Kle.refl _⟩
        · rw [List.countP_eq_length.2, List.length_range]
          intro i hi
          rw [Array.getD_eq_getD_getElem?, Array.getElem?_replicate]
          split <;> rfl
      · cases hc
    · cases hc
  · cases hc

/-- THE MACHINE IS SOUND. -/
theorem ev_sound {G : Gx} {gl : Nat → Option (List AV)} {C : Ctx} {L : Nat} (hmix : G.P.follows .mixedOrders = true) (hC : CtxOk G gl C) (d : Nat) : CallOk G gl (ev C L d) :=
  ev_ok hC (fun cf hcf V hV hv => pre_ok hmix (by rw [hV]; exact hcf) hv) d

end
end Hx
