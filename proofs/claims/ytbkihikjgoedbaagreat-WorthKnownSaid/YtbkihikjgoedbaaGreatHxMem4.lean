/- Ending the use of blocks; append. -/
import Derived.Test.YtbkihikjgoedbaaGreatHxMem3
namespace Hx
open Go

theorem HR.more {G : Gx} {K : Kx} {h : Heap} {ks ks' : List Nat} (hr : HR G K h ks) (hk : ∀ i, i ∈ ks → i ∈ ks') : HR G K h ks' :=
  ⟨hr.lt, hr.inh, hr.own, hr.old, hr.blk, fun x y hx hy hsx hsy hne he => (hr.dist x y hx hy hsx hsy hne he).imp (fun h => ⟨hk _ h.1, h.2⟩) (fun h => ⟨hk _ h.1, h.2⟩), hr.aold, hr.bsz⟩

theorem Heap.get_kills (ks : List Nat) (h : Heap) (i : Nat) : (h.kills ks).get i = if i ∈ ks then none else h.get i := by
  induction ks generalizing h with
  | nil => simp [Heap.kills]
  | cons b ks ih =>
    show (Heap.kills ks (h.kill b)).get i = _
    rw [ih]
    unfold Heap.kill
    rw [Heap.get_alter]
    by_cases h1 : i ∈ ks
    · simp [h1]
    · by_cases h2 : i = b <;> simp [h1, h2]
theorem Heap.next_kills (ks : List Nat) (h : Heap) : (h.kills ks).next = h.next := by
  induction ks generalizing h with
  | nil => rfl
  | cons b ks ih =>
    show (Heap.kills ks (h.kill b)).next = _
    rw [ih]; exact Heap.next_alter _ _ _
theorem Heap.low_kills (ks : List Nat) (h : Heap) : (h.kills ks).low ≤ h.low ∧ ∀ i ∈ ks, (h.kills ks).low ≤ i := by
  induction ks generalizing h with
  | nil => exact ⟨Nat.le_refl _, by simp⟩
  | cons b ks ih =>
    obtain ⟨h1, h2⟩ := ih (h.kill b)
    have h3 : (h.kill b).low = min b h.low := Heap.low_alter _ _ _
    show (Heap.kills ks (h.kill b)).low ≤ _ ∧ ∀ i ∈ b :: ks, (Heap.kills ks (h.kill b)).low ≤ i
    refine ⟨by omega, fun i hi => ?_⟩
    rcases List.mem_cons.1 hi with rfl | hi
    · omega
    · exact h2 i hi

/-- the state after blocks' use has ended -/
def Kx.end_ (G : Gx) (K : Kx) (h : Heap) : Kx := { K with O := fun c => G.A c ∨ ∃ b, K.D b ∧ (h.get b).isSome = true ∧ K.bl b = c }

theorem HR.kills {G : Gx} {K : Kx} {h : Heap} {ks : List Nat} (hr : HR G K h ks) : HR G (K.end_ G (h.kills ks)) (h.kills ks) [] ∧ Tn (fun _ => False) h K (K.end_ G (h.kills ks)) := by
  have lv : ∀ i, ((h.kills ks).get i).isSome = true → i ∉ ks ∧ (h.kills ks).get i = h.get i := fun i hi => by
    rw [Heap.get_kills] at hi ⊢
    split at hi
    · cases hi
    · rename_i hn; exact ⟨hn, by rw [if_neg hn]⟩
  have hle : Kle K (K.end_ G (h.kills ks)) := by
    refine ⟨fun _ h => h, fun _ _ => rfl, fun _ _ => rfl, fun c hc => .inl ?_, fun _ _ _ => rfl, fun _ c _ fr h => ⟨c, fr, h, rfl⟩, fun _ L h => ⟨L, h⟩, Nat.le_refl _, FrW.refl _⟩
    rw [hr.own]
    rcases hc with h1 | ⟨i, h1, h2, h3⟩
    · exact .inl h1
    · exact .inr ⟨i, h1, by rw [← (lv i h2).2]; exact h2, h3⟩
  refine ⟨⟨fun b hb => by rw [Heap.next_kills]; exact hr.lt b hb, hr.inh, fun c => Iff.rfl, fun b hb hs => hr.old b hb (by rw [← (lv b hs).2]; exact hs), fun b x hb hx => ?_, fun x y hx hy hsx hsy hne he => ?_, hr.aold, hr.bsz⟩,
    ⟨hle, fun _ _ _ _ => rfl, fun b hb hn => absurd hb hn⟩⟩
  · have := (lv b (by rw [hx]; rfl)).2
    rw [this] at hx
    exact (hr.blk b x hb hx).mono hle hb rfl
  · obtain ⟨x1, x2⟩ := lv x hsx
    obtain ⟨y1, y2⟩ := lv y hsy
    rcases hr.dist x y hx hy (by rw [← x2]; exact hsx) (by rw [← y2]; exact hsy) hne he with ⟨h1, _⟩ | ⟨h1, _⟩
    · exact absurd h1 x1
    · exact absurd h1 y1

/-- one more name for a part of a block -/
def Kx.share (K : Kx) (n b o : Nat) (w' : World) : Kx where
  D := fun i => K.D i ∨ i = n
  bl := fun i => if i = n then K.bl b else K.bl i
  sh := fun i => if i = n then K.sh b + o else K.sh i
  O := K.O
  w := w'

theorem HR.share {G : Gx} {K : Kx} {H : Heap} {ks : List Nat} (hr : HR G K H ks) {b n o : Nat} {old new : List AV} {e : TypeId} {c : Array Value} {xs : List Value} {w' : World} (hd : K.D b) (hgb : H.get b = some (.row old e)) (hn : ¬ K.D n) (hln : n < H.next)
    (hgn : H.get n = some (.row (old.drop o ++ new) e)) (ho : o ≤ old.length) (hbk : b ∉ ks) (hc : K.w.heap[K.bl b]? = some (.cells c e (0, 0))) (hnew : VRs G.P K new xs) (hfit : K.sh b + old.length + new.length ≤ c.size)
    (hw : w' = K.w.setRow (K.bl b) (c.toList.take (K.sh b + old.length) ++ xs ++ c.toList.drop (K.sh b + old.length + xs.length)).toArray) :
    HR G (K.share n b o w') H (b :: ks) ∧ Tn (fun i => i ∈ b :: ks) H K (K.share n b o w') := by
  have ne : ∀ i, K.D i → i ≠ n := fun i hi e => hn (e ▸ hi)
  have bl : ∀ i, K.D i → (K.share n b o w').bl i = K.bl i := fun i hi => if_neg (ne i hi)
  have sh : ∀ i, K.D i → (K.share n b o w').sh i = K.sh i := fun i hi => if_neg (ne i hi)
  have bln : (K.share n b o w').bl n = K.bl b := if_pos rfl
  have shn : (K.share n b o w').sh n = K.sh b + o := if_pos rfl
  have fi : ∀ i, K.D i → fin (K.share n b o w') H i = fin K H i := fun i hi => by unfold fin; rw [sh i hi]
  have hO : K.O (K.bl b) := (hr.own _).2 (.inr ⟨b, hd, by rw [hgb]; rfl, rfl⟩)
  have hxl := hnew.length
  have hcz : c.toList.length = c.size := by simp
  let c' := (c.toList.take (K.sh b + old.length) ++ xs ++ c.toList.drop (K.sh b + old.length + xs.length)).toArray
  have hc'z : c'.size = c.size := by
    show (List.toArray _).size = _
    simp only [List.size_toArray, List.length_append, List.length_take, List.length_drop, hcz]; omega
  have hcb : w'.heap[K.bl b]? = some (.cells c' e (0, 0)) := by rw [hw]; exact setRow_heap _ _ _ _ _ _ hc
  have hco : ∀ k, k ≠ K.bl b → w'.heap[k]? = K.w.heap[k]? := fun k hk => by rw [hw]; exact setRow_other _ _ _ _ hk
  have hsz : w'.heap.size = K.w.heap.size := by rw [hw]; simp [World.setRow]
  have lowc : ∀ i, i < K.sh b + old.length → c'[i]? = c[i]? := fun i hi => by
    show (List.toArray _)[i]? = _
    rw [List.getElem?_toArray, List.append_assoc, List.getElem?_append, if_pos (by rw [List.length_take, hcz]; omega), List.getElem?_take, if_pos hi]
    simp
  have midc : ∀ i, i < xs.length → c'[K.sh b + old.length + i]? = xs[i]? := fun i hi => by
    show (List.toArray _)[_]? = _
    rw [List.getElem?_toArray, List.getElem?_append, if_pos (by rw [List.length_append, List.length_take, hcz]; omega), List.getElem?_append, if_neg (by rw [List.length_take, hcz]; omega), List.length_take, hcz]
    congr 1; omega
  have hle : Kle K (K.share n b o w') := by
    refine ⟨fun _ h => .inl h, bl, sh, fun _ h => .inl h, fun k _ ho' => hco k fun e => ho' (e ▸ hO), fun k ck ek fr hck => ?_, fun k L hck => ?_, Nat.le_of_eq hsz.symm, FrW.set (b := K.bl b) (by rw [hw]; rfl) (by rw [hw]; rfl) hco (by show frOf w'.heap[K.bl b]? = _; rw [hcb, hc]; rfl)⟩
    · by_cases hk : k = K.bl b
      · subst hk
        rw [hc] at hck; cases hck
        exact ⟨c', _, hcb, hc'z⟩
      · exact ⟨ck, fr, (hco k hk).trans hck, rfl⟩
    · by_cases hk : k = K.bl b
      · subst hk
        rw [hc] at hck; cases hck
      · exact ⟨L, (hco k hk).trans hck⟩
  have finb : fin K H b = K.sh b + old.length := by unfold fin; rw [hgb]
  have finn : fin (K.share n b o w') H n = K.sh b + o + (old.length - o + new.length) := by unfold fin; rw [hgn, shn]; simp
  have near : ∀ i, K.D i → (H.get i).isSome = true → K.bl i = K.bl b → (i = b ∨ i ∈ ks) ∧ fin K H i ≤ K.sh b + old.length := fun i hi hs he => by
    by_cases hib : i = b
    · subst hib; exact ⟨.inl rfl, by rw [finb]; exact Nat.le_refl _⟩
    · rcases hr.dist i b hi hd hs (by rw [hgb]; rfl) hib he with ⟨h1, h2⟩ | ⟨h1, _⟩
      · exact ⟨.inr h1, by rw [finb] at h2; exact h2⟩
      · exact absurd h1 hbk
  refine ⟨⟨fun i hi => ?_, fun i hi => ?_, fun k => ?_, fun i hi hs => ?_, fun i y hi hy => ?_, fun p q hp hq hsp hsq hne he => ?_, hr.aold, ?_⟩, ⟨hle, fun i hi hs hni => ?_, fun i hi hni => ?_⟩⟩
  · rcases hi with h1 | h1
    · exact hr.lt i h1
    · omega
  · show _ < w'.heap.size
    rw [hsz]
    rcases hi with h1 | h1
    · rw [bl i h1]; exact hr.inh i h1
    · rw [h1, bln]; exact hr.inh b hd
  · show K.O k ↔ _
    rw [hr.own]
    constructor
    · rintro (h1 | ⟨i, h1, h2, h3⟩)
      · exact .inl h1
      · exact .inr ⟨i, .inl h1, h2, by rw [bl i h1]; exact h3⟩
    · rintro (h1 | ⟨i, h1 | h1, h2, h3⟩)
      · exact .inl h1
      · exact .inr ⟨i, h1, h2, by rw [bl i h1] at h3; exact h3⟩
      · subst h1; rw [bln] at h3; exact .inr ⟨b, hd, by rw [hgb]; rfl, h3⟩
  · rcases hi with h1 | h1
    · rw [bl i h1]; exact hr.old i h1 hs
    · rw [h1, bln]; exact hr.old b hd (by rw [hgb]; rfl)
  · rcases hi with h1 | h1
    · by_cases hk : K.bl i = K.bl b
      · have hb := hr.blk i y h1 hy
        obtain ⟨_, hf⟩ := near i h1 (by rw [hy]; rfl) hk
        cases y with
        | row cs ei =>
          obtain ⟨ci, cvs, g1, g2, g3, g4⟩ := hb
          rw [hk, hc] at g1; cases g1
          have hfi : fin K H i = K.sh i + cs.length := by unfold fin; rw [hy]
          refine ⟨c', cvs, by rw [bl i h1, hk]; exact hcb, g2.mono hle, fun j v hj => ?_, by rw [sh i h1, hc'z]; exact g4⟩
          rw [sh i h1, lowc]
          · exact g3 j v hj
          · have := g2.length
            have := (List.getElem?_eq_some_iff.1 hj).1
            omega
        | mp es m => obtain ⟨ces, g1, _⟩ := hb; rw [hk, hc] at g1; cases g1
        | loop st pd vs ps bid => obtain ⟨L, I, g1, _⟩ := hb; rw [hk, hc] at g1; cases g1
      · exact (hr.blk i y h1 hy).mono hle h1 (hco _ hk)
    · subst h1
      rw [hgn] at hy; cases hy
      obtain ⟨cb, cvs, g1, g2, g3, g4⟩ := hr.blk b _ hd hgb
      rw [hc] at g1; cases g1
      have hcvl := g2.length
      refine ⟨c', cvs.drop o ++ xs, by rw [bln]; exact hcb, ((g2.drop o).append hnew).mono hle, fun j v hj => ?_, ?_⟩
      · rw [shn]
        rw [List.getElem?_append] at hj
        split at hj
        · rename_i hjl
          simp only [List.length_drop] at hjl
          rw [List.getElem?_drop] at hj
          rw [lowc _ (by omega), Nat.add_assoc]
          exact g3 _ v hj
        · rename_i hjl
          simp only [List.length_drop] at hjl hj
          have hx1 := (List.getElem?_eq_some_iff.1 hj).1
          rw [show K.sh b + o + j = K.sh b + old.length + (j - (cvs.length - o)) by omega, midc _ hx1]
          exact hj
      · rw [shn, hc'z]; simp only [List.length_append, List.length_drop]; omega
  · rcases hp with h1 | h1 <;> rcases hq with h2 | h2
    · rw [bl p h1, bl q h2] at he
      rw [fi p h1, fi q h2]
      exact (hr.dist p q h1 h2 hsp hsq hne he).imp (fun h => ⟨List.mem_cons_of_mem _ h.1, h.2⟩) (fun h => ⟨List.mem_cons_of_mem _ h.1, h.2⟩)
    · subst h2
      rw [bl p h1, bln] at he
      obtain ⟨g1, g2⟩ := near p h1 hsp he
      exact .inl ⟨by rcases g1 with rfl | g1 <;> simp [*], by rw [finn, fi p h1]; omega⟩
    · subst h1
      rw [bl q h2, bln] at he
      obtain ⟨g1, g2⟩ := near q h2 hsq he.symm
      exact .inr ⟨by rcases g1 with rfl | g1 <;> simp [*], by rw [finn, fi q h2]; omega⟩
    · exact absurd (h1.trans h2.symm) hne
  · show _ ≤ w'.heap.size; rw [hsz]; exact hr.bsz
  · refine hco _ fun he => hni ?_
    rcases (near i hi hs he).1 with rfl | h1
    · simp
    · simp [h1]
  · rcases hi with h1 | h1
    · exact absurd h1 hni
    · subst h1; exact .inr ⟨b, hd, by rw [hgb]; rfl, by simp, bln⟩

end Hx
