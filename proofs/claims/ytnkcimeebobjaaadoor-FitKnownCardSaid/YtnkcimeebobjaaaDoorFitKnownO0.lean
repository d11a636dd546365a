/- The walk and the plain laws (part 0). -/
import Derived.Test.YtnkcimeebobjaaaDoorFitKnownE
import Derived.Sort.AssemblyPlain
namespace Go.Proofs.YtnkcimeebobjaaaDoor.fitKnown
open Hx Go
set_option maxRecDepth 100000
attribute [local irreducible] cSeq cOps cPre cCnd cBlk cLoop cScope cExit cRet cNop cRng Heap.ent Heap.setLow
section
variable {F : Nat → Nat → CallFn} (hF : IsEv KC Kt F)
include hF
open Go.Sort
theorem ins_ok {h : Heap} {b : Nat} {d : Array Int} {a bn : Nat} {g : AV} {lt : Int → Int → Bool} {D : Int → Prop} (ho : Own .i64 h 3 b d.toList) (hc : CmpOk F g h b lt D) (hd : ∀ i : Nat, i < d.size → D d[i]!) (hab : a ≤ bn) (hb : bn ≤ d.size) (hz : d.size < 2 ^ 62) :
    WV F (.fn (.func 103) [] []) [.msl 3 b 0 d.size, .int .i64 a, .int .i64 bn, g] h (fun r h' => r = .val (.tup []) ∧ Upd h h' b ∧ Own .i64 h' 3 b (insertionSort lt d a bn).toList) := by
  refine Kent103 hF ?_
  refine W_seq ?_
  (refine W_opsM ?_; simp (disch := omega) only [wrap_i64, go_sem, wrap_i64])
  refine W_blk ?_
  refine W_loop (fun k s => ∃ (i : Nat) (d1 : Array Int) (h1 : Heap) (j1 j2 j3 : AV), k = bn - i ∧ a < i ∧ (i ≤ bn ∨ i = a + 1) ∧ d1.size = d.size ∧ (∀ i : Nat, i < d.size → D d1[i]!) ∧ Own .i64 h1 3 b d1.toList ∧ Upd h.ent h1 b ∧
    insOuter lt a bn i d1 = insertionSort lt d a bn ∧ s = ⟨[.msl 3 b 0 d.size, .int .i64 (a : Int), .int .i64 (bn : Int), g, .int .i64 (i : Int), j1, j2, j3], h1, []⟩) ?_ (k := bn - (a + 1)) ⟨a + 1, d, _, _, _, _, rfl, by omega, by omega, rfl, hd, ho.ext (Ext.ent h), Upd.refl _ b, rfl, rfl⟩
  rintro k s ⟨i, d1, h1, j1, j2, j3, rfl, hai, hib, hs1, hd1, ho1, hu1, he1, rfl⟩
  refine W_seq ?_
  refine W_seq ?_
  (refine W_opsM ?_; simp only [go_sem])
  refine W_cndP rfl (fun hc1 => ?_) (fun hc1 => ?_)
  · refine W_nop ?_
    simp only [go_sem]
    refine W_seq ?_
    refine W_blk ?_
    refine W_seq ?_
    (refine W_opsM ?_; simp only [go_sem])
    refine W_blk ?_
    refine W_loop (fun k s => ∃ (j : Nat) (d2 : Array Int) (h2 : Heap) (j1 j3 : AV), k = j ∧ a ≤ j ∧ j ≤ i ∧ d2.size = d.size ∧ (∀ i : Nat, i < d.size → D d2[i]!) ∧ Own .i64 h2 3 b d2.toList ∧ Upd h.ent h2 b ∧
      insInner lt a j d2 = insInner lt a i d1 ∧ s = ⟨[.msl 3 b 0 d.size, .int .i64 (a : Int), .int .i64 (bn : Int), g, .int .i64 (i : Int), j1, .int .i64 (j : Int), j3], h2, []⟩) ?_ (k := i) ⟨i, d1, _, _, _, rfl, by omega, by omega, hs1, hd1, ho1, hu1, rfl, rfl⟩
    rintro k s ⟨j, d2, h2, j1, j3, rfl, haj, hji, hs2, hd2, ho2, hu2, he2, rfl⟩
    refine W_seq ?_
    refine W_seq ?_
    generalize hQ : seqQ F Ko103_17 _ = Q
    have hk : ∀ t : Bool, t = (decide (a < k) && lt d2[k]! d2[k - 1]!) → Q .normal ⟨[.msl 3 b 0 d.size, .int .i64 (a : Int), .int .i64 (bn : Int), g, .int .i64 (i : Int), j1, .int .i64 (k : Int), .bool t], h2, []⟩ := by
      intro t ht
      subst hQ
      simp only [go_sem]
      refine W_cnd (t := t) rfl (fun hb => ?_) (fun hb => ?_)
      · (refine W_nop ?_; simp only [go_sem])
        rw [hb] at ht
        simp only [Bool.true_eq, Bool.and_eq_true, decide_eq_true_eq] at ht
        obtain ⟨hak, hlt⟩ := ht
        refine W_seq ?_
        refine W_blk ?_
        have e1 : (k : Int) - 1 = ((k - 1 : Nat) : Int) := by omega
        have hk1 : k < d2.size := by omega
        have hk2 : k - 1 < d2.size := by omega
        have hk1' : k < d.size := by omega
        have hk2' : k - 1 < d.size := by omega
        (refine W_pre ?_; simp (disch := omega) only [wrap_i64, go_sem, ixs_msl hk1', ixs_msl hk2', e1, ho2.loadA hk1, ho2.loadA hk2, ho2.storeA hk1])
        have ho3 : Own .i64 (h2.put b (.row ((d2.setIfInBounds k d2[k - 1]!).toList.map (.int .i64 ·)) 3)) 3 b (d2.setIfInBounds k d2[k - 1]!).toList := ho2.put _
        simp (disch := omega) only [go_sem, ho3.storeA (show k - 1 < (d2.setIfInBounds k d2[k - 1]!).size by simpa using hk2)]
        (refine W_opsM ?_; simp (disch := omega) only [wrap_i64, go_sem, e1])
        obtain ⟨j, rfl⟩ : ∃ j, k = j + 1 := ⟨k - 1, by omega⟩
        simp only [Nat.add_sub_cancel] at *
        refine ⟨j, by omega, j, swp d2 (j + 1) j, _, _, _, rfl, by omega, by omega, by rw [swp_size]; exact hs2, ?_, ho3.put _, hu2.put.put, ?_, rfl⟩
        · intro i hi
          rw [swp_get d2 hk1 hk2]
          split
          · exact hd2 _ hk1'
          · split
            · exact hd2 _ hk2'
            · exact hd2 i hi
        · rw [← he2, insInner, if_pos (by simp [hlt]; omega)]
      · (refine W_exit ?_; simp only [go_sem])
        rw [hb] at ht
        (refine W_opsM ?_; simp (disch := omega) only [wrap_i64, go_sem])
        have he3 : insInner lt a k d2 = d2 := by
          cases k with
          | zero => rfl
          | succ j =>
            rw [insInner, if_neg]
            rw [Nat.add_sub_cancel] at ht
            simp only [Bool.false_eq, Bool.and_eq_false_iff, decide_eq_false_iff_not] at ht
            simp only [Bool.and_eq_true, decide_eq_true_eq]
            rintro ⟨h3, h4⟩
            rcases ht with h5 | h5
            · omega
            · rw [h4] at h5; cases h5
        refine ⟨bn - (i + 1), by omega, i + 1, d2, h2, _, _, _, rfl, by omega, by omega, hs2, hd2, ho2, hu2, ?_, rfl⟩
        have he4 : insOuter lt a bn i d1 = insOuter lt a bn (i + 1) (insInner lt a i d1) := by rw [insOuter, if_pos (by omega)]
        rw [← he1, he4, ← he2, he3]
    by_cases hp : (k : Int) > (a : Int)
    · have e1 : (k : Int) - 1 = ((k - 1 : Nat) : Int) := by omega
      have hk1 : k < d2.size := by omega
      have hk2 : k - 1 < d2.size := by omega
      have hk1' : k < d.size := by omega
      have hk2' : k - 1 < d.size := by omega
      (refine W_pre ?_; simp (disch := omega) only [wrap_i64, go_sem, hp, ixs_msl hk1', ixs_msl hk2', e1, ho2.loadA hk1, ho2.loadA hk2])
      refine WT_call rfl rfl ?_
      refine (hc h2 (by rw [hu2.next, ent_next]; exact Nat.le_refl _) (fun c hc _ => by rw [hu2.get c hc, ent_get]) _ _ (hd2 k hk1') (hd2 (k - 1) hk2')).mono ?_
      rintro _ _ ⟨rfl, c, rfl, hcl⟩
      simp (disch := omega) only [go_sem]
      refine hk _ ?_
      rw [decide_eq_true (show a < k by omega), Bool.true_and]
      by_cases h5 : c < 0
      · rw [hcl.1 h5]; simpa using h5
      · rw [show lt d2[k]! d2[k - 1]! = false from Bool.eq_false_iff.2 fun h6 => h5 (hcl.2 h6)]; simpa using h5
    · have hp' : ¬ a < k := by omega
      (refine W_pre ?_; simp (disch := omega) only [go_sem, hp])
      exact hk false (by simp [hp'])
  · (refine W_exit ?_; simp only [go_sem])
    have he2 : d1 = insertionSort lt d a bn := by
      rw [← he1, insOuter, if_neg (by omega)]
    rw [← he2]
    exact fin_updN hu1 ho1 rfl
end
end Go.Proofs.YtnkcimeebobjaaaDoor.fitKnown
namespace Go.Proofs.YtnkcimeebobjaaaDoor.fitKnown
/-- filled up to i -/
theorem fill_set {α : Type} {l : List α} {n i : Nat} {z : α} (hl : l.length = n) (hi : i < n) : (l.take i ++ List.replicate (n - i) z).set i (l[i]'(by omega)) = l.take (i + 1) ++ List.replicate (n - (i + 1)) z := by
  rw [List.set_append, if_neg (by simp; omega), List.length_take, Nat.min_eq_left (by omega), Nat.sub_self]
  obtain ⟨m, hm⟩ : ∃ m, n - i = m + 1 := ⟨n - i - 1, by omega⟩
  rw [hm, List.replicate_succ, List.set_cons_zero, List.take_succ_eq_append_getElem (by omega), List.append_assoc, show n - (i + 1) = m by omega]
  rfl
theorem fill_len {α : Type} {l : List α} {n i : Nat} {z : α} (hl : l.length = n) (hi : i ≤ n) : (l.take i ++ List.replicate (n - i) z).length = n := by
  simp; omega
theorem sum_take {l : List Int} {i : Nat} (hi : i < l.length) : (l.take (i + 1)).sum = (l.take i).sum + l[i] := by
  rw [List.take_succ_eq_append_getElem hi, List.sum_append]; simp
theorem sum_le {B : Int} : ∀ {l : List Int}, (∀ x ∈ l, 0 ≤ x ∧ x ≤ B) → 0 ≤ l.sum ∧ l.sum ≤ B * l.length
  | [], _ => by simp
  | x :: l, h => by
    have h1 := h x List.mem_cons_self
    have h2 := sum_le (l := l) fun y hy => h y (List.mem_cons_of_mem _ hy)
    simp only [List.sum_cons, List.length_cons, Int.natCast_add, Int.mul_add]
    omega
theorem sum_take_le {l : List Int} (h : ∀ x ∈ l, 0 ≤ x) : ∀ i, (l.take i).sum ≤ l.sum := by
  induction l with
  | nil => simp
  | cons x l ih =>
    intro i
    have h1 := h x List.mem_cons_self
    have h2 := fun y hy => h y (List.mem_cons_of_mem _ hy)
    have h3 : ∀ {l : List Int}, (∀ x ∈ l, 0 ≤ x) → 0 ≤ l.sum := by
      intro l
      induction l with
      | nil => simp
      | cons x l ih => intro h; have := h x List.mem_cons_self; have := ih fun y hy => h y (List.mem_cons_of_mem _ hy); simp; omega
    cases i with
    | zero => simp; have := h3 h2; omega
    | succ i => simp; exact ih h2 i
theorem sum_pos {l : List Int} (h : ∀ x ∈ l, 0 ≤ x) : 0 ≤ l.sum := by have := sum_take_le h 0; simpa using this
theorem sum_zero {l : List Int} (h : ∀ x ∈ l, 0 ≤ x) (hz : l.sum = 0) : ∀ x ∈ l, x = 0 := by
  induction l with
  | nil => simp
  | cons y l ih =>
    have h1 := h y List.mem_cons_self
    have h2 := sum_pos fun x hx => h x (List.mem_cons_of_mem _ hx)
    simp only [List.sum_cons] at hz
    intro x hx
    rcases List.mem_cons.1 hx with rfl | hx
    · omega
    · exact ih (fun x hx => h x (List.mem_cons_of_mem _ hx)) (by omega) x hx

def idxs (n : Nat) : List Int := (List.range n).map fun i : Nat => (i : Int)
theorem idxs_len (n : Nat) : (idxs n).length = n := by simp [idxs]
theorem idxs_get {n i : Nat} (h : i < (idxs n).length) : (idxs n)[i] = (i : Int) := by simp [idxs]
def cs (l : List Int) : List Int := if l.sum = 0 then List.replicate l.length 1 else l
def ts (l : List Int) : Int := if l.sum = 0 then l.length else l.sum
theorem cs_len (l : List Int) : (cs l).length = l.length := by unfold cs; split <;> simp
theorem cs_sum (l : List Int) : (cs l).sum = ts l := by
  unfold cs ts
  split
  · have : ∀ n : Nat, (List.replicate n (1 : Int)).sum = n := by
      intro n
      induction n with
      | zero => rfl
      | succ n ih => simp [List.replicate_succ, ih]; omega
    exact this _
  · rfl
theorem ts_pos {l : List Int} (h : ∀ x ∈ l, 0 ≤ x) (hn : 0 < l.length) : 0 < ts l := by
  unfold ts
  have := sum_pos h
  split <;> omega
theorem cs_bd {l : List Int} {B : Int} (hB : 1 ≤ B) (h : ∀ x ∈ l, 0 ≤ x ∧ x ≤ B) : ∀ x ∈ cs l, 0 ≤ x ∧ x ≤ B := by
  unfold cs
  split
  · intro x hx; rw [List.mem_replicate] at hx; omega
  · exact h
section
variable (l : List Int) (all : Int)
def qs : List Int := (cs l).map fun c => all * c / ts l
def rts : List Int := (cs l).map fun c => all * c - all * c / ts l * ts l
def leftS : Int := all - (qs l all).sum
end
theorem rts_bd {l : List Int} {all : Int} (ht : 0 < ts l) : ∀ x ∈ rts l all, 0 ≤ x ∧ x < ts l := by
  intro x hx
  unfold rts at hx
  rw [List.mem_map] at hx
  obtain ⟨c, _, rfl⟩ := hx
  have h1 := Int.emod_add_mul_ediv (all * c) (ts l)
  have h2 := Int.emod_nonneg (all * c) (show ts l ≠ 0 by omega)
  have h3 := Int.emod_lt_of_pos (all * c) ht
  rw [Int.mul_comm (ts l)] at h1
  omega
theorem left_eq (l : List Int) (all : Int) : leftS l all * ts l = (rts l all).sum := by
  have key : ∀ (c : List Int) (t : Int), all * c.sum - (c.map fun c => all * c / t).sum * t = (c.map fun c => all * c - all * c / t * t).sum := by
    intro c t
    induction c with
    | nil => simp
    | cons x c ih => simp only [List.sum_cons, List.map_cons]; rw [← ih, Int.mul_add, Int.add_mul]; omega
  unfold leftS qs rts
  rw [← key, cs_sum, Int.sub_mul]
theorem sum_lt {B : Int} : ∀ {l : List Int}, (∀ x ∈ l, 0 ≤ x ∧ x < B) → l ≠ [] → l.sum < B * l.length
  | [], _, h => absurd rfl h
  | [x], h, _ => by have := h x List.mem_cons_self; simp; omega
  | x :: y :: l, h, _ => by
    have h1 := h x List.mem_cons_self
    have h2 := sum_lt (l := y :: l) (fun z hz => h z (List.mem_cons_of_mem _ hz)) (by simp)
    rw [List.sum_cons, List.length_cons (a := x), Int.natCast_add, Int.mul_add]
    omega
theorem left_bd {l : List Int} {all : Int} (h : ∀ x ∈ l, 0 ≤ x) (hn : 0 < l.length) : 0 ≤ leftS l all ∧ leftS l all < l.length := by
  have ht := ts_pos h hn
  have h1 := left_eq l all
  have h2 := rts_bd (all := all) ht
  have h3 := sum_pos fun x hx => (h2 x hx).1
  have h4 := sum_lt h2 (by intro h; have h5 := congrArg List.length h; rw [show (rts l all).length = l.length by simp [rts, cs_len]] at h5; simp at h5; rw [h5] at hn; simp at hn)
  rw [show (rts l all).length = l.length by simp [rts, cs_len]] at h4
  rw [← h1] at h3 h4
  constructor
  · exact Int.nonneg_of_mul_nonneg_left h3 ht
  · rw [Int.mul_comm] at h4
    exact Int.lt_of_mul_lt_mul_left h4 (Int.le_of_lt ht)

def cmpG (rs : List Int) (i j : Nat) : Int := if rs.getD i 0 ≠ rs.getD j 0 then rs.getD j 0 - rs.getD i 0 else (i : Int) - (j : Int)
def ltG (rs : List Int) (x y : Int) : Bool := decide (cmpG rs x.toNat y.toNat < 0)
theorem ltG_iff {rs : List Int} {x y : Int} : ltG rs x y = true ↔ rs.getD y.toNat 0 < rs.getD x.toNat 0 ∨ rs.getD x.toNat 0 = rs.getD y.toNat 0 ∧ x.toNat < y.toNat := by
  unfold ltG cmpG
  rw [decide_eq_true_eq]
  split <;> omega
theorem ltG_swo (rs : List Int) : Go.Sort.SWO (ltG rs) where
  irrefl x := Bool.eq_false_iff.2 fun h => by rw [ltG_iff] at h; omega
  trans x y z h1 h2 := by rw [ltG_iff] at *; omega
  ntrans x y z h1 h2 := Bool.eq_false_iff.2 fun h => by
    have h1 : ¬ ltG rs x y = true := by simp [h1]
    have h2 : ¬ ltG rs y z = true := by simp [h2]
    rw [ltG_iff] at *
    omega
/-- what is given out -/
structure IsShares (c : List Int) (t all least : Int) (out : List Int) : Prop where
  len : out.length = c.length
  pick : ∃ T : List Nat, T.Nodup ∧ (∀ i ∈ T, i < c.length) ∧ (T.length : Int) = all - (c.map fun c => all * c / t).sum ∧
    (∀ (i : Nat) (hi : i < out.length) (hc : i < c.length), out[i] = least + all * c[i] / t + if i ∈ T then 1 else 0) ∧
    ∀ i j, i ∈ T → j < c.length → j ∉ T → ltG (c.map fun c => all * c - all * c / t * t) i j = true
theorem mem_le_sum : ∀ {l : List Int}, (∀ x ∈ l, 0 ≤ x) → ∀ x ∈ l, x ≤ l.sum
  | [], _, x, hx => by cases hx
  | y :: l, h, x, hx => by
    have h1 := h y List.mem_cons_self
    have h2 := sum_pos fun x hx => h x (List.mem_cons_of_mem _ hx)
    rw [List.sum_cons]
    rcases List.mem_cons.1 hx with rfl | hx
    · omega
    · have := mem_le_sum (fun x hx => h x (List.mem_cons_of_mem _ hx)) x hx; omega
theorem ltG_total {rs : List Int} {i j : Nat} (h : i ≠ j) (hn : ltG rs j i = false) : ltG rs i j = true := by
  have h1 : ¬ ltG rs (j : Int) (i : Int) = true := by simp [hn]
  rw [ltG_iff] at *
  simp only [Int.toNat_natCast] at *
  omega
/-- what the sort gives, as places -/
theorem ord_facts {n : Nat} {d : Array Int} (hp : Go.Sort.PermIn 0 n (idxs n).toArray d) : d.size = n ∧ ∃ o : List Nat, o.Perm (List.range n) ∧ d.toList = o.map fun i : Nat => (i : Int) := by
  obtain ⟨h1, _, h3⟩ := hp
  have hs : (idxs n).toArray.size = n := by simp [idxs_len]
  rw [hs] at h1
  have ex : ∀ (d : Array Int) (m : Nat), d.size = m → d.extract 0 m = d := fun d m h => by subst h; exact Array.extract_size
  have e1 := ex d n h1
  have e2 := ex _ n hs
  rw [e1, e2] at h3
  have h4 : d.toList.Perm (idxs n) := h3
  refine ⟨h1, d.toList.map Int.toNat, ?_, ?_⟩
  · have := h4.map Int.toNat
    rwa [show (idxs n).map Int.toNat = List.range n by simp [idxs, Function.comp_def]] at this
  · rw [List.map_map]
    have h5 : ∀ x ∈ d.toList, 0 ≤ x := fun x hx => by
      have := h4.mem_iff.1 hx
      simp [idxs] at this
      omega
    have h6 : ∀ l : List Int, (∀ x ∈ l, 0 ≤ x) → l = l.map ((fun i : Nat => (i : Int)) ∘ Int.toNat) := by
      intro l
      induction l with
      | nil => intro _; rfl
      | cons x l ih =>
        intro h
        rw [List.map_cons, ← ih fun x hx => h x (List.mem_cons_of_mem _ hx)]
        have := h x List.mem_cons_self
        simp [Int.toNat_of_nonneg this]
    exact h6 _ h5
/-- the places that are taken first -/
theorem shares_of {c : List Int} {t all least : Int} {out : List Int} {d : Array Int} {o : List Nat} {k : Nat} (hl : out.length = c.length) (ho : o.Perm (List.range c.length)) (hd : d.toList = o.map fun i : Nat => (i : Int)) (hk : k ≤ c.length)
    (hs : Go.Sort.SortedIn (ltG (c.map fun c => all * c - all * c / t * t)) 0 c.length d) (hsum : (k : Int) = all - (c.map fun c => all * c / t).sum)
    (hout : ∀ (i : Nat) (hi : i < out.length) (hc : i < c.length), out[i] = least + all * c[i] / t + if i ∈ o.take k then 1 else 0) : IsShares c t all least out := by
  have hnd : o.Nodup := ho.nodup_iff.2 List.nodup_range
  have hol : o.length = c.length := by rw [ho.length_eq]; simp
  have hmem : ∀ i, i ∈ o ↔ i < c.length := fun i => by rw [ho.mem_iff]; simp
  have hds : d.size = c.length := by rw [← hol, ← Array.length_toList, hd]; simp
  refine ⟨hl, o.take k, hnd.sublist (List.take_sublist _ _), fun i hi => (hmem i).1 (List.mem_of_mem_take hi), by rw [List.length_take, hol, Nat.min_eq_left hk]; exact hsum, hout, ?_⟩
  intro i j hi hj hnj
  obtain ⟨p, hp, rfl⟩ := List.getElem_of_mem hi
  obtain ⟨q, hq, rfl⟩ := List.getElem_of_mem ((hmem j).2 hj)
  rw [List.length_take] at hp
  rw [List.getElem_take] at hi ⊢
  have hqk : k ≤ q := Nat.le_of_not_lt fun h => hnj (by
    have : (o.take k)[q]'(by rw [List.length_take]; omega) = o[q] := List.getElem_take
    rw [← this]; exact List.getElem_mem _)
  have hget : ∀ r (hr : r < o.length), d[r]! = ((o[r] : Nat) : Int) := fun r hr => by
    rw [getElem!_pos d r (by omega), ← Array.getElem_toList]
    simp [hd]
  have h1 := hs p q (Nat.zero_le _) (by omega) (by omega)
  rw [hget p (by omega), hget q hq] at h1
  have hne : o[p]'(by omega) ≠ o[q] := fun h => hnj (h ▸ hi)
  exact ltG_total hne h1
def minL : List Int → Int
  | [] => 0
  | x :: l => l.foldl min x
def maxL : List Int → Int
  | [] => 0
  | x :: l => l.foldl max x
theorem foldl_min_le (l : List Int) : ∀ (x B : Int), B ≤ l.foldl min x ↔ B ≤ x ∧ ∀ y ∈ l, B ≤ y := by
  induction l with
  | nil => intro x B; simp
  | cons y l ih =>
    intro x B
    rw [List.foldl_cons, ih]
    simp only [List.mem_cons, forall_eq_or_imp]
    constructor
    · rintro ⟨h1, h2⟩; exact ⟨by omega, by omega, h2⟩
    · rintro ⟨h1, h2, h3⟩; exact ⟨by omega, h3⟩
theorem foldl_max_le (l : List Int) : ∀ (x B : Int), l.foldl max x ≤ B ↔ x ≤ B ∧ ∀ y ∈ l, y ≤ B := by
  induction l with
  | nil => intro x B; simp
  | cons y l ih =>
    intro x B
    rw [List.foldl_cons, ih]
    simp only [List.mem_cons, forall_eq_or_imp]
    constructor
    · rintro ⟨h1, h2⟩; exact ⟨by omega, by omega, h2⟩
    · rintro ⟨h1, h2, h3⟩; exact ⟨by omega, h3⟩
theorem minL_le {l : List Int} (hl : l ≠ []) {B : Int} : B ≤ minL l ↔ ∀ x ∈ l, B ≤ x := by
  cases l with
  | nil => exact absurd rfl hl
  | cons x l => simp only [minL, foldl_min_le, List.mem_cons, forall_eq_or_imp]
theorem maxL_le {l : List Int} (hl : l ≠ []) {B : Int} : maxL l ≤ B ↔ ∀ x ∈ l, x ≤ B := by
  cases l with
  | nil => exact absurd rfl hl
  | cons x l => simp only [maxL, foldl_max_le, List.mem_cons, forall_eq_or_imp]
/-- the arguments of Round are right -/
def Good (l : List Int) (grain least : Int) : Prop := 1 ≤ l.length ∧ l.length ≤ 1024 ∧ (∀ x ∈ l, 0 ≤ x ∧ x ≤ 1099511627776) ∧ 1 ≤ grain ∧ grain ≤ 720 ∧ 0 ≤ least ∧ least * l.length ≤ grain
/-- the sum of the distances of shares from what is due -/
def dst (t r least c w : Int) : Int := max (t * (w - least) - r * c) (0 - (t * (w - least) - r * c))
def dists (c w : List Int) (t r least : Int) : List Int := (c.zip w).map fun p => dst t r least p.1 p.2
def dist (c w : List Int) (grain least : Int) : Int := (dists c w c.sum (grain - least * c.length) least).sum
end Go.Proofs.YtnkcimeebobjaaaDoor.fitKnown
namespace Go.Proofs.YtnkcimeebobjaaaDoor.fitKnown
open Hx Go
set_option maxRecDepth 100000
attribute [local irreducible] cSeq cOps cPre cCnd cBlk cLoop cScope cExit cRet cNop cRng Heap.ent Heap.setLow
section
variable {F : Nat → Nat → CallFn} (hF : IsEv KC Kt F)
theorem minL_step {l : List Int} {i : Nat} (h0 : 0 < i) (hi : i < l.length) : minL (l.take (i + 1)) = min (minL (l.take i)) l[i] := by
  cases l with
  | nil => simp at hi
  | cons x l =>
    cases i with
    | zero => omega
    | succ i =>
      have hi' : i < l.length := by simpa using hi
      simp only [minL, List.take_succ_cons, List.getElem_cons_succ]
      rw [List.take_succ_eq_append_getElem hi', List.foldl_append]; rfl
theorem maxL_step {l : List Int} {i : Nat} (h0 : 0 < i) (hi : i < l.length) : maxL (l.take (i + 1)) = max (maxL (l.take i)) l[i] := by
  cases l with
  | nil => simp at hi
  | cons x l =>
    cases i with
    | zero => omega
    | succ i =>
      have hi' : i < l.length := by simpa using hi
      simp only [maxL, List.take_succ_cons, List.getElem_cons_succ]
      rw [List.take_succ_eq_append_getElem hi', List.foldl_append]; rfl
include hF
theorem gt_ok {h : Heap} {v : AV} {rs : List Int} {i j : Nat} (hv : Ints .i64 h 3 v rs) (hi : i < rs.length) (hj : j < rs.length) (hb : ∀ x ∈ rs, 0 ≤ x ∧ x ≤ 4611686018427387904) (hn : rs.length < 4611686018427387904) :
    WV F (.fn (.func 77) [v] []) [.int .i64 (i : Int), .int .i64 (j : Int)] h (fun r h' => h' = h ∧ r = .val (.int .i64 (cmpG rs i j))) := by
  have hv' := hv.ext (Ext.ent h)
  refine Kentc77 hF (first := [v]) (cap := []) (as := [.int .i64 (i : Int), .int .i64 (j : Int)]) rfl (by simp) ?_
  obtain ⟨p, h1, h2⟩ := hv'.at hi
  obtain ⟨q, h3, h4⟩ := hv'.at hj
  have b1 := hb _ (List.getElem_mem hi)
  have b2 := hb _ (List.getElem_mem hj)
  have g1 : rs.getD i 0 = rs[i] := by simp [List.getD, hi]
  have g2 : rs.getD j 0 = rs[j] := by simp [List.getD, hj]
  refine W_seq ?_
  (refine W_opsM ?_; simp only [go_sem])
  refine W_seq ?_
  refine W_seq ?_
  (refine W_pre ?_; simp only [go_sem, h1, h2, h3, h4])
  refine W_cndP rfl (fun hc => ?_) (fun hc => ?_)
  · refine W_seq ?_
    (refine W_pre ?_; simp (disch := omega) only [wrap_i64, go_sem, h1, h2, h3, h4])
    refine W_ret ?_
    simp only [go_sem]
    refine fin_out ent_low_le rfl rfl rfl ⟨rfl, ?_⟩
    unfold cmpG
    rw [g1, g2, if_pos hc]; rfl
  · (refine W_nop ?_; simp only [go_sem])
    refine W_seq ?_
    (refine W_opsM ?_; simp (disch := omega) only [wrap_i64, go_sem])
    refine W_ret ?_
    refine fin_out ent_low_le rfl rfl rfl ⟨rfl, ?_⟩
    unfold cmpG
    rw [g1, g2, if_neg hc]; rfl
theorem len64_ok {h : Heap} {x : Nat} (hx : x < 65536) : WV F (.fn (.func 112) [] []) [.int .u64 (x : Int)] h (fun r h' => h' = h ∧ ∃ c : Int, r = .val (.int .i64 c) ∧ 0 ≤ c ∧ c ≤ 1000) := by
  refine Kent112 hF ?_
  refine W_seq ?_
  (refine W_opsM ?_; simp only [go_sem])
  refine W_seq ?_
  refine W_seq ?_
  (refine W_opsM ?_; simp only [go_sem])
  refine W_cndP rfl (fun hc => ?_) (fun hc => ?_)
  · omega
  (refine W_nop ?_; simp only [go_sem])
  refine W_seq ?_
  refine W_seq ?_
  (refine W_opsM ?_; simp only [go_sem])
  refine W_cndP rfl (fun hc => ?_) (fun hc => ?_)
  · omega
  (refine W_nop ?_; simp only [go_sem])
  refine W_seq ?_
  refine W_seq ?_
  (refine W_opsM ?_; simp only [go_sem])
  refine W_cndP rfl (fun hc => ?_) (fun hc => ?_)
  · refine W_seq ?_
    (refine W_opsM ?_; simp (disch := omega) only [go_sem, Int.reduceToNat, Nat.reducePow])
    (refine W_opsM ?_; simp (disch := omega) only [wrap_i64, go_sem])
    refine W_seq ?_
    (refine W_opsM ?_; simp (disch := omega) only [go_sem, wrap_u8])
    refine OW_ixc (by show _ < 256; omega) (fun c hc => ?_)
    simp (disch := omega) only [wrap_i64, go_sem]
    refine W_ret ?_
    exact fin_out ent_low_le rfl rfl rfl ⟨rfl, _, rfl, by omega, by omega⟩
  · (refine W_nop ?_; simp only [go_sem])
    refine W_seq ?_
    (refine W_opsM ?_; simp (disch := omega) only [go_sem, wrap_u8])
    refine OW_ixc (by show _ < 256; omega) (fun c hc => ?_)
    simp (disch := omega) only [wrap_i64, go_sem]
    refine W_ret ?_
    exact fin_out ent_low_le rfl rfl rfl ⟨rfl, _, rfl, by omega, by omega⟩
theorem len_ok {h : Heap} {x : Nat} (hx : x < 65536) : WV F (.fn (.func 98) [] []) [.int .u64 (x : Int)] h (fun r h' => h' = h ∧ ∃ c : Int, r = .val (.int .i64 c) ∧ 0 ≤ c ∧ c ≤ 1000) := by
  refine Kent98 hF ?_
  refine W_seq ?_
  (refine W_opsM ?_; simp only [go_sem])
  refine W_seq ?_
  refine W_cnd rfl (fun h => by cases h) (fun _ => ?_)
  (refine W_nop ?_; simp only [go_sem])
  refine W_seq ?_
  (refine W_opsM ?_; simp only [go_sem])
  refine WO_call rfl rfl ?_
  refine (len64_ok hF hx).mono ?_
  rintro _ _ ⟨rfl, c, rfl, h1, h2⟩
  simp only [go_sem]
  refine W_ret ?_
  exact fin_out ent_low_le rfl rfl rfl ⟨rfl, _, rfl, h1, h2⟩
open Go.Sort in
/-- pdqsort at few elements -/
theorem pdqS_ok {h : Heap} {b : Nat} {d : Array Int} {g : AV} {lt : Int → Int → Bool} {D : Int → Prop} {c : Int} (ho : Own .i64 h 3 b d.toList) (hc : CmpOk F g h b lt D) (hd : ∀ i : Nat, i < d.size → D d[i]!) (hz : d.size ≤ 12) :
    WV F (.fn (.func 97) [] []) [.msl 3 b 0 d.size, .int .i64 0, .int .i64 d.size, .int .i64 c, g] h (fun r h' => r = .val (.tup []) ∧ Upd h h' b ∧ Own .i64 h' 3 b (insertionSort lt d 0 d.size).toList) := by
  refine Kent97 hF ?_
  refine W_seq ?_
  (refine W_opsM ?_; simp only [go_sem])
  refine W_seq ?_
  (refine W_opsM ?_; simp only [go_sem])
  refine W_blk ?_
  refine W_loop (fun k s => s = _) ?_ (k := 0) rfl
  rintro k s rfl
  refine W_blk ?_
  refine W_seq ?_
  (refine W_opsM ?_; simp (disch := omega) only [wrap_i64, go_sem, Int.sub_zero])
  refine W_seq ?_
  refine W_seq ?_
  (refine W_opsM ?_; simp only [go_sem])
  refine W_cndP rfl (fun hc1 => ?_) (fun hc1 => ?_)
  · refine W_seq ?_
    (refine W_opsM ?_; simp only [go_sem])
    refine WO_call rfl rfl ?_
    refine (ins_ok hF (a := 0) (bn := d.size) (ho.ext (Ext.ent h)) hc.ent hd (Nat.zero_le _) (Nat.le_refl _) (by omega)).mono ?_
    rintro _ h1 ⟨rfl, hu, ho1⟩
    simp only [go_sem]
    refine W_ret ?_
    simp only [go_sem]
    exact fin_upd hu ho1 rfl
  · omega
theorem min_ok {h : Heap} {v : AV} {l : List Int} (hv : Ints .i64 h 3 v l) (hl : l ≠ []) (hm : l.length < 2 ^ 62):
    WV F (.fn (.func 46) [] []) [v] h (fun r h' => r = .val (.int .i64 (minL l)) ∧ h' = h) := by
  have h0 : 0 < l.length := List.length_pos_iff.2 hl
  have hv' := hv.ext (Ext.ent h)
  refine Kent46 hF ?_
  refine W_seq ?_
  (refine W_opsM ?_; simp only [go_sem])
  refine W_seq ?_
  refine W_seq ?_
  (refine W_opsM ?_; simp only [go_sem, hv.lens])
  refine W_cndP rfl (fun hc => ?_) (fun hc => ?_)
  · omega
  refine W_nop ?_
  simp only [go_sem]
  refine W_seq ?_
  obtain ⟨p, h1, h2⟩ := hv'.at h0
  (refine W_opsM ?_; simp only [go_sem, h1, h2])
  refine W_seq ?_
  refine W_seq ?_
  (refine W_opsM ?_; simp only [go_sem])
  refine W_blk ?_
  refine W_loop (fun k s => ∃ (i : Nat) (m : Int) (j1 j2 : AV), k = l.length - i ∧ 0 < i ∧ i ≤ l.length ∧ m = minL (l.take i) ∧ s = ⟨[v, j1, .int .i64 (i : Int), j2, .int .i64 m, .int .i64 0], h.ent, []⟩) ?_ (k := l.length - 1) ⟨1, _, _, _, rfl, by omega, by omega, ?_, rfl⟩
  · rintro k s ⟨i, m, j1, j2, rfl, hi0, hi, hm, rfl⟩
    refine W_seq ?_
    refine W_seq ?_
    (refine W_opsM ?_; simp only [go_sem, hv.lens])
    refine W_cndP rfl (fun hc => ?_) (fun hc => ?_)
    · refine W_nop ?_
      simp only [go_sem]
      refine W_seq ?_
      refine W_blk ?_
      have hi' : i < l.length := by omega
      obtain ⟨p, h1, h2⟩ := hv'.at hi'
      (refine W_opsM ?_; simp only [go_sem, h1, h2])
      (refine W_opsM ?_; simp (disch := omega) only [wrap_i64, go_sem, wrap_i64])
      exact ⟨_, by omega, i + 1, _, _, _, rfl, by omega, by omega, by rw [minL_step hi0 hi', hm], rfl⟩
    · refine W_exit ?_
      simp only [go_sem]
      refine W_seq ?_
      (refine W_opsM ?_; simp only [go_sem])
      refine W_ret ?_
      have : i = l.length := by omega
      subst this
      rw [List.take_length] at hm
      exact fin_out ent_low_le rfl rfl rfl ⟨by rw [hm]; rfl, rfl⟩
  · rw [List.take_one]; cases l with
    | nil => simp at h0
    | cons x l => rfl
theorem max_ok {h : Heap} {v : AV} {l : List Int} (hv : Ints .i64 h 3 v l) (hl : l ≠ []) (hm : l.length < 2 ^ 62):
    WV F (.fn (.func 32) [] []) [v] h (fun r h' => r = .val (.int .i64 (maxL l)) ∧ h' = h) := by
  have h0 : 0 < l.length := List.length_pos_iff.2 hl
  have hv' := hv.ext (Ext.ent h)
  refine Kent32 hF ?_
  refine W_seq ?_
  (refine W_opsM ?_; simp only [go_sem])
  refine W_seq ?_
  refine W_seq ?_
  (refine W_opsM ?_; simp only [go_sem, hv.lens])
  refine W_cndP rfl (fun hc => ?_) (fun hc => ?_)
  · omega
  refine W_nop ?_
  simp only [go_sem]
  refine W_seq ?_
  obtain ⟨p, h1, h2⟩ := hv'.at h0
  (refine W_opsM ?_; simp only [go_sem, h1, h2])
  refine W_seq ?_
  refine W_seq ?_
  (refine W_opsM ?_; simp only [go_sem])
  refine W_blk ?_
  refine W_loop (fun k s => ∃ (i : Nat) (m : Int) (j1 j2 : AV), k = l.length - i ∧ 0 < i ∧ i ≤ l.length ∧ m = maxL (l.take i) ∧ s = ⟨[v, j1, .int .i64 (i : Int), j2, .int .i64 m, .int .i64 0], h.ent, []⟩) ?_ (k := l.length - 1) ⟨1, _, _, _, rfl, by omega, by omega, ?_, rfl⟩
  · rintro k s ⟨i, m, j1, j2, rfl, hi0, hi, hm, rfl⟩
    refine W_seq ?_
    refine W_seq ?_
    (refine W_opsM ?_; simp only [go_sem, hv.lens])
    refine W_cndP rfl (fun hc => ?_) (fun hc => ?_)
    · refine W_nop ?_
      simp only [go_sem]
      refine W_seq ?_
      refine W_blk ?_
      have hi' : i < l.length := by omega
      obtain ⟨p, h1, h2⟩ := hv'.at hi'
      (refine W_opsM ?_; simp only [go_sem, h1, h2])
      (refine W_opsM ?_; simp (disch := omega) only [wrap_i64, go_sem, wrap_i64])
      exact ⟨_, by omega, i + 1, _, _, _, rfl, by omega, by omega, by rw [maxL_step hi0 hi', hm], rfl⟩
    · refine W_exit ?_
      simp only [go_sem]
      refine W_seq ?_
      (refine W_opsM ?_; simp only [go_sem])
      refine W_ret ?_
      have : i = l.length := by omega
      subst this
      rw [List.take_length] at hm
      exact fin_out ent_low_le rfl rfl rfl ⟨by rw [hm]; rfl, rfl⟩
  · rw [List.take_one]; cases l with
    | nil => simp at h0
    | cons x l => rfl
open Go.Sort in
theorem sortS_ok {h : Heap} {b : Nat} {d : Array Int} {g : AV} {lt : Int → Int → Bool} {D : Int → Prop} (ho : Own .i64 h 3 b d.toList) (hc : CmpOk F g h b lt D) (hd : ∀ i : Nat, i < d.size → D d[i]!) (hz : d.size ≤ 12) :
    WV F (.fn (.func 76) [] []) [.msl 3 b 0 d.size, g] h (fun r h' => r = .val (.tup []) ∧ Upd h h' b ∧ Own .i64 h' 3 b (insertionSort lt d 0 d.size).toList) := by
  refine Kent76 hF ?_
  refine W_seq ?_
  (refine W_opsM ?_; simp only [go_sem])
  refine W_opsM ?_
  simp (disch := omega) only [go_sem, wrap_u64]
  refine WO_call rfl rfl ?_
  refine (len_ok hF (show d.size < 65536 by omega)).mono ?_
  rintro _ _ ⟨rfl, c, rfl, h1, h2⟩
  simp only [go_sem]
  refine WO_call rfl rfl ?_
  refine (pdqS_ok hF (ho.ext (Ext.ent h)) hc.ent hd hz).mono ?_
  rintro _ h1 ⟨rfl, hu, ho1⟩
  simp only [go_sem]
  exact fin_updN hu ho1 rfl
theorem cmpG_ok {h : Heap} {v : AV} {rs : List Int} {b : Nat} (hv : ∀ h', h.next ≤ h'.next → (∀ c, c ≠ b → c < h.next → h'.get c = h.get c) → Ints .i64 h' 3 v rs) (hb : ∀ x ∈ rs, 0 ≤ x ∧ x ≤ 4611686018427387904) (hn : rs.length < 4611686018427387904) :
    CmpOk F (.fn (.func 77) [v] []) h b (ltG rs) (fun x => 0 ≤ x ∧ x < rs.length) := by
  intro h' h1 h2 x y hx hy
  obtain ⟨i, rfl⟩ := Int.eq_ofNat_of_zero_le hx.1
  obtain ⟨j, rfl⟩ := Int.eq_ofNat_of_zero_le hy.1
  refine (gt_ok hF (hv h' h1 h2) (by omega) (by omega) hb hn).mono ?_
  rintro _ _ ⟨rfl, rfl⟩
  exact ⟨rfl, _, rfl, by simp [ltG]⟩
theorem mul64_ok {h : Heap} {x y : Nat} (hx : x < 4294967296) (hy : y < 4294967296) : WV F (.fn (.func 94) [] []) [.int .u64 (x : Int), .int .u64 (y : Int)] h (fun r h' => h' = h ∧ r = .val (.tup [.int .u64 0, .int .u64 ((x * y : Nat) : Int)])) := by
  have hm : x * y ≤ 4294967295 * 4294967295 := Nat.mul_le_mul (by omega) (by omega)
  have hm' : x * y / 4294967296 < 4294967296 := by omega
  have hx0 : x / 4294967296 = 0 := by omega
  have hy0 : y / 4294967296 = 0 := by omega
  refine Kent94 hF ?_
  refine W_seq ?_
  (refine W_opsM ?_; simp only [go_sem])
  refine W_seq ?_
  (refine W_opsM ?_; simp (disch := omega) only [go_sem, Int.reduceToNat, and_mask32 hx])
  refine W_seq ?_
  (refine W_opsM ?_; simp (disch := omega) only [go_sem, Int.reduceToNat, Nat.reducePow, hx0])
  refine W_seq ?_
  (refine W_opsM ?_; simp (disch := omega) only [go_sem, Int.reduceToNat, and_mask32 hy])
  refine W_seq ?_
  (refine W_opsM ?_; simp (disch := omega) only [go_sem, Int.reduceToNat, Nat.reducePow, hy0])
  refine W_seq ?_
  (refine W_opsM ?_; simp (disch := omega) only [go_sem, wrap_u64, ← Int.natCast_mul])
  refine W_seq ?_
  (refine W_opsM ?_; simp (disch := omega) only [go_sem, Int.reduceToNat, Nat.reducePow, wrap_u64, Int.zero_mul, Int.zero_add])
  refine W_seq ?_
  (refine W_opsM ?_; simp (disch := omega) only [go_sem, Int.reduceToNat, and_mask32 hm'])
  refine W_seq ?_
  (refine W_opsM ?_; simp (disch := omega) only [go_sem, Int.reduceToNat, Nat.reducePow, show x * y / 4294967296 / 4294967296 = 0 by omega])
  refine W_seq ?_
  (refine W_opsM ?_; simp (disch := omega) only [go_sem, wrap_u64, Int.mul_zero, Int.add_zero])
  refine W_seq ?_
  (refine W_opsM ?_; simp (disch := omega) only [go_sem, Int.reduceToNat, Nat.reducePow, wrap_u64, Int.zero_mul, Int.add_zero, show x * y / 4294967296 / 4294967296 = 0 by omega])
  refine W_seq ?_
  (refine W_opsM ?_; simp (disch := omega) only [go_sem, wrap_u64, ← Int.natCast_mul])
  refine W_ret ?_
  exact fin_out ent_low_le rfl rfl rfl ⟨rfl, rfl⟩
theorem mul_ok {h : Heap} {x y : Nat} (hx : x < 4294967296) (hy : y < 4294967296) : WV F (.fn (.func 71) [] []) [.int .u64 (x : Int), .int .u64 (y : Int)] h (fun r h' => h' = h ∧ r = .val (.tup [.int .u64 0, .int .u64 ((x * y : Nat) : Int)])) := by
  refine Kent71 hF ?_
  refine W_seq ?_
  (refine W_opsM ?_; simp only [go_sem])
  refine W_seq ?_
  refine W_cnd rfl (fun h => by cases h) (fun _ => ?_)
  (refine W_nop ?_; simp only [go_sem])
  refine W_seq ?_
  (refine W_opsM ?_; simp only [go_sem])
  refine WO_call rfl rfl ?_
  refine (mul64_ok hF hx hy).mono ?_
  rintro _ _ ⟨rfl, rfl⟩
  simp only [go_sem]
  refine W_seq ?_
  (refine W_opsM ?_; simp only [go_sem])
  refine W_ret ?_
  exact fin_out ent_low_le rfl rfl rfl ⟨rfl, rfl⟩
theorem rep_ok {h : Heap} {v : AV} {y : Int} {n : Nat} (hv : Ints .i64 h 3 v [y]) (hn : 0 < n) (hn' : n < 65536) (_hy : y ≤ 9223372036854775807) :
    WV F (.fn (.func 34) [] []) [v, .int .i64 (n : Int)] h (fun r h' => ∃ b, r = .val (.msl 3 b 0 n) ∧ Grow h h' ∧ h.next ≤ b ∧ Own .i64 h' 3 b (List.replicate n y)) := by
  have hv' := hv.ext (Ext.ent h)
  refine Kent34 hF ?_
  refine W_seq ?_
  (refine W_opsM ?_; simp only [go_sem])
  refine W_seq ?_
  refine W_seq ?_
  (refine W_opsM ?_; simp only [go_sem])
  refine W_cndP rfl (fun hc => ?_) (fun hc => ?_)
  · omega
  (refine W_nop ?_; simp only [go_sem])
  refine W_seq ?_
  refine W_opsM ?_
  simp (disch := omega) only [go_sem, hv.lens, List.length_singleton, wrap_u64]
  refine WO_call rfl rfl ?_
  refine (mul_ok hF (x := 1) (y := n) (by omega) (by omega)).mono ?_
  rintro _ _ ⟨rfl, rfl⟩
  simp only [go_sem, Nat.one_mul]
  refine W_seq ?_
  refine W_seq ?_
  have e1 : ((n : Int) > 9223372036854775807) = False := by simp; omega
  (refine W_opsM ?_; simp only [go_sem, gt_iff_lt, show ((0:Int) < 0) = False from by simp, show ((9223372036854775807 : Int) < (n : Int)) = False by simp; omega])
  refine W_cnd rfl (fun h => by cases h) (fun _ => ?_)
  (refine W_nop ?_; simp only [go_sem])
  refine W_seq ?_
  (refine W_opsM ?_; simp (disch := omega) only [wrap_i64, go_sem, mksE])
  refine W_seq ?_
  have ho := Own.mkZ (k := .i64) h.ent 3 n 0
  have e2 : min 1 n = 1 := by omega
  have hc : sliceCells (h.ent.push (.row (List.replicate n [AV.int .i64 0]).flatten 3)) 1 1 v = some ([y].map (.int .i64 ·)) := RdS.cells (hv'.ext (Ext.refl h.ent).push)
  have hcp := ho.cpy (n := n) (m := 1) (o := 0) (src := [y]) (RdS.lenA hv) (by rw [e2]; rfl) (by rw [e2]; exact hc) (by simp; omega)
  rw [e2] at hcp
  simp only [ent_next] at hcp ho
  (refine W_opsM ?_; simp (disch := omega) only [go_sem, hcp, ent_next])
  refine W_seq ?_
  refine W_blk ?_
  have hshape : ∀ j, j ≤ n → (List.replicate j y ++ List.replicate (n - j) 0).length = n := by intro j hj; simp; omega
  refine W_loop (fun k s => ∃ (j : Nat) (h1 : Heap) (j1 j2 j3 j4 j5 : AV), k = n - j ∧ 0 < j ∧ j ≤ n ∧ Ext h.ent h1 ∧ h.next ≤ h1.low ∧ Own .i64 h1 3 h.next (List.replicate j y ++ List.replicate (n - j) 0) ∧
    s = ⟨[v, .int .i64 (n : Int), j1, j2, j3, j4, .msl 3 h.next 0 n, .int .i64 (j : Int), j5, .nils], h1, []⟩) ?_ (k := n - 1) ⟨1, _, _, _, _, _, _, rfl, by omega, by omega, ?_, ?_, ?_, rfl⟩
  · rintro k s ⟨j, h1, j1, j2, j3, j4, j5, rfl, hj0, hjn, he1, hl1, ho1, rfl⟩
    refine W_seq ?_
    refine W_seq ?_
    (refine W_opsM ?_; simp only [go_sem])
    refine W_cndP rfl (fun hc => ?_) (fun hc => ?_)
    · (refine W_nop ?_; simp only [go_sem])
      refine W_blk ?_
      have hjn' : j < n := by omega
      have hcp := ho1.cpy (n := n - j) (m := j) (o := j) (s := .msl 3 h.next 0 j) (src := List.replicate (min j (n - j)) y) rfl (by simp) (by
        rw [ho1.cells (by omega) (by rw [hshape j hjn]; omega), List.drop_zero, List.take_append_of_le_length (by simp; omega), List.take_replicate]; congr 3; omega) (by rw [hshape j hjn]; omega)
      (refine W_pre ?_; simp (disch := omega) only [wrap_i64, go_sem, slc_msl, hcp, Nat.mul_one, Nat.sub_zero])
      refine ⟨n - (j + min j (n - j)), by omega, j + min j (n - j), _, _, _, _, _, _, rfl, by omega, by omega, he1.put (by rw [ent_next]; omega), by rw [low_put]; omega, ?_, rfl⟩
      have : List.take j (List.replicate j y ++ List.replicate (n - j) 0) ++ List.replicate (min j (n - j)) y ++ List.drop (j + min j (n - j)) (List.replicate j y ++ List.replicate (n - j) 0) = List.replicate (j + min j (n - j)) y ++ List.replicate (n - (j + min j (n - j))) 0 := by
        rw [List.take_left' (by simp), List.replicate_append_replicate, List.drop_append, List.drop_of_length_le (by simp), List.drop_replicate, List.nil_append]
        congr 2
        simp; omega
      rw [this]
      exact ho1.put _
    · (refine W_exit ?_; simp only [go_sem])
      have : j = n := by omega
      subst this
      refine W_seq ?_
      (refine W_opsM ?_; simp only [go_sem])
      refine W_ret ?_
      rw [Nat.sub_self, List.replicate_zero, List.append_nil] at ho1
      exact fin_new (l := [.msl 3 h.next 0 j]) he1 hl1 rfl rfl (fun hg => ⟨_, rfl, hg, Nat.le_refl _, ho1.lower⟩) (fun h => by cases h)
  · exact (Ext.refl h.ent).push.put (by rw [ent_next]; omega)
  · rw [low_put, low_push, ent_low]; omega
  · have : List.take 0 (List.replicate n (0 : Int)) ++ [y] ++ List.drop (0 + 1) (List.replicate n 0) = List.replicate 1 y ++ List.replicate (n - 1) 0 := by simp
    rw [this]
    exact ho.put _
end
end Go.Proofs.YtnkcimeebobjaaaDoor.fitKnown
namespace Go.Proofs.YtnkcimeebobjaaaDoor.fitKnown
open Hx Go
set_option maxRecDepth 100000
attribute [local irreducible] cSeq cOps cPre cCnd cBlk cLoop cScope cExit cRet cNop cRng Heap.ent Heap.setLow
/-- what a part of the sort is given (h0: the heap in which the comparison was given) -/
structure SIn (F : Nat → Nat → CallFn) (g : AV) (h0 h : Heap) (b : Nat) (d : Array Int) (lt : Int → Int → Bool) (D : Int → Prop) : Prop where
  own : Own .i64 h 3 b d.toList
  cmp : CmpOk F g h0 b lt D
  dom : ∀ i : Nat, i < d.size → D d[i]!
  sz : d.size < 1000000000
  nx : h0.next ≤ h.next
  sm : ∀ c, c ≠ b → c < h0.next → h.get c = h0.get c
  bl : b < h0.next
section
variable {F : Nat → Nat → CallFn} {g : AV} {h0 h h' : Heap} {b : Nat} {d d' : Array Int} {lt : Int → Int → Bool} {D : Int → Prop}
theorem SIn.to (hs : SIn F g h0 h b d lt D) (hn : h.next ≤ h'.next) (hg : ∀ c, c ≠ b → c < h0.next → h'.get c = h.get c) (ho : Own .i64 h' 3 b d'.toList) (hz : d'.size = d.size) (hd : ∀ i : Nat, i < d.size → D d'[i]!) : SIn F g h0 h' b d' lt D :=
  ⟨ho, hs.cmp, fun i hi => hd i (by rw [← hz]; exact hi), by rw [hz]; exact hs.sz, Nat.le_trans hs.nx hn, fun c hc hl => by rw [hg c hc hl, hs.sm c hc hl], hs.bl⟩
theorem SIn.ent (hs : SIn F g h0 h b d lt D) : SIn F g h0 h.ent b d lt D := hs.to (by rw [ent_next]; exact Nat.le_refl _) (fun c _ _ => ent_get) (hs.own.ext (Ext.ent h)) rfl hs.dom
theorem SIn.upd (hs : SIn F g h0 h b d lt D) (hu : Upd h h' b) (ho : Own .i64 h' 3 b d'.toList) (hp : Go.Sort.PermIn 0 d.size d d') : SIn F g h0 h' b d' lt D :=
  hs.to (by rw [hu.next]; exact Nat.le_refl _) (fun c hc _ => hu.get c hc) ho hp.1 fun i hi => Go.Sort.permIn_all d d' 0 d.size D (Nat.le_refl _) hp (fun i _ hi => hs.dom i hi) i (Nat.zero_le _) hi
/-- another block, that came later, is turned -/
theorem SIn.other (hs : SIn F g h0 h b d lt D) {c : Nat} (hc : h0.next ≤ c) (hu : Upd h h' c) : SIn F g h0 h' b d lt D :=
  hs.to (by rw [hu.next]; exact Nat.le_refl _) (fun i _ hl => hu.get i (by omega)) (hs.own.same hu.next (hu.get b (by have := hs.bl; omega))) rfl hs.dom
theorem SIn.push (hs : SIn F g h0 h b d lt D) (x : Blk) : SIn F g h0 (h.push x) b d lt D :=
  hs.to (by rw [next_push]; omega) (fun c _ hl => by rw [get_push, if_neg (by have := hs.nx; omega)]) hs.own.pushO rfl hs.dom
theorem SIn.call (hs : SIn F g h0 h b d lt D) {i j : Nat} (hi : i < d.size) (hj : j < d.size) : WV F g [.int .i64 d[i]!, .int .i64 d[j]!] h (fun r h'' => h'' = h ∧ ∃ c, r = .val (.int .i64 c) ∧ (c < 0 ↔ lt d[i]! d[j]! = true)) :=
  hs.cmp h hs.nx hs.sm _ _ (hs.dom i hi) (hs.dom j hj)
theorem swp1 (ho : Own .i64 h 3 b d.toList) {i j : Nat} (hi : i < d.size) : storeN h (.ptr b i) [.int .i64 d[j]!] = some (h.put b (.row ((d.setIfInBounds i d[j]!).toList.map (.int .i64 ·)) 3)) := ho.storeA hi _
theorem swp2 (ho : Own .i64 h 3 b d.toList) {i j : Nat} (hj : j < d.size) : storeN (h.put b (.row ((d.setIfInBounds i d[j]!).toList.map (.int .i64 ·)) 3)) (.ptr b j) [.int .i64 d[i]!] = some ((h.put b (.row ((d.setIfInBounds i d[j]!).toList.map (.int .i64 ·)) 3)).put b (.row ((Go.Sort.swp d i j).toList.map (.int .i64 ·)) 3)) := by
  have := ho.put (k := .i64) (d.setIfInBounds i d[j]!).toList
  exact this.storeA (by simpa using hj) _
theorem SIn.swp (hs : SIn F g h0 h b d lt D) {i j : Nat} (hi : i < d.size) (hj : j < d.size) (x : Blk) : SIn F g h0 ((h.put b x).put b (.row ((Go.Sort.swp d i j).toList.map (.int .i64 ·)) 3)) b (Go.Sort.swp d i j) lt D :=
  hs.to (by rw [next_put, next_put]; exact Nat.le_refl _) (fun c hc _ => by rw [get_put, if_neg hc, get_put, if_neg hc]) ⟨by rw [next_put, next_put]; exact hs.own.1, by rw [get_put, if_pos rfl]⟩ (Go.Sort.swp_size d i j) fun k hk => by
    rw [Go.Sort.swp_get d hi hj]
    split
    · exact hs.dom _ hi
    · split
      · exact hs.dom _ hj
      · exact hs.dom k hk
end
section
variable {F : Nat → Nat → CallFn} (hF : IsEv KC Kt F)
include hF
open Go.Sort
variable {g : AV} {h0 h : Heap} {b : Nat} {d : Array Int} {lt : Int → Int → Bool} {D : Int → Prop} {a bn : Nat}
theorem rev_ok (hs : SIn F g h0 h b d lt D) (hab : a < bn) (hb : bn ≤ d.size) :
    WV F (.fn (.func 107) [] []) [.msl 3 b 0 d.size, .int .i64 a, .int .i64 bn, g] h (fun r h' => r = .val (.tup []) ∧ Upd h h' b ∧ ∃ d', Own .i64 h' 3 b d'.toList ∧ PermIn a bn d d') := by
  have hz := hs.sz
  refine Kent107 hF ?_
  refine W_seq ?_
  (refine W_opsM ?_; simp only [go_sem])
  refine W_seq ?_
  (refine W_opsM ?_; simp (disch := omega) only [wrap_i64, go_sem])
  refine W_blk ?_
  have e0 : (bn : Int) - 1 = ((bn - 1 : Nat) : Int) := by omega
  rw [e0]
  refine W_loop (fun k s => ∃ (i j : Nat) (d1 : Array Int) (h1 : Heap) (j1 j2 j3 j6 : AV), k = bn - i ∧ a ≤ i ∧ i ≤ bn ∧ j < bn ∧ d1.size = d.size ∧ SIn F g h0 h1 b d1 lt D ∧ Upd h.ent h1 b ∧ PermIn a bn d d1 ∧ s = ⟨[.msl 3 b 0 d.size, j1, j2, j3, .int .i64 (i : Int), .int .i64 (j : Int), j6], h1, []⟩) ?_ (k := bn - a) ⟨a, bn - 1, d, _, _, _, _, _, rfl, Nat.le_refl _, by omega, by omega, rfl, hs.ent, Upd.refl _ _, permIn_refl _ _ _, rfl⟩
  rintro k s ⟨i, j, d1, h1, j1, j2, j3, j6, rfl, hai, hib, hjb, hz1, hs1, hu1, hp1, rfl⟩
  refine W_seq ?_
  refine W_seq ?_
  (refine W_opsM ?_; simp only [go_sem])
  refine W_cndP rfl (fun hc1 => ?_) (fun hc1 => ?_)
  · (refine W_nop ?_; simp only [go_sem])
    refine W_blk ?_
    refine W_seq ?_
    have hi : i < d.size := by omega
    have hj : j < d.size := by omega
    have hi1 : i < d1.size := by omega
    have hj1 : j < d1.size := by omega
    (refine W_pre ?_; simp (disch := omega) only [go_sem, ixs_msl hi, ixs_msl hj, hs1.own.loadA hi1, hs1.own.loadA hj1, swp1 hs1.own hi1, swp2 hs1.own hj1])
    refine W_seq ?_
    (refine W_opsM ?_; simp (disch := omega) only [wrap_i64, go_sem])
    (refine W_opsM ?_; simp (disch := omega) only [wrap_i64, go_sem])
    have e1 : (j : Int) - 1 = ((j - 1 : Nat) : Int) := by omega
    rw [e1]
    exact ⟨_, by omega, i + 1, j - 1, _, _, _, _, _, _, rfl, by omega, by omega, by omega, by rw [swp_size, hz1], hs1.swp hi1 hj1 _, hu1.put.put, permIn_trans _ _ _ _ _ hp1 (swp_permIn _ _ _ _ _ hai (by omega) (by omega) hjb (by omega)), rfl⟩
  · (refine W_exit ?_; simp only [go_sem])
    exact (fin_updN hu1 hs1.own rfl).mono fun r h' ⟨h2, h3, h4⟩ => ⟨h2, h3, d1, h4, hp1⟩
/-- order2: the two places, in an order; how often it swapped is counted -/
theorem order2_ok (hs : SIn F g h0 h b d lt D) {x y c sb : Nat} (hx : x < d.size) (hy : y < d.size) (hc : Own .i64 h 3 sb [(c : Int)]) (hcb : c < 100) :
    WV F (.fn (.func 123) [] []) [.msl 3 b 0 d.size, .int .i64 x, .int .i64 y, .ptr sb 0, g] h (fun r h' => ∃ (x' y' c' : Nat), r = .val (.tup [.int .i64 x', .int .i64 y']) ∧ (x' = x ∧ y' = y ∨ x' = y ∧ y' = x) ∧ c' ≤ c + 1 ∧ Upd h h' sb ∧ Own .i64 h' 3 sb [(c' : Int)]) := by
  have hz := hs.sz
  have hs' := hs.ent
  refine Kent123 hF ?_
  refine W_seq ?_
  (refine W_opsM ?_; simp only [go_sem])
  refine W_seq ?_
  refine W_seq ?_
  (refine W_pre ?_; simp (disch := omega) only [go_sem, ixs_msl hx, ixs_msl hy, hs'.own.loadA hx, hs'.own.loadA hy])
  refine WT_call rfl rfl ?_
  refine (hs'.call hy hx).mono ?_
  rintro _ _ ⟨rfl, v, rfl, hv⟩
  simp (disch := omega) only [go_sem]
  have hc' := hc.ext (Ext.ent h)
  refine W_cndP rfl (fun hc1 => ?_) (fun hc1 => ?_)
  · refine W_seq ?_
    (refine W_opsM ?_; simp (disch := omega) only [wrap_i64, go_sem, chkA, hc'.load (i := 0) (by simp), List.getElem_cons_zero, fun y => hc'.store (i := 0) (by simp) y])
    refine W_seq ?_
    (refine W_opsM ?_; simp only [go_sem])
    refine W_ret ?_
    simp only [go_sem]
    refine (fin_updV (Upd.refl _ _).put (hc'.put _) rfl rfl).mono fun r h' ⟨h2, h3, h4⟩ => ⟨y, x, c + 1, h2, .inr ⟨rfl, rfl⟩, by omega, h3, ?_⟩
    simpa using h4
  · (refine W_nop ?_; simp only [go_sem])
    refine W_seq ?_
    (refine W_opsM ?_; simp only [go_sem])
    refine W_ret ?_
    exact fin_out ent_low_le rfl rfl rfl ⟨x, y, c, rfl, .inl ⟨rfl, rfl⟩, by omega, Upd.refl _ _, hc⟩
theorem median_ok (hs : SIn F g h0 h b d lt D) {x y z c sb : Nat} (hx : x < d.size) (hy : y < d.size) (hz : z < d.size) (hc : Own .i64 h 3 sb [(c : Int)]) (hcb : c < 90) (hsb : h0.next ≤ sb) :
    WV F (.fn (.func 120) [] []) [.msl 3 b 0 d.size, .int .i64 x, .int .i64 y, .int .i64 z, .ptr sb 0, g] h (fun r h' => ∃ (m c' : Nat), r = .val (.int .i64 m) ∧ (m = x ∨ m = y ∨ m = z) ∧ c' ≤ c + 3 ∧ Upd h h' sb ∧ Own .i64 h' 3 sb [(c' : Int)]) := by
  refine Kent120 hF ?_
  refine W_seq ?_
  (refine W_opsM ?_; simp only [go_sem])
  refine W_seq ?_
  (refine W_opsM ?_; simp only [go_sem])
  refine WO_call rfl rfl ?_
  refine (order2_ok hF hs.ent hx hy (hc.ext (Ext.ent h)) (by omega)).mono ?_
  rintro _ h1 ⟨x1, y1, c1, rfl, hxy, hc1, hu1, ho1⟩
  simp only [go_sem]
  have hs1 := hs.ent.other hsb hu1
  refine W_seq ?_
  (refine W_opsM ?_; simp only [go_sem])
  refine WO_call rfl rfl ?_
  refine (order2_ok hF hs1 (x := y1) (y := z) (by omega) hz ho1 (by omega)).mono ?_
  rintro _ h2 ⟨y2, z2, c2, rfl, hyz, hc2, hu2, ho2⟩
  simp only [go_sem]
  have hs2 := hs1.other hsb hu2
  refine W_seq ?_
  (refine W_opsM ?_; simp only [go_sem])
  refine WO_call rfl rfl ?_
  refine (order2_ok hF hs2 (x := x1) (y := y2) (by omega) (by omega) ho2 (by omega)).mono ?_
  rintro _ h3 ⟨x3, y3, c3, rfl, hxy3, hc3, hu3, ho3⟩
  simp only [go_sem]
  refine W_seq ?_
  (refine W_opsM ?_; simp only [go_sem])
  refine W_ret ?_
  exact (fin_updV (v := .int .i64 (y3 : Int)) ((hu1.trans hu2).trans hu3) ho3 rfl rfl).mono fun r h' ⟨g1, g2, g3⟩ => ⟨y3, c3, g1, by omega, by omega, g2, g3⟩
theorem medianAdj_ok (hs : SIn F g h0 h b d lt D) {x c sb : Nat} (hx0 : 0 < x) (hx : x + 1 < d.size) (hc : Own .i64 h 3 sb [(c : Int)]) (hcb : c < 90) (hsb : h0.next ≤ sb) :
    WV F (.fn (.func 119) [] []) [.msl 3 b 0 d.size, .int .i64 x, .ptr sb 0, g] h (fun r h' => ∃ (m c' : Nat), r = .val (.int .i64 m) ∧ x - 1 ≤ m ∧ m ≤ x + 1 ∧ c' ≤ c + 3 ∧ Upd h h' sb ∧ Own .i64 h' 3 sb [(c' : Int)]) := by
  have hz := hs.sz
  refine Kent119 hF ?_
  refine W_seq ?_
  (refine W_opsM ?_; simp only [go_sem])
  refine W_seq ?_
  (refine W_opsM ?_; simp (disch := omega) only [wrap_i64, go_sem])
  refine WO_call rfl rfl ?_
  have e1 : (x : Int) - 1 = ((x - 1 : Nat) : Int) := by omega
  rw [e1]
  refine (median_ok hF hs.ent (x := x - 1) (y := x) (z := x + 1) (by omega) (by omega) (by omega) (hc.ext (Ext.ent h)) hcb hsb).mono ?_
  rintro _ h1 ⟨m, c1, rfl, hm, hc1, hu1, ho1⟩
  simp only [go_sem]
  refine W_ret ?_
  exact (fin_updV (v := .int .i64 (m : Int)) hu1 ho1 rfl rfl).mono fun r h' ⟨g1, g2, g3⟩ => ⟨m, c1, g1, by omega, by omega, by omega, g2, g3⟩
/-- the pivot: somewhere in the part -/
theorem pivot_ok (hs : SIn F g h0 h b d lt D) (hab : a + 8 ≤ bn) (hb : bn ≤ d.size) :
    WV F (.fn (.func 106) [] []) [.msl 3 b 0 d.size, .int .i64 a, .int .i64 bn, g] h (fun r h' => h' = h ∧ ∃ (m : Nat) (hint : Int), r = .val (.tup [.int .i64 m, .int .i64 hint]) ∧ a ≤ m ∧ m < bn) := by
  have hz := hs.sz
  refine Kent106 hF ?_
  refine W_seq ?_
  (refine W_opsM ?_; simp only [go_sem])
  refine W_seq ?_
  (refine W_opsM ?_; simp (disch := omega) only [wrap_i64, go_sem])
  have e1 : (bn : Int) - a = ((bn - a : Nat) : Int) := by omega
  rw [e1]
  have hq : Int.tdiv ((bn - a : Nat) : Int) 4 = (((bn - a) / 4 : Nat) : Int) := by rw [Int.tdiv_eq_ediv_of_nonneg (by omega)]; omega
  refine W_seq ?_
  (refine W_opsM ?_; simp only [go_sem])
  have hs1 := hs.ent.push (.row [.int .i64 0] 3)
  have hc1 := Own.one (k := .i64) h.ent 3 0
  simp only [ent_next] at hc1
  have hu0 : h.next ≤ (h.ent.push (.row [.int .i64 0] 3)).low := by rw [low_push, ent_low]; exact Nat.le_refl _
  generalize h.ent.push _ = h1 at *
  refine W_seq ?_
  (refine W_opsM ?_; simp (disch := omega) only [wrap_i64, go_sem, bin_quo, hq, ent_next])
  refine W_seq ?_
  (refine W_opsM ?_; simp (disch := omega) only [wrap_i64, go_sem, bin_quo, hq])
  refine W_seq ?_
  (refine W_opsM ?_; simp (disch := omega) only [wrap_i64, go_sem, bin_quo, hq])
  generalize hl : (bn - a) / 4 = q at *
  refine W_seq ?_
  refine W_seq ?_
  (refine W_opsM ?_; simp only [go_sem])
  generalize hQ : seqQ F Ko106_26 _ = Q
  have hk : ∀ (m c : Nat) (h2 : Heap) (j4 j5 j6 j7 j10 j11 j12 j13 : AV), a ≤ m → m < bn → h.next ≤ h2.low → Own .i64 h2 3 h.next [(c : Int)] → Q .normal ⟨[.msl 3 b 0 d.size, .int .i64 a, .int .i64 bn, g, j4, j5, j6, j7, .ptr h.next 0, .int .i64 m, j10, j11, j12, j13, .int .i64 0, .int .i64 0], h2, []⟩ := by
    intro m c h2 j4 j5 j6 j7 j10 j11 j12 j13 hm1 hm2 hl2 ho2
    subst hQ
    simp only [go_sem]
    refine W_seq ?_
    (refine W_opsM ?_; simp only [go_sem, ho2.load (i := 0) (by simp), List.getElem_cons_zero])
    refine W_blk ?_
    refine W_seq ?_
    (refine W_opsM ?_; simp only [go_sem])
    refine W_cndP rfl (fun hc1 => ?_) (fun hc1 => ?_)
    · refine W_seq ?_
      (refine W_opsM ?_; simp only [go_sem])
      refine W_ret ?_
      simp only [go_sem]
      exact fin_out hl2 rfl rfl rfl ⟨rfl, m, 1, rfl, hm1, hm2⟩
    · refine W_seq ?_
      (refine W_opsM ?_; simp only [go_sem])
      refine W_cndP rfl (fun hc1 => ?_) (fun hc1 => ?_)
      · refine W_seq ?_
        (refine W_opsM ?_; simp only [go_sem])
        refine W_ret ?_
        simp only [go_sem]
        exact fin_out hl2 rfl rfl rfl ⟨rfl, m, 2, rfl, hm1, hm2⟩
      · refine W_seq ?_
        (refine W_opsM ?_; simp only [go_sem])
        refine W_ret ?_
        simp only [go_sem]
        exact fin_out hl2 rfl rfl rfl ⟨rfl, m, 0, rfl, hm1, hm2⟩
  have i1 : (a : Int) + ↑q * 1 = ((a + q : Nat) : Int) := by omega
  have i2 : (a : Int) + ↑q * 2 = ((a + q * 2 : Nat) : Int) := by omega
  have i3 : (a : Int) + ↑q * 3 = ((a + q * 3 : Nat) : Int) := by omega
  rw [i1, i2, i3]
  have hbl : h0.next ≤ h.next := hs.nx
  refine W_cndP rfl (fun hc2 => ?_) (fun hc2 => ?_)
  · refine W_seq ?_
    refine W_seq ?_
    (refine W_opsM ?_; simp only [go_sem])
    generalize hQ2 : seqQ F Ko106_25 _ = Q2
    have hk2 : ∀ (x y z c : Nat) (h2 : Heap) (j4 j5 j6 j11 j12 j13 : AV), a ≤ x → x < bn → a ≤ y → y < bn → a ≤ z → z < bn → c < 90 → h.next ≤ h2.low → SIn F g h0 h2 b d lt D → Own .i64 h2 3 h.next [(c : Int)] → Q2 .normal ⟨[.msl 3 b 0 d.size, .int .i64 a, .int .i64 bn, g, j4, j5, j6, .int .i64 x, .ptr h.next 0, .int .i64 y, .int .i64 z, j11, j12, j13, .int .i64 0, .int .i64 0], h2, []⟩ := by
      intro x y z c h2 j4 j5 j6 j11 j12 j13 hx1 hx2 hy1 hy2 hz1 hz2 hcc hl2 hs2 ho2
      subst hQ2
      simp only [go_sem]
      (refine W_opsM ?_; simp only [go_sem])
      refine WO_call rfl rfl ?_
      refine (median_ok hF hs2 (x := x) (y := y) (z := z) (by omega) (by omega) (by omega) ho2 hcc hbl).mono ?_
      rintro _ h3 ⟨m, c3, rfl, hm, hc3, hu3, ho3⟩
      simp only [go_sem]
      have := hu3.low
      have hn2 := hs2.nx
      have := ho2.1
      exact hk m c3 h3 _ _ _ _ _ _ _ _ (by omega) (by omega) (by omega) ho3
    refine W_cndP rfl (fun hc3 => ?_) (fun hc3 => ?_)
    · refine W_seq ?_
      (refine W_opsM ?_; simp only [go_sem])
      refine WO_call rfl rfl ?_
      have hc0 : Own .i64 h1 3 h.next [((0 : Nat) : Int)] := hc1
      refine (medianAdj_ok hF hs1 (x := a + q) (c := 0) (by omega) (by omega) hc0 (by omega) hbl).mono ?_
      rintro _ h2 ⟨m1, c1, rfl, hm1, hm1', hcc1, hu1, ho1⟩
      simp only [go_sem]
      have hs2 := hs1.other hbl hu1
      refine W_seq ?_
      (refine W_opsM ?_; simp only [go_sem])
      refine WO_call rfl rfl ?_
      refine (medianAdj_ok hF hs2 (x := a + q * 2) (c := c1) (by omega) (by omega) ho1 (by omega) hbl).mono ?_
      rintro _ h3 ⟨m2, c2, rfl, hm2, hm2', hcc2, hu2, ho2⟩
      simp only [go_sem]
      have hs3 := hs2.other hbl hu2
      (refine W_opsM ?_; simp only [go_sem])
      refine WO_call rfl rfl ?_
      refine (medianAdj_ok hF hs3 (x := a + q * 3) (c := c2) (by omega) (by omega) ho2 (by omega) hbl).mono ?_
      rintro _ h4 ⟨m3, c3, rfl, hm3, hm3', hcc3, hu3, ho3⟩
      simp only [go_sem]
      have hs4 := hs3.other hbl hu3
      have l1 := hu1.low
      have l2 := hu2.low
      have l3 := hu3.low
      have n1 := hc1.1
      have n2 := ho1.1
      have n3 := ho2.1
      exact hk2 m1 m2 m3 c3 h4 _ _ _ _ _ _ (by omega) (by omega) (by omega) (by omega) (by omega) (by omega) (by omega) (by omega) hs4 ho3
    · refine W_nop ?_
      exact hk2 (a + q) (a + q * 2) (a + q * 3) 0 h1 _ _ _ _ _ _ (by omega) (by omega) (by omega) (by omega) (by omega) (by omega) (by omega) hu0 hs1 hc1
  · omega
end
end Go.Proofs.YtnkcimeebobjaaaDoor.fitKnown
namespace Go.Proofs.YtnkcimeebobjaaaDoor.fitKnown
open Hx Go
set_option maxRecDepth 100000
attribute [local irreducible] cSeq cOps cPre cCnd cBlk cLoop cScope cExit cRet cNop cRng Heap.ent Heap.setLow
section
variable {F : Nat → Nat → CallFn} (hF : IsEv KC Kt F)
include hF
open Go.Sort
variable {g : AV} {h0 h : Heap} {b : Nat} {d : Array Int} {lt : Int → Int → Bool} {D : Int → Prop} {a bn : Nat}
theorem sift_ok (hs : SIn F g h0 h b d lt D) {lo hi first : Nat} (hlo : lo < d.size) (hhi : first + hi ≤ d.size) :
    WV F (.fn (.func 116) [] []) [.msl 3 b 0 d.size, .int .i64 lo, .int .i64 hi, .int .i64 first, g] h (fun r h' => r = .val (.tup []) ∧ Upd h h' b ∧ Own .i64 h' 3 b (siftDown lt hi first lo d).toList ∧ PermIn 0 d.size d (siftDown lt hi first lo d)) := by
  have hz := hs.sz
  refine Kent116 hF ?_
  refine W_seq ?_
  (refine W_opsM ?_; simp only [go_sem])
  refine W_blk ?_
  refine W_loop (fun k s => ∃ (r : Nat) (d1 : Array Int) (h1 : Heap) (j1 j6 j7 j8 j9 : AV), k = d.size - r ∧ r < d.size ∧ d1.size = d.size ∧ SIn F g h0 h1 b d1 lt D ∧ Upd h.ent h1 b ∧ PermIn 0 d.size d d1 ∧ siftDown lt hi first r d1 = siftDown lt hi first lo d ∧
    s = ⟨[.msl 3 b 0 d.size, j1, .int .i64 (hi : Int), .int .i64 (first : Int), g, .int .i64 (r : Int), j6, j7, j8, j9], h1, []⟩) ?_ (k := d.size - lo) ⟨lo, d, _, _, _, _, _, _, rfl, hlo, rfl, hs.ent, Upd.refl _ _, permIn_refl _ _ _, rfl, rfl⟩
  rintro k s ⟨r, d1, h1, j1, j6, j7, j8, j9, rfl, hr, hz1, hs1, hu1, hp1, he1, rfl⟩
  refine W_blk ?_
  refine W_seq ?_
  (refine W_opsM ?_; simp (disch := omega) only [wrap_i64, go_sem])
  refine W_seq ?_
  refine W_seq ?_
  (refine W_opsM ?_; simp only [go_sem])
  refine W_cndP rfl (fun hc1 => ?_) (fun hc1 => ?_)
  · refine W_exit ?_
    simp only [go_sem, Nat.reduceEqDiff]
    have he2 : siftDown lt hi first r d1 = d1 := by rw [siftDown, dif_pos (by omega)]
    refine (fin_updN hu1 hs1.own rfl).mono fun r h' ⟨g1, g2, g3⟩ => ⟨g1, g2, ?_, ?_⟩
    · rw [← he1, he2]; exact g3
    · rw [← he1, he2]; exact hp1
  (refine W_nop ?_; simp only [go_sem])
  have hch : 2 * r + 1 < hi := by omega
  refine W_seq ?_
  refine W_seq ?_
  generalize hQ : seqQ F Ko116_14 _ = Q
  have hk : ∀ (t : Bool) (j1 j7 j9 : AV), t = (decide (2 * r + 2 < hi) && lt d1[first + (2 * r + 1)]! d1[first + (2 * r + 2)]!) → Q .normal ⟨[.msl 3 b 0 d.size, j1, .int .i64 (hi : Int), .int .i64 (first : Int), g, .int .i64 (r : Int), .int .i64 ((2 * r + 1 : Nat) : Int), j7, .bool t, j9], h1, []⟩ := by
    intro t j1 j7 j9 ht
    subst hQ
    simp only [go_sem]
    generalize hQ : seqQ F Ko116_16 _ = Q
    have hk2 : ∀ (c : Nat) (j1 j7 j8 j9 : AV), r < c → c < hi → siftDown lt hi first r d1 = (if !lt d1[first + r]! d1[first + c]! then d1 else siftDown lt hi first c (swp d1 (first + r) (first + c))) → Q .normal ⟨[.msl 3 b 0 d.size, j1, .int .i64 (hi : Int), .int .i64 (first : Int), g, .int .i64 (r : Int), .int .i64 (c : Int), j7, j8, j9], h1, []⟩ := by
      intro c j1 j7 j8 j9 hrc hch2 heq
      subst hQ
      simp only [go_sem]
      refine W_seq ?_
      refine W_seq ?_
      have i1 : (first : Int) + r = ((first + r : Nat) : Int) := by omega
      have i2 : (first : Int) + c = ((first + c : Nat) : Int) := by omega
      have x1 : first + r < d.size := by omega
      have x2 : first + c < d.size := by omega
      have y1 : first + r < d1.size := by omega
      have y2 : first + c < d1.size := by omega
      (refine W_pre ?_; simp (disch := omega) only [wrap_i64, go_sem, i1, i2, ixs_msl x1, ixs_msl x2, hs1.own.loadA y1, hs1.own.loadA y2])
      refine WT_call rfl rfl ?_
      refine (hs1.call y1 y2).mono ?_
      rintro _ _ ⟨rfl, v, rfl, hv⟩
      by_cases hv0 : v < 0
      · have hlt := hv.1 hv0
        rw [hlt] at heq
        simp (disch := omega) only [go_sem, hv0]
        refine W_cnd rfl (fun h => by cases h) (fun _ => ?_)
        (refine W_nop ?_; simp only [go_sem])
        refine W_seq ?_
        (refine W_pre ?_; simp (disch := omega) only [wrap_i64, go_sem, i1, i2, ixs_msl x1, ixs_msl x2, hs1.own.loadA y1, hs1.own.loadA y2, swp1 hs1.own y1, swp2 hs1.own y2])
        (refine W_opsM ?_; simp (disch := omega) only [go_sem])
        exact ⟨_, by omega, c, _, _, _, _, _, _, _, rfl, by omega, by rw [swp_size, hz1], hs1.swp y1 y2 _, hu1.put.put, permIn_trans _ _ _ _ _ hp1 (swp_permIn _ _ _ _ _ (Nat.zero_le _) (by omega) (Nat.zero_le _) (by omega) (by omega)), by rw [← he1, heq]; rfl, rfl⟩
      · have hlt : lt d1[first + r]! d1[first + c]! = false := Bool.eq_false_iff.2 fun h => hv0 (hv.2 h)
        rw [hlt] at heq
        simp (disch := omega) only [go_sem, hv0]
        refine W_cnd rfl (fun _ => ?_) (fun h => by cases h)
        refine W_ret ?_
        simp only [go_sem]
        have he2 : siftDown lt hi first r d1 = d1 := heq
        refine (fin_upd hu1 hs1.own rfl).mono fun r h' ⟨g1, g2, g3⟩ => ⟨g1, g2, ?_, ?_⟩
        · rw [← he1, he2]; exact g3
        · rw [← he1, he2]; exact hp1
    refine W_cnd (t := t) rfl (fun hb => ?_) (fun hb => ?_)
    · rw [hb] at ht
      (refine W_opsM ?_; simp (disch := omega) only [wrap_i64, go_sem])
      exact hk2 (2 * r + 2) _ _ _ _ (by omega) (by simp at ht; omega) (by
        rw [siftDown, dif_neg (by omega), if_pos (by rw [show first + (2 * r + 1) + 1 = first + (2 * r + 2) by omega]; exact ht.symm)]
        simp only [Bool.true_eq, Bool.and_eq_true, decide_eq_true_eq] at ht
        rw [dif_pos ht.1])
    · rw [hb] at ht
      refine W_nop ?_
      exact hk2 (2 * r + 1) _ _ _ _ (by omega) (by omega) (by
        rw [siftDown, dif_neg (by omega), if_neg (by rw [show first + (2 * r + 1) + 1 = first + (2 * r + 2) by omega]; show ¬ (decide (2 * r + 2 < hi) && _) = true; rw [← ht]; simp)])
  have i1 : (first : Int) + ((2 * r + 1 : Nat) : Int) = ((first + (2 * r + 1) : Nat) : Int) := by omega
  have i0 : 2 * (r : Int) + 1 = ((2 * r + 1 : Nat) : Int) := by omega
  have i2 : ((first + (2 * r + 1) : Nat) : Int) + 1 = ((first + (2 * r + 2) : Nat) : Int) := by omega
  rw [i0]
  by_cases hp : ((2 * r + 1 : Nat) : Int) + 1 < (hi : Int)
  · have x1 : first + (2 * r + 1) < d.size := by omega
    have x2 : first + (2 * r + 2) < d.size := by omega
    have y1 : first + (2 * r + 1) < d1.size := by omega
    have y2 : first + (2 * r + 2) < d1.size := by omega
    (refine W_pre ?_; simp (disch := omega) only [wrap_i64, go_sem, hp, i1, i2, ixs_msl x1, ixs_msl x2, hs1.own.loadA y1, hs1.own.loadA y2])
    refine WT_call rfl rfl ?_
    refine (hs1.call y1 y2).mono ?_
    rintro _ _ ⟨rfl, v, rfl, hv⟩
    simp (disch := omega) only [go_sem]
    refine hk _ _ _ _ ?_
    rw [decide_eq_true (show 2 * r + 2 < hi by omega), Bool.true_and]
    by_cases h5 : v < 0
    · rw [hv.1 h5]; simpa using h5
    · rw [show lt d1[first + (2 * r + 1)]! d1[first + (2 * r + 2)]! = false from Bool.eq_false_iff.2 fun h6 => h5 (hv.2 h6)]; simpa using h5
  · (refine W_pre ?_; simp (disch := omega) only [wrap_i64, go_sem, hp])
    exact hk false _ _ _ (by rw [decide_eq_false (by omega)]; rfl)
theorem heap_ok (hs : SIn F g h0 h b d lt D) (hab : a < bn) (hb : bn ≤ d.size) :
    WV F (.fn (.func 104) [] []) [.msl 3 b 0 d.size, .int .i64 a, .int .i64 bn, g] h (fun r h' => r = .val (.tup []) ∧ Upd h h' b ∧ Own .i64 h' 3 b (heapSort lt d a bn).toList) := by
  have hz := hs.sz
  refine Kent104 hF ?_
  refine W_seq ?_
  (refine W_opsM ?_; simp only [go_sem])
  refine W_seq ?_
  (refine W_opsM ?_; simp only [go_sem])
  refine W_seq ?_
  (refine W_opsM ?_; simp (disch := omega) only [wrap_i64, go_sem])
  have e0 : (bn : Int) - a = ((bn - a : Nat) : Int) := by omega
  rw [e0]
  generalize hn : bn - a = n at *
  have hn0 : 0 < n := by omega
  refine W_seq ?_
  refine W_seq ?_
  have e1 : Int.tdiv ((n : Int) - 1) 2 = (((n - 1) / 2 : Nat) : Int) := by rw [Int.tdiv_eq_ediv_of_nonneg (by omega)]; omega
  (refine W_opsM ?_; simp (disch := omega) only [wrap_i64, go_sem, bin_quo, e1])
  refine W_blk ?_
  refine W_loop (fun k s => ∃ (i : Nat) (d1 : Array Int) (h1 : Heap) (j1 j2 j6 j8 j9 : AV), k = i ∧ i ≤ (n - 1) / 2 + 1 ∧ d1.size = d.size ∧ SIn F g h0 h1 b d1 lt D ∧ Upd h.ent h1 b ∧ heapBuild lt n a i d1 = heapBuild lt n a ((n - 1) / 2 + 1) d ∧
    s = ⟨[.msl 3 b 0 d.size, j1, j2, g, .int .i64 (n : Int), .int .i64 ((i : Int) - 1), j6, .int .i64 (a : Int), j8, j9, .int .i64 0], h1, []⟩) ?_ (k := (n - 1) / 2 + 1) ⟨(n - 1) / 2 + 1, d, _, _, _, _, _, _, rfl, Nat.le_refl _, rfl, hs.ent, Upd.refl _ _, rfl, by rw [show (((n - 1) / 2 + 1 : Nat) : Int) - 1 = (((n - 1) / 2 : Nat) : Int) by omega]⟩
  rintro k s ⟨i, d1, h1, j1, j2, j6, j8, j9, rfl, hi, hz1, hs1, hu1, he1, rfl⟩
  refine W_seq ?_
  refine W_seq ?_
  (refine W_opsM ?_; simp only [go_sem])
  refine W_cndP rfl (fun hc1 => ?_) (fun hc1 => ?_)
  · (refine W_nop ?_; simp only [go_sem])
    obtain ⟨i, rfl⟩ : ∃ j, k = j + 1 := ⟨k - 1, by omega⟩
    have e2 : ((i + 1 : Nat) : Int) - 1 = (i : Int) := by omega
    rw [e2]
    refine W_seq ?_
    refine W_blk ?_
    (refine W_opsM ?_; simp only [go_sem])
    refine WO_call rfl rfl ?_
    rw [← hz1]
    refine (sift_ok hF hs1 (lo := i) (hi := n) (first := a) (by omega) (by omega)).mono ?_
    rintro _ h2 ⟨rfl, hu2, ho2, hp2⟩
    simp only [go_sem]
    (refine W_opsM ?_; simp (disch := omega) only [wrap_i64, go_sem])
    rw [hz1]
    exact ⟨i, by omega, i, _, h2, _, _, _, _, _, rfl, by omega, by rw [hp2.1, hz1], hs1.upd hu2 ho2 hp2, hu1.trans hu2, he1, rfl⟩
  (refine W_exit ?_; simp only [go_sem])
  have : k = 0 := by omega
  subst this
  have he2 : d1 = heapBuild lt n a ((n - 1) / 2 + 1) d := he1
  refine W_seq ?_
  (refine W_opsM ?_; simp (disch := omega) only [wrap_i64, go_sem])
  refine W_blk ?_
  refine W_loop (fun k s => ∃ (i : Nat) (d2 : Array Int) (h2 : Heap) (j1 j2 j4 j5 j6 j9 : AV), k = i ∧ i ≤ n ∧ d2.size = d.size ∧ SIn F g h0 h2 b d2 lt D ∧ Upd h.ent h2 b ∧ heapPop lt a i d2 = heapSort lt d a bn ∧
    s = ⟨[.msl 3 b 0 d.size, j1, j2, g, j4, j5, j6, .int .i64 (a : Int), .int .i64 ((i : Int) - 1), j9, .int .i64 0], h2, []⟩) ?_ (k := n) ⟨n, d1, _, _, _, _, _, _, _, rfl, Nat.le_refl _, hz1, hs1, hu1, by rw [heapSort, he2, hn], rfl⟩
  rintro k s ⟨i, d2, h2, j1, j2, j4, j5, j6, j9, rfl, hi, hz2, hs2, hu2, he3, rfl⟩
  refine W_seq ?_
  refine W_seq ?_
  (refine W_opsM ?_; simp only [go_sem])
  refine W_cndP rfl (fun hc1 => ?_) (fun hc1 => ?_)
  · (refine W_nop ?_; simp only [go_sem])
    obtain ⟨i, rfl⟩ : ∃ j, k = j + 1 := ⟨k - 1, by omega⟩
    have e2 : ((i + 1 : Nat) : Int) - 1 = (i : Int) := by omega
    rw [e2]
    refine W_seq ?_
    refine W_blk ?_
    refine W_seq ?_
    have i1 : (a : Int) + i = ((a + i : Nat) : Int) := by omega
    have x1 : a < d.size := by omega
    have x2 : a + i < d.size := by omega
    have y1 : a < d2.size := by omega
    have y2 : a + i < d2.size := by omega
    (refine W_pre ?_; simp (disch := omega) only [wrap_i64, go_sem, i1, ixs_msl x1, ixs_msl x2, hs2.own.loadA y1, hs2.own.loadA y2, swp1 hs2.own y1, swp2 hs2.own y2])
    (refine W_opsM ?_; simp only [go_sem])
    refine WO_call rfl rfl ?_
    have hs3 := hs2.swp y1 y2 (.row ((d2.setIfInBounds a d2[a + i]!).toList.map (.int .i64 ·)) 3)
    have hz3 : (swp d2 a (a + i)).size = d.size := by rw [swp_size, hz2]
    rw [← hz3]
    refine (sift_ok hF hs3 (lo := 0) (hi := i) (first := a) (by omega) (by omega)).mono ?_
    rintro _ h4 ⟨rfl, hu4, ho4, hp4⟩
    simp only [go_sem]
    (refine W_opsM ?_; simp (disch := omega) only [wrap_i64, go_sem])
    rw [hz3]
    exact ⟨i, by omega, i, _, h4, _, _, _, _, _, _, rfl, by omega, by rw [hp4.1, hz3], hs3.upd hu4 ho4 hp4, hu2.put.put.trans hu4, he3, rfl⟩
  (refine W_exit ?_; simp only [go_sem])
  have : k = 0 := by omega
  subst this
  rw [← he3]
  exact fin_updN hu2 hs2.own rfl
end
end Go.Proofs.YtnkcimeebobjaaaDoor.fitKnown
namespace Go.Proofs.YtnkcimeebobjaaaDoor.fitKnown
open Hx Go
set_option maxRecDepth 100000
attribute [local irreducible] cSeq cOps cPre cCnd cBlk cLoop cScope cExit cRet cNop cRng Heap.ent Heap.setLow
section
variable {F : Nat → Nat → CallFn} (hF : IsEv KC Kt F)
open Go.Sort
variable {g : AV} {h0 h : Heap} {b : Nat} {d : Array Int} {lt : Int → Int → Bool} {D : Int → Prop} {a : Nat}
theorem scan110_8 (hs : SIn F g h0 h b d lt D) {Q : Ex → St → Prop} {i j : Nat} {j2 j3 j7 j8 j9 j10 j11 j12 j13 j14 : AV} (ha : a < d.size) (_hi0 : a < i) (hij : i ≤ j + 1) (hj : j < d.size) (hq : ∀ (j2 j3 j7 j8 j9 j10 j11 j12 j13 j14 : AV), Q (.exit 0) ⟨[.msl 3 b 0 d.size, .int .i64 (a : Int), j2, j3, g, .int .i64 ((scanUp (fun x => lt x d[a]!) d j i : Nat) : Int), .int .i64 (j : Int), j7, j8, j9, j10, j11, j12, j13, j14], h, []⟩) :
    W F Ko110_8 ⟨[.msl 3 b 0 d.size, .int .i64 (a : Int), j2, j3, g, .int .i64 (i : Int), .int .i64 (j : Int), j7, j8, j9, j10, j11, j12, j13, j14], h, []⟩ Q := by
  have hz := hs.sz
  refine W_loop (fun k s => ∃ (x : Nat) (j2 j3 j7 j8 j9 j10 j11 j12 j13 j14 : AV), k = j + 1 - x ∧ i ≤ x ∧ x ≤ j + 1 ∧ scanUp (fun x => lt x d[a]!) d j x = scanUp (fun x => lt x d[a]!) d j i ∧ s = ⟨[.msl 3 b 0 d.size, .int .i64 (a : Int), j2, j3, g, .int .i64 (x : Int), .int .i64 (j : Int), j7, j8, j9, j10, j11, j12, j13, j14], h, []⟩) ?_ (k := j + 1 - i) ⟨i, _, _, _, _, _, _, _, _, _, _, rfl, Nat.le_refl _, hij, rfl, rfl⟩
  rintro k s ⟨x, j2, j3, j7, j8, j9, j10, j11, j12, j13, j14, rfl, hx1, hx2, he, rfl⟩
  refine W_seq ?_
  refine W_seq ?_
  have out : (scanUp (fun x => lt x d[a]!) d j x = x) → ∀ (j2 j3 j7 j8 j9 j10 j11 j12 j13 j14 : AV), Q (.exit 0) ⟨[.msl 3 b 0 d.size, .int .i64 (a : Int), j2, j3, g, .int .i64 (x : Int), .int .i64 (j : Int), j7, j8, j9, j10, j11, j12, j13, j14], h, []⟩ := by
    intro h2 j2 j3 j7 j8 j9 j10 j11 j12 j13 j14
    have := hq j2 j3 j7 j8 j9 j10 j11 j12 j13 j14
    rw [← he, h2] at this
    exact this
  by_cases hp : (x : Int) ≤ (j : Int)
  · have hx : x < d.size := by omega
    (refine W_pre ?_; simp (disch := omega) only [go_sem, hp, ixs_msl ha, ixs_msl hx, hs.own.loadA ha, hs.own.loadA hx])
    refine WT_call rfl rfl ?_
    refine (hs.call hx ha).mono ?_
    rintro _ _ ⟨rfl, v, rfl, hv⟩
    by_cases h5 : v < 0
    · have hlt := hv.1 h5
      have hst : scanUp (fun x => lt x d[a]!) d j x = scanUp (fun x => lt x d[a]!) d j (x + 1) := by rw [scanUp, if_pos (by simp [hlt]; omega)]
      simp (disch := omega) only [go_sem, h5]
      refine W_cnd rfl (fun _ => ?_) (fun h => by cases h)
      (refine W_nop ?_; simp only [go_sem])
      refine W_blk ?_
      (refine W_opsM ?_; simp (disch := omega) only [wrap_i64, go_sem])
      exact ⟨_, by omega, x + 1, _, _, _, _, _, _, _, _, _, _, rfl, by omega, by omega, by rw [← hst, he], rfl⟩
    · have hlt : lt d[x]! d[a]! = false := Bool.eq_false_iff.2 fun h6 => h5 (hv.2 h6)
      have hst : scanUp (fun x => lt x d[a]!) d j x = x := by rw [scanUp, if_neg (by simp [hlt])]
      simp (disch := omega) only [go_sem, h5]
      refine W_cnd rfl (fun h => by cases h) (fun _ => ?_)
      refine W_exit ?_
      rw [seqQ_exit, loopQ_exit]
      exact out hst _ _ _ _ _ _ _ _ _ _
  · have hst : scanUp (fun x => lt x d[a]!) d j x = x := by rw [scanUp, if_neg (by simp; omega)]
    (refine W_pre ?_; simp (disch := omega) only [go_sem, hp])
    refine W_cnd rfl (fun h => by cases h) (fun _ => ?_)
    refine W_exit ?_
    rw [seqQ_exit, loopQ_exit]
    exact out hst _ _ _ _ _ _ _ _ _ _
theorem scan110_17 (hs : SIn F g h0 h b d lt D) {Q : Ex → St → Prop} {i j : Nat} {j2 j3 j7 j8 j9 j10 j11 j12 j13 j14 : AV} (ha : a < d.size) (hi0 : a < i) (hij : i ≤ j + 1) (hj : j < d.size) (hq : ∀ (j2 j3 j7 j8 j9 j10 j11 j12 j13 j14 : AV), Q (.exit 2) ⟨[.msl 3 b 0 d.size, .int .i64 (a : Int), j2, j3, g, .int .i64 (i : Int), .int .i64 ((scanDown (fun x => !lt x d[a]!) d i j : Nat) : Int), j7, j8, j9, j10, j11, j12, j13, j14], h, []⟩) :
    W F Ko110_17 ⟨[.msl 3 b 0 d.size, .int .i64 (a : Int), j2, j3, g, .int .i64 (i : Int), .int .i64 (j : Int), j7, j8, j9, j10, j11, j12, j13, j14], h, []⟩ Q := by
  have hz := hs.sz
  refine W_loop (fun k s => ∃ (x : Nat) (j2 j3 j7 j8 j9 j10 j11 j12 j13 j14 : AV), k = x ∧ x ≤ j ∧ i ≤ x + 1 ∧ scanDown (fun x => !lt x d[a]!) d i x = scanDown (fun x => !lt x d[a]!) d i j ∧ s = ⟨[.msl 3 b 0 d.size, .int .i64 (a : Int), j2, j3, g, .int .i64 (i : Int), .int .i64 (x : Int), j7, j8, j9, j10, j11, j12, j13, j14], h, []⟩) ?_ (k := j) ⟨j, _, _, _, _, _, _, _, _, _, _, rfl, Nat.le_refl _, hij, rfl, rfl⟩
  rintro k s ⟨x, j2, j3, j7, j8, j9, j10, j11, j12, j13, j14, rfl, hx1, hx2, he, rfl⟩
  refine W_seq ?_
  refine W_seq ?_
  have out : (scanDown (fun x => !lt x d[a]!) d i k = k) → ∀ (j2 j3 j7 j8 j9 j10 j11 j12 j13 j14 : AV), Q (.exit 2) ⟨[.msl 3 b 0 d.size, .int .i64 (a : Int), j2, j3, g, .int .i64 (i : Int), .int .i64 (k : Int), j7, j8, j9, j10, j11, j12, j13, j14], h, []⟩ := by
    intro h2 j2 j3 j7 j8 j9 j10 j11 j12 j13 j14
    have := hq j2 j3 j7 j8 j9 j10 j11 j12 j13 j14
    rw [← he, h2] at this
    exact this
  by_cases hp : (i : Int) ≤ (k : Int)
  · have hx : k < d.size := by omega
    (refine W_pre ?_; simp (disch := omega) only [go_sem, hp, ixs_msl ha, ixs_msl hx, hs.own.loadA ha, hs.own.loadA hx])
    refine WT_call rfl rfl ?_
    refine (hs.call hx ha).mono ?_
    rintro _ _ ⟨rfl, v, rfl, hv⟩
    by_cases h5 : v < 0
    · have hlt := hv.1 h5
      have hst : scanDown (fun x => !lt x d[a]!) d i k = k := by cases k with | zero => rfl | succ y => rw [scanDown, if_neg (by simp [hlt])]
      simp (disch := omega) only [go_sem, h5]
      refine W_cnd rfl (fun h => by cases h) (fun _ => ?_)
      refine W_exit ?_
      rw [seqQ_exit, loopQ_exit]
      exact out hst _ _ _ _ _ _ _ _ _ _
    · have hlt : lt d[k]! d[a]! = false := Bool.eq_false_iff.2 fun h6 => h5 (hv.2 h6)
      obtain ⟨y, rfl⟩ : ∃ y, k = y + 1 := ⟨k - 1, by omega⟩
      have hst : scanDown (fun x => !lt x d[a]!) d i (y + 1) = scanDown (fun x => !lt x d[a]!) d i y := by rw [scanDown, if_pos (by simp [hlt]; omega)]
      simp (disch := omega) only [go_sem, h5]
      refine W_cnd rfl (fun _ => ?_) (fun h => by cases h)
      (refine W_nop ?_; simp only [go_sem])
      refine W_blk ?_
      have e1 : ((y + 1 : Nat) : Int) - 1 = (y : Int) := by omega
      (refine W_opsM ?_; simp (disch := omega) only [wrap_i64, go_sem, e1])
      exact ⟨y, by omega, y, _, _, _, _, _, _, _, _, _, _, rfl, by omega, by omega, by rw [← hst, he], rfl⟩
  · have hst : scanDown (fun x => !lt x d[a]!) d i k = k := by cases k with | zero => rfl | succ y => rw [scanDown, if_neg (by simp; omega)]
    (refine W_pre ?_; simp (disch := omega) only [go_sem, hp])
    refine W_cnd rfl (fun h => by cases h) (fun _ => ?_)
    refine W_exit ?_
    rw [seqQ_exit, loopQ_exit]
    exact out hst _ _ _ _ _ _ _ _ _ _
theorem scan110_44 (hs : SIn F g h0 h b d lt D) {Q : Ex → St → Prop} {i j : Nat} {j2 j3 j7 j8 j9 j10 j11 j12 j13 j14 : AV} (ha : a < d.size) (_hi0 : a < i) (hij : i ≤ j + 1) (hj : j < d.size) (hq : ∀ (j2 j3 j7 j8 j9 j10 j11 j12 j13 j14 : AV), Q (.exit 6) ⟨[.msl 3 b 0 d.size, .int .i64 (a : Int), j2, j3, g, .int .i64 ((scanUp (fun x => lt x d[a]!) d j i : Nat) : Int), .int .i64 (j : Int), j7, j8, j9, j10, j11, j12, j13, j14], h, []⟩) :
    W F Ko110_44 ⟨[.msl 3 b 0 d.size, .int .i64 (a : Int), j2, j3, g, .int .i64 (i : Int), .int .i64 (j : Int), j7, j8, j9, j10, j11, j12, j13, j14], h, []⟩ Q := by
  have hz := hs.sz
  refine W_loop (fun k s => ∃ (x : Nat) (j2 j3 j7 j8 j9 j10 j11 j12 j13 j14 : AV), k = j + 1 - x ∧ i ≤ x ∧ x ≤ j + 1 ∧ scanUp (fun x => lt x d[a]!) d j x = scanUp (fun x => lt x d[a]!) d j i ∧ s = ⟨[.msl 3 b 0 d.size, .int .i64 (a : Int), j2, j3, g, .int .i64 (x : Int), .int .i64 (j : Int), j7, j8, j9, j10, j11, j12, j13, j14], h, []⟩) ?_ (k := j + 1 - i) ⟨i, _, _, _, _, _, _, _, _, _, _, rfl, Nat.le_refl _, hij, rfl, rfl⟩
  rintro k s ⟨x, j2, j3, j7, j8, j9, j10, j11, j12, j13, j14, rfl, hx1, hx2, he, rfl⟩
  refine W_seq ?_
  refine W_seq ?_
  have out : (scanUp (fun x => lt x d[a]!) d j x = x) → ∀ (j2 j3 j7 j8 j9 j10 j11 j12 j13 j14 : AV), Q (.exit 6) ⟨[.msl 3 b 0 d.size, .int .i64 (a : Int), j2, j3, g, .int .i64 (x : Int), .int .i64 (j : Int), j7, j8, j9, j10, j11, j12, j13, j14], h, []⟩ := by
    intro h2 j2 j3 j7 j8 j9 j10 j11 j12 j13 j14
    have := hq j2 j3 j7 j8 j9 j10 j11 j12 j13 j14
    rw [← he, h2] at this
    exact this
  by_cases hp : (x : Int) ≤ (j : Int)
  · have hx : x < d.size := by omega
    (refine W_pre ?_; simp (disch := omega) only [go_sem, hp, ixs_msl ha, ixs_msl hx, hs.own.loadA ha, hs.own.loadA hx])
    refine WT_call rfl rfl ?_
    refine (hs.call hx ha).mono ?_
    rintro _ _ ⟨rfl, v, rfl, hv⟩
    by_cases h5 : v < 0
    · have hlt := hv.1 h5
      have hst : scanUp (fun x => lt x d[a]!) d j x = scanUp (fun x => lt x d[a]!) d j (x + 1) := by rw [scanUp, if_pos (by simp [hlt]; omega)]
      simp (disch := omega) only [go_sem, h5]
      refine W_cnd rfl (fun _ => ?_) (fun h => by cases h)
      (refine W_nop ?_; simp only [go_sem])
      refine W_blk ?_
      (refine W_opsM ?_; simp (disch := omega) only [wrap_i64, go_sem])
      exact ⟨_, by omega, x + 1, _, _, _, _, _, _, _, _, _, _, rfl, by omega, by omega, by rw [← hst, he], rfl⟩
    · have hlt : lt d[x]! d[a]! = false := Bool.eq_false_iff.2 fun h6 => h5 (hv.2 h6)
      have hst : scanUp (fun x => lt x d[a]!) d j x = x := by rw [scanUp, if_neg (by simp [hlt])]
      simp (disch := omega) only [go_sem, h5]
      refine W_cnd rfl (fun h => by cases h) (fun _ => ?_)
      refine W_exit ?_
      rw [seqQ_exit, loopQ_exit]
      exact out hst _ _ _ _ _ _ _ _ _ _
  · have hst : scanUp (fun x => lt x d[a]!) d j x = x := by rw [scanUp, if_neg (by simp; omega)]
    (refine W_pre ?_; simp (disch := omega) only [go_sem, hp])
    refine W_cnd rfl (fun h => by cases h) (fun _ => ?_)
    refine W_exit ?_
    rw [seqQ_exit, loopQ_exit]
    exact out hst _ _ _ _ _ _ _ _ _ _
theorem scan110_53 (hs : SIn F g h0 h b d lt D) {Q : Ex → St → Prop} {i j : Nat} {j2 j3 j7 j8 j9 j10 j11 j12 j13 j14 : AV} (ha : a < d.size) (hi0 : a < i) (hij : i ≤ j + 1) (hj : j < d.size) (hq : ∀ (j2 j3 j7 j8 j9 j10 j11 j12 j13 j14 : AV), Q (.exit 8) ⟨[.msl 3 b 0 d.size, .int .i64 (a : Int), j2, j3, g, .int .i64 (i : Int), .int .i64 ((scanDown (fun x => !lt x d[a]!) d i j : Nat) : Int), j7, j8, j9, j10, j11, j12, j13, j14], h, []⟩) :
    W F Ko110_53 ⟨[.msl 3 b 0 d.size, .int .i64 (a : Int), j2, j3, g, .int .i64 (i : Int), .int .i64 (j : Int), j7, j8, j9, j10, j11, j12, j13, j14], h, []⟩ Q := by
  have hz := hs.sz
  refine W_loop (fun k s => ∃ (x : Nat) (j2 j3 j7 j8 j9 j10 j11 j12 j13 j14 : AV), k = x ∧ x ≤ j ∧ i ≤ x + 1 ∧ scanDown (fun x => !lt x d[a]!) d i x = scanDown (fun x => !lt x d[a]!) d i j ∧ s = ⟨[.msl 3 b 0 d.size, .int .i64 (a : Int), j2, j3, g, .int .i64 (i : Int), .int .i64 (x : Int), j7, j8, j9, j10, j11, j12, j13, j14], h, []⟩) ?_ (k := j) ⟨j, _, _, _, _, _, _, _, _, _, _, rfl, Nat.le_refl _, hij, rfl, rfl⟩
  rintro k s ⟨x, j2, j3, j7, j8, j9, j10, j11, j12, j13, j14, rfl, hx1, hx2, he, rfl⟩
  refine W_seq ?_
  refine W_seq ?_
  have out : (scanDown (fun x => !lt x d[a]!) d i k = k) → ∀ (j2 j3 j7 j8 j9 j10 j11 j12 j13 j14 : AV), Q (.exit 8) ⟨[.msl 3 b 0 d.size, .int .i64 (a : Int), j2, j3, g, .int .i64 (i : Int), .int .i64 (k : Int), j7, j8, j9, j10, j11, j12, j13, j14], h, []⟩ := by
    intro h2 j2 j3 j7 j8 j9 j10 j11 j12 j13 j14
    have := hq j2 j3 j7 j8 j9 j10 j11 j12 j13 j14
    rw [← he, h2] at this
    exact this
  by_cases hp : (i : Int) ≤ (k : Int)
  · have hx : k < d.size := by omega
    (refine W_pre ?_; simp (disch := omega) only [go_sem, hp, ixs_msl ha, ixs_msl hx, hs.own.loadA ha, hs.own.loadA hx])
    refine WT_call rfl rfl ?_
    refine (hs.call hx ha).mono ?_
    rintro _ _ ⟨rfl, v, rfl, hv⟩
    by_cases h5 : v < 0
    · have hlt := hv.1 h5
      have hst : scanDown (fun x => !lt x d[a]!) d i k = k := by cases k with | zero => rfl | succ y => rw [scanDown, if_neg (by simp [hlt])]
      simp (disch := omega) only [go_sem, h5]
      refine W_cnd rfl (fun h => by cases h) (fun _ => ?_)
      refine W_exit ?_
      rw [seqQ_exit, loopQ_exit]
      exact out hst _ _ _ _ _ _ _ _ _ _
    · have hlt : lt d[k]! d[a]! = false := Bool.eq_false_iff.2 fun h6 => h5 (hv.2 h6)
      obtain ⟨y, rfl⟩ : ∃ y, k = y + 1 := ⟨k - 1, by omega⟩
      have hst : scanDown (fun x => !lt x d[a]!) d i (y + 1) = scanDown (fun x => !lt x d[a]!) d i y := by rw [scanDown, if_pos (by simp [hlt]; omega)]
      simp (disch := omega) only [go_sem, h5]
      refine W_cnd rfl (fun _ => ?_) (fun h => by cases h)
      (refine W_nop ?_; simp only [go_sem])
      refine W_blk ?_
      have e1 : ((y + 1 : Nat) : Int) - 1 = (y : Int) := by omega
      (refine W_opsM ?_; simp (disch := omega) only [wrap_i64, go_sem, e1])
      exact ⟨y, by omega, y, _, _, _, _, _, _, _, _, _, _, rfl, by omega, by omega, by rw [← hst, he], rfl⟩
  · have hst : scanDown (fun x => !lt x d[a]!) d i k = k := by cases k with | zero => rfl | succ y => rw [scanDown, if_neg (by simp; omega)]
    (refine W_pre ?_; simp (disch := omega) only [go_sem, hp])
    refine W_cnd rfl (fun h => by cases h) (fun _ => ?_)
    refine W_exit ?_
    rw [seqQ_exit, loopQ_exit]
    exact out hst _ _ _ _ _ _ _ _ _ _
theorem scan109_12 (hs : SIn F g h0 h b d lt D) {Q : Ex → St → Prop} {i j : Nat} {j2 j3 j7 j8 j9 j10 : AV} (ha : a < d.size) (_hi0 : a < i) (hij : i ≤ j + 1) (hj : j < d.size) (hq : ∀ (j2 j3 j7 j8 j9 j10 : AV), Q (.exit 2) ⟨[.msl 3 b 0 d.size, .int .i64 (a : Int), j2, j3, g, .int .i64 ((scanUp (fun x => !lt d[a]! x) d j i : Nat) : Int), .int .i64 (j : Int), j7, j8, j9, j10], h, []⟩) :
    W F Ko109_12 ⟨[.msl 3 b 0 d.size, .int .i64 (a : Int), j2, j3, g, .int .i64 (i : Int), .int .i64 (j : Int), j7, j8, j9, j10], h, []⟩ Q := by
  have hz := hs.sz
  refine W_loop (fun k s => ∃ (x : Nat) (j2 j3 j7 j8 j9 j10 : AV), k = j + 1 - x ∧ i ≤ x ∧ x ≤ j + 1 ∧ scanUp (fun x => !lt d[a]! x) d j x = scanUp (fun x => !lt d[a]! x) d j i ∧ s = ⟨[.msl 3 b 0 d.size, .int .i64 (a : Int), j2, j3, g, .int .i64 (x : Int), .int .i64 (j : Int), j7, j8, j9, j10], h, []⟩) ?_ (k := j + 1 - i) ⟨i, _, _, _, _, _, _, rfl, Nat.le_refl _, hij, rfl, rfl⟩
  rintro k s ⟨x, j2, j3, j7, j8, j9, j10, rfl, hx1, hx2, he, rfl⟩
  refine W_seq ?_
  refine W_seq ?_
  have out : (scanUp (fun x => !lt d[a]! x) d j x = x) → ∀ (j2 j3 j7 j8 j9 j10 : AV), Q (.exit 2) ⟨[.msl 3 b 0 d.size, .int .i64 (a : Int), j2, j3, g, .int .i64 (x : Int), .int .i64 (j : Int), j7, j8, j9, j10], h, []⟩ := by
    intro h2 j2 j3 j7 j8 j9 j10
    have := hq j2 j3 j7 j8 j9 j10
    rw [← he, h2] at this
    exact this
  by_cases hp : (x : Int) ≤ (j : Int)
  · have hx : x < d.size := by omega
    (refine W_pre ?_; simp (disch := omega) only [go_sem, hp, ixs_msl ha, ixs_msl hx, hs.own.loadA ha, hs.own.loadA hx])
    refine WT_call rfl rfl ?_
    refine (hs.call ha hx).mono ?_
    rintro _ _ ⟨rfl, v, rfl, hv⟩
    by_cases h5 : v < 0
    · have hlt := hv.1 h5
      have hst : scanUp (fun x => !lt d[a]! x) d j x = x := by rw [scanUp, if_neg (by simp [hlt])]
      simp (disch := omega) only [go_sem, h5]
      refine W_cnd rfl (fun h => by cases h) (fun _ => ?_)
      refine W_exit ?_
      rw [seqQ_exit, loopQ_exit]
      exact out hst _ _ _ _ _ _
    · have hlt : lt d[a]! d[x]! = false := Bool.eq_false_iff.2 fun h6 => h5 (hv.2 h6)
      have hst : scanUp (fun x => !lt d[a]! x) d j x = scanUp (fun x => !lt d[a]! x) d j (x + 1) := by rw [scanUp, if_pos (by simp [hlt]; omega)]
      simp (disch := omega) only [go_sem, h5]
      refine W_cnd rfl (fun _ => ?_) (fun h => by cases h)
      (refine W_nop ?_; simp only [go_sem])
      refine W_blk ?_
      (refine W_opsM ?_; simp (disch := omega) only [wrap_i64, go_sem])
      exact ⟨_, by omega, x + 1, _, _, _, _, _, _, rfl, by omega, by omega, by rw [← hst, he], rfl⟩
  · have hst : scanUp (fun x => !lt d[a]! x) d j x = x := by rw [scanUp, if_neg (by simp; omega)]
    (refine W_pre ?_; simp (disch := omega) only [go_sem, hp])
    refine W_cnd rfl (fun h => by cases h) (fun _ => ?_)
    refine W_exit ?_
    rw [seqQ_exit, loopQ_exit]
    exact out hst _ _ _ _ _ _
theorem scan109_21 (hs : SIn F g h0 h b d lt D) {Q : Ex → St → Prop} {i j : Nat} {j2 j3 j7 j8 j9 j10 : AV} (ha : a < d.size) (hi0 : a < i) (hij : i ≤ j + 1) (hj : j < d.size) (hq : ∀ (j2 j3 j7 j8 j9 j10 : AV), Q (.exit 4) ⟨[.msl 3 b 0 d.size, .int .i64 (a : Int), j2, j3, g, .int .i64 (i : Int), .int .i64 ((scanDown (fun x => lt d[a]! x) d i j : Nat) : Int), j7, j8, j9, j10], h, []⟩) :
    W F Ko109_21 ⟨[.msl 3 b 0 d.size, .int .i64 (a : Int), j2, j3, g, .int .i64 (i : Int), .int .i64 (j : Int), j7, j8, j9, j10], h, []⟩ Q := by
  have hz := hs.sz
  refine W_loop (fun k s => ∃ (x : Nat) (j2 j3 j7 j8 j9 j10 : AV), k = x ∧ x ≤ j ∧ i ≤ x + 1 ∧ scanDown (fun x => lt d[a]! x) d i x = scanDown (fun x => lt d[a]! x) d i j ∧ s = ⟨[.msl 3 b 0 d.size, .int .i64 (a : Int), j2, j3, g, .int .i64 (i : Int), .int .i64 (x : Int), j7, j8, j9, j10], h, []⟩) ?_ (k := j) ⟨j, _, _, _, _, _, _, rfl, Nat.le_refl _, hij, rfl, rfl⟩
  rintro k s ⟨x, j2, j3, j7, j8, j9, j10, rfl, hx1, hx2, he, rfl⟩
  refine W_seq ?_
  refine W_seq ?_
  have out : (scanDown (fun x => lt d[a]! x) d i k = k) → ∀ (j2 j3 j7 j8 j9 j10 : AV), Q (.exit 4) ⟨[.msl 3 b 0 d.size, .int .i64 (a : Int), j2, j3, g, .int .i64 (i : Int), .int .i64 (k : Int), j7, j8, j9, j10], h, []⟩ := by
    intro h2 j2 j3 j7 j8 j9 j10
    have := hq j2 j3 j7 j8 j9 j10
    rw [← he, h2] at this
    exact this
  by_cases hp : (i : Int) ≤ (k : Int)
  · have hx : k < d.size := by omega
    (refine W_pre ?_; simp (disch := omega) only [go_sem, hp, ixs_msl ha, ixs_msl hx, hs.own.loadA ha, hs.own.loadA hx])
    refine WT_call rfl rfl ?_
    refine (hs.call ha hx).mono ?_
    rintro _ _ ⟨rfl, v, rfl, hv⟩
    by_cases h5 : v < 0
    · have hlt := hv.1 h5
      obtain ⟨y, rfl⟩ : ∃ y, k = y + 1 := ⟨k - 1, by omega⟩
      have hst : scanDown (fun x => lt d[a]! x) d i (y + 1) = scanDown (fun x => lt d[a]! x) d i y := by rw [scanDown, if_pos (by simp [hlt]; omega)]
      simp (disch := omega) only [go_sem, h5]
      refine W_cnd rfl (fun _ => ?_) (fun h => by cases h)
      (refine W_nop ?_; simp only [go_sem])
      refine W_blk ?_
      have e1 : ((y + 1 : Nat) : Int) - 1 = (y : Int) := by omega
      (refine W_opsM ?_; simp (disch := omega) only [wrap_i64, go_sem, e1])
      exact ⟨y, by omega, y, _, _, _, _, _, _, rfl, by omega, by omega, by rw [← hst, he], rfl⟩
    · have hlt : lt d[a]! d[k]! = false := Bool.eq_false_iff.2 fun h6 => h5 (hv.2 h6)
      have hst : scanDown (fun x => lt d[a]! x) d i k = k := by cases k with | zero => rfl | succ y => rw [scanDown, if_neg (by simp [hlt])]
      simp (disch := omega) only [go_sem, h5]
      refine W_cnd rfl (fun h => by cases h) (fun _ => ?_)
      refine W_exit ?_
      rw [seqQ_exit, loopQ_exit]
      exact out hst _ _ _ _ _ _
  · have hst : scanDown (fun x => lt d[a]! x) d i k = k := by cases k with | zero => rfl | succ y => rw [scanDown, if_neg (by simp; omega)]
    (refine W_pre ?_; simp (disch := omega) only [go_sem, hp])
    refine W_cnd rfl (fun h => by cases h) (fun _ => ?_)
    refine W_exit ?_
    rw [seqQ_exit, loopQ_exit]
    exact out hst _ _ _ _ _ _
end
end Go.Proofs.YtnkcimeebobjaaaDoor.fitKnown
namespace Go.Proofs.YtnkcimeebobjaaaDoor.fitKnown
open Hx Go
set_option maxRecDepth 100000
attribute [local irreducible] cSeq cOps cPre cCnd cBlk cLoop cScope cExit cRet cNop cRng Heap.ent Heap.setLow
section
variable {F : Nat → Nat → CallFn} (hF : IsEv KC Kt F)
open Go.Sort
theorem scanUp_bd (p : Int → Bool) (d : Array Int) {i j : Nat} (h : i ≤ j + 1) : i ≤ scanUp p d j i ∧ scanUp p d j i ≤ j + 1 := by
  have := scanUp_spec p d j _ i rfl
  omega
theorem scanDown_bd (p : Int → Bool) (d : Array Int) {i j : Nat} (h : i ≤ j + 1) : i ≤ scanDown p d i j + 1 ∧ scanDown p d i j ≤ j := by
  have := scanDown_spec p d i j
  omega
theorem scan_lt (p q : Int → Bool) (hpq : ∀ x, p x = !q x) (d : Array Int) {i j u w : Nat} (_h : i ≤ j + 1) (hi : 0 < i) (hu : scanUp p d j i = u) (hw : scanDown q d u j = w) (hle : u ≤ w) : u < w := by
  have h1 := scanUp_spec p d j _ i rfl
  have h2 := scanDown_spec q d u j
  rw [hu] at h1
  rw [hw] at h2
  rcases Nat.lt_or_eq_of_le hle with h3 | h3
  · exact h3
  · exfalso
    subst h3
    have h4 := h1.2.2.2 (by omega)
    have h5 := h2.2.2.2 (by omega) (by omega)
    rw [hpq, h5] at h4
    cases h4
include hF
variable {g : AV} {h0 h : Heap} {b : Nat} {d : Array Int} {lt : Int → Int → Bool} {D : Int → Prop} {a bn pivot : Nat}
theorem part_ok (hs : SIn F g h0 h b d lt D) (_hpa : a ≤ pivot) (hpb : pivot < bn) (hb : bn ≤ d.size) (hlen : a + 2 ≤ bn) :
    WV F (.fn (.func 110) [] []) [.msl 3 b 0 d.size, .int .i64 a, .int .i64 bn, .int .i64 pivot, g] h (fun r h' => r = .val (.tup [.int .i64 (partition lt d a bn pivot).1, .bool (partition lt d a bn pivot).2.1]) ∧ Upd h h' b ∧ Own .i64 h' 3 b (partition lt d a bn pivot).2.2.toList) := by
  have hz := hs.sz
  refine Kent110 hF ?_
  refine W_seq ?_
  (refine W_opsM ?_; simp only [go_sem])
  refine W_seq ?_
  have x1 : a < d.size := by omega
  have x2 : pivot < d.size := by omega
  have hs' := hs.ent
  (refine W_pre ?_; simp (disch := omega) only [go_sem, ixs_msl x1, ixs_msl x2, hs'.own.loadA x1, hs'.own.loadA x2, swp1 hs'.own x1, swp2 hs'.own x2])
  have hs1 := hs'.swp x1 x2 (.row ((d.setIfInBounds a d[pivot]!).toList.map (.int .i64 ·)) 3)
  have hz1 : (swp d a pivot).size = d.size := swp_size d a pivot
  have hu1 := ((Upd.refl h.ent b).put (x := .row ((d.setIfInBounds a d[pivot]!).toList.map (.int .i64 ·)) 3)).put (x := .row ((swp d a pivot).toList.map (.int .i64 ·)) 3)
  unfold partition
  dsimp only
  generalize swp d a pivot = d1 at *
  generalize Heap.put (Heap.put h.ent b _) b _ = h1 at *
  refine W_seq ?_
  (refine W_opsM ?_; simp (disch := omega) only [wrap_i64, go_sem])
  have e0 : (bn : Int) - 1 = ((bn - 1 : Nat) : Int) := by omega
  have e1 : (a : Int) + 1 = ((a + 1 : Nat) : Int) := by omega
  rw [e0, e1]
  refine W_seq ?_
  refine W_blk ?_
  rw [← hz1]
  refine scan110_8 hs1 (by omega) (by omega) (by omega) (by omega) (fun j2 j3 j7 j8 j9 j10 j11 j12 j13 j14 => ?_)
  have b1 := scanUp_bd (fun x => lt x d1[a]!) d1 (i := a + 1) (j := bn - 1) (by omega)
  generalize hiu : scanUp (fun x => lt x d1[a]!) d1 (bn - 1) (a + 1) = iu at *
  simp only [go_sem]
  refine W_seq ?_
  refine W_blk ?_
  refine scan110_17 hs1 (by omega) (by omega) (by omega) (by omega) (fun j2 j3 j7 j8 j9 j10 j11 j12 j13 j14 => ?_)
  have b2 := scanDown_bd (fun x => !lt x d1[a]!) d1 (i := iu) (j := bn - 1) (by omega)
  generalize hjw : scanDown (fun x => !lt x d1[a]!) d1 iu (bn - 1) = jw at *
  simp only [go_sem]
  have y1 : a < d1.size := by omega
  have hlt := scan_lt (fun x => lt x d1[a]!) (fun x => !lt x d1[a]!) (fun x => by simp) d1 (i := a + 1) (j := bn - 1) (by omega) (by omega) hiu hjw
  refine W_seq ?_
  refine W_seq ?_
  (refine W_opsM ?_; simp only [go_sem])
  refine W_cndP rfl (fun hc1 => ?_) (fun hc1 => ?_)
  · have hc1' : iu > jw := by omega
    have y2 : jw < d1.size := by omega
    rw [if_pos hc1']
    refine W_seq ?_
    (refine W_pre ?_; simp (disch := omega) only [go_sem, ixs_msl y1, ixs_msl y2, hs1.own.loadA y1, hs1.own.loadA y2, swp1 hs1.own y2, swp2 hs1.own y1])
    refine W_seq ?_
    (refine W_opsM ?_; simp only [go_sem])
    refine W_ret ?_
    simp only [go_sem]
    exact fin_updV hu1.put.put (hs1.swp y2 y1 _).own rfl rfl
  (refine W_nop ?_; simp only [go_sem])
  have hc1' : ¬ iu > jw := by omega
  rw [if_neg hc1']
  have y2 : iu < d1.size := by omega
  have y3 : jw < d1.size := by omega
  refine W_seq ?_
  (refine W_pre ?_; simp (disch := omega) only [go_sem, ixs_msl y2, ixs_msl y3, hs1.own.loadA y2, hs1.own.loadA y3, swp1 hs1.own y2, swp2 hs1.own y3])
  have hs2 := hs1.swp y2 y3 (.row ((d1.setIfInBounds iu d1[jw]!).toList.map (.int .i64 ·)) 3)
  have hz2 : (swp d1 iu jw).size = d1.size := swp_size d1 iu jw
  have hu2 := (hu1.put (x := .row ((d1.setIfInBounds iu d1[jw]!).toList.map (.int .i64 ·)) 3)).put (x := .row ((swp d1 iu jw).toList.map (.int .i64 ·)) 3)
  generalize swp d1 iu jw = d2 at *
  generalize Heap.put (Heap.put h1 b _) b _ = h2 at *
  refine W_seq ?_
  (refine W_opsM ?_; simp (disch := omega) only [wrap_i64, go_sem])
  refine W_seq ?_
  (refine W_opsM ?_; simp (disch := omega) only [wrap_i64, go_sem])
  have e2 : (iu : Int) + 1 = ((iu + 1 : Nat) : Int) := by omega
  have e3 : (jw : Int) - 1 = ((jw - 1 : Nat) : Int) := by omega
  rw [e2, e3]
  refine W_seq ?_
  refine W_blk ?_
  rw [← hz2]
  refine W_loop (fun k s => ∃ (i j : Nat) (d3 : Array Int) (h3 : Heap) (j2 j3 j7 j8 j9 j10 j11 j12 j13 j14 : AV), k = j + 1 - i ∧ a < i ∧ i ≤ j + 1 ∧ a ≤ j ∧ j < bn ∧ d3.size = d2.size ∧ SIn F g h0 h3 b d3 lt D ∧ Upd h.ent h3 b ∧ partLoop lt a i j d3 = partLoop lt a (iu + 1) (jw - 1) d2 ∧
    s = ⟨[.msl 3 b 0 d2.size, .int .i64 (a : Int), j2, j3, g, .int .i64 (i : Int), .int .i64 (j : Int), j7, j8, j9, j10, j11, j12, j13, j14], h3, []⟩) ?_ (k := jw - 1 + 1 - (iu + 1)) ⟨iu + 1, jw - 1, d2, h2, _, _, _, _, _, _, _, _, _, _, rfl, by omega, by omega, by omega, by omega, rfl, hs2, hu2, rfl, rfl⟩
  rintro k s ⟨i, j, d3, h3, j2, j3, j7, j8, j9, j10, j11, j12, j13, j14, rfl, hai, hij, haj, hjb, hz3, hs3, hu3, he3, rfl⟩
  refine W_blk ?_
  refine W_seq ?_
  refine W_blk ?_
  rw [← hz3]
  refine scan110_44 hs3 (by omega) (by omega) (by omega) (by omega) (fun j2 j3 j7 j8 j9 j10 j11 j12 j13 j14 => ?_)
  have b3 := scanUp_bd (fun x => lt x d3[a]!) d3 (i := i) (j := j) (by omega)
  have hpl := partLoop_eq lt a i j d3
  generalize hiv : scanUp (fun x => lt x d3[a]!) d3 j i = iv at *
  simp only [go_sem]
  refine W_seq ?_
  refine W_blk ?_
  refine scan110_53 hs3 (by omega) (by omega) (by omega) (by omega) (fun j2 j3 j7 j8 j9 j10 j11 j12 j13 j14 => ?_)
  have b4 := scanDown_bd (fun x => !lt x d3[a]!) d3 (i := iv) (j := j) (by omega)
  generalize hjv : scanDown (fun x => !lt x d3[a]!) d3 iv j = jv at *
  simp only [go_sem]
  have z1 : a < d3.size := by omega
  have hlt2 := scan_lt (fun x => lt x d3[a]!) (fun x => !lt x d3[a]!) (fun x => by simp) d3 (i := i) (j := j) (by omega) (by omega) hiv hjv
  refine W_seq ?_
  refine W_seq ?_
  (refine W_opsM ?_; simp only [go_sem])
  refine W_cndP rfl (fun hc2 => ?_) (fun hc2 => ?_)
  · refine W_exit ?_
    simp only [go_sem, Nat.reduceEqDiff]
    have hc2' : iv > jv := by omega
    rw [if_pos hc2', he3] at hpl
    refine W_seq ?_
    have z2 : jv < d3.size := by omega
    (refine W_pre ?_; simp (disch := omega) only [go_sem, ixs_msl z1, ixs_msl z2, hs3.own.loadA z1, hs3.own.loadA z2, swp1 hs3.own z2, swp2 hs3.own z1])
    refine W_seq ?_
    (refine W_opsM ?_; simp only [go_sem])
    refine W_ret ?_
    rw [hpl]
    exact fin_updV hu3.put.put (hs3.swp z2 z1 _).own rfl rfl
  (refine W_nop ?_; simp only [go_sem])
  have hc2' : ¬ iv > jv := by omega
  rw [if_neg hc2'] at hpl
  have z2 : iv < d3.size := by omega
  have z3 : jv < d3.size := by omega
  refine W_seq ?_
  (refine W_pre ?_; simp (disch := omega) only [go_sem, ixs_msl z2, ixs_msl z3, hs3.own.loadA z2, hs3.own.loadA z3, swp1 hs3.own z2, swp2 hs3.own z3])
  refine W_seq ?_
  (refine W_opsM ?_; simp (disch := omega) only [wrap_i64, go_sem])
  (refine W_opsM ?_; simp (disch := omega) only [wrap_i64, go_sem])
  have e4 : (iv : Int) + 1 = ((iv + 1 : Nat) : Int) := by omega
  have e5 : (jv : Int) - 1 = ((jv - 1 : Nat) : Int) := by omega
  rw [e4, e5, hz3]
  exact ⟨_, by omega, iv + 1, jv - 1, _, _, _, _, _, _, _, _, _, _, _, _, rfl, by omega, by omega, by omega, by omega, by rw [swp_size, hz3], hs3.swp z2 z3 _, hu3.put.put, by rw [← hpl, he3], rfl⟩
theorem partEq_ok (hs : SIn F g h0 h b d lt D) (_hpa : a ≤ pivot) (hpb : pivot < bn) (hb : bn ≤ d.size) (hlen : a + 2 ≤ bn) :
    WV F (.fn (.func 109) [] []) [.msl 3 b 0 d.size, .int .i64 a, .int .i64 bn, .int .i64 pivot, g] h (fun r h' => r = .val (.int .i64 (partitionEqual lt d a bn pivot).1) ∧ Upd h h' b ∧ Own .i64 h' 3 b (partitionEqual lt d a bn pivot).2.toList) := by
  have hz := hs.sz
  refine Kent109 hF ?_
  refine W_seq ?_
  (refine W_opsM ?_; simp only [go_sem])
  refine W_seq ?_
  have x1 : a < d.size := by omega
  have x2 : pivot < d.size := by omega
  have hs' := hs.ent
  (refine W_pre ?_; simp (disch := omega) only [go_sem, ixs_msl x1, ixs_msl x2, hs'.own.loadA x1, hs'.own.loadA x2, swp1 hs'.own x1, swp2 hs'.own x2])
  have hs1 := hs'.swp x1 x2 (.row ((d.setIfInBounds a d[pivot]!).toList.map (.int .i64 ·)) 3)
  have hz1 : (swp d a pivot).size = d.size := swp_size d a pivot
  have hu1 := ((Upd.refl h.ent b).put (x := .row ((d.setIfInBounds a d[pivot]!).toList.map (.int .i64 ·)) 3)).put (x := .row ((swp d a pivot).toList.map (.int .i64 ·)) 3)
  unfold partitionEqual
  generalize swp d a pivot = d1 at *
  generalize Heap.put (Heap.put h.ent b _) b _ = h1 at *
  refine W_seq ?_
  (refine W_opsM ?_; simp (disch := omega) only [wrap_i64, go_sem])
  have e0 : (bn : Int) - 1 = ((bn - 1 : Nat) : Int) := by omega
  have e1 : (a : Int) + 1 = ((a + 1 : Nat) : Int) := by omega
  rw [e0, e1]
  refine W_seq ?_
  refine W_blk ?_
  rw [← hz1]
  refine W_loop (fun k s => ∃ (i j : Nat) (d3 : Array Int) (h3 : Heap) (j2 j3 j7 j8 j9 j10 : AV), k = j + 1 - i ∧ a < i ∧ i ≤ j + 1 ∧ a ≤ j ∧ j < bn ∧ d3.size = d1.size ∧ SIn F g h0 h3 b d3 lt D ∧ Upd h.ent h3 b ∧ partEqLoop lt a i j d3 = partEqLoop lt a (a + 1) (bn - 1) d1 ∧
    s = ⟨[.msl 3 b 0 d1.size, .int .i64 (a : Int), j2, j3, g, .int .i64 (i : Int), .int .i64 (j : Int), j7, j8, j9, j10], h3, []⟩) ?_ (k := bn - 1 + 1 - (a + 1)) ⟨a + 1, bn - 1, d1, h1, _, _, _, _, _, _, rfl, by omega, by omega, by omega, by omega, rfl, hs1, hu1, rfl, rfl⟩
  rintro k s ⟨i, j, d3, h3, j2, j3, j7, j8, j9, j10, rfl, hai, hij, haj, hjb, hz3, hs3, hu3, he3, rfl⟩
  refine W_blk ?_
  refine W_seq ?_
  refine W_blk ?_
  rw [← hz3]
  refine scan109_12 hs3 (by omega) (by omega) (by omega) (by omega) (fun j2 j3 j7 j8 j9 j10 => ?_)
  have b3 := scanUp_bd (fun x => !lt d3[a]! x) d3 (i := i) (j := j) (by omega)
  have hpl := partEqLoop_eq lt a i j d3
  generalize hiv : scanUp (fun x => !lt d3[a]! x) d3 j i = iv at *
  simp only [go_sem]
  refine W_seq ?_
  refine W_blk ?_
  refine scan109_21 hs3 (by omega) (by omega) (by omega) (by omega) (fun j2 j3 j7 j8 j9 j10 => ?_)
  have b4 := scanDown_bd (fun x => lt d3[a]! x) d3 (i := iv) (j := j) (by omega)
  generalize hjv : scanDown (fun x => lt d3[a]! x) d3 iv j = jv at *
  simp only [go_sem]
  have hlt2 := scan_lt (fun x => !lt d3[a]! x) (fun x => lt d3[a]! x) (fun x => by simp) d3 (i := i) (j := j) (by omega) (by omega) hiv hjv
  refine W_seq ?_
  refine W_seq ?_
  (refine W_opsM ?_; simp only [go_sem])
  refine W_cndP rfl (fun hc2 => ?_) (fun hc2 => ?_)
  · refine W_exit ?_
    simp only [go_sem, Nat.reduceEqDiff]
    have hc2' : iv > jv := by omega
    rw [if_pos hc2', he3] at hpl
    refine W_seq ?_
    (refine W_opsM ?_; simp only [go_sem])
    refine W_ret ?_
    rw [hpl]
    exact fin_updV hu3 hs3.own rfl rfl
  (refine W_nop ?_; simp only [go_sem])
  have hc2' : ¬ iv > jv := by omega
  rw [if_neg hc2'] at hpl
  have z2 : iv < d3.size := by omega
  have z3 : jv < d3.size := by omega
  refine W_seq ?_
  (refine W_pre ?_; simp (disch := omega) only [go_sem, ixs_msl z2, ixs_msl z3, hs3.own.loadA z2, hs3.own.loadA z3, swp1 hs3.own z2, swp2 hs3.own z3])
  refine W_seq ?_
  (refine W_opsM ?_; simp (disch := omega) only [wrap_i64, go_sem])
  (refine W_opsM ?_; simp (disch := omega) only [wrap_i64, go_sem])
  have e4 : (iv : Int) + 1 = ((iv + 1 : Nat) : Int) := by omega
  have e5 : (jv : Int) - 1 = ((jv - 1 : Nat) : Int) := by omega
  rw [e4, e5, hz3]
  exact ⟨_, by omega, iv + 1, jv - 1, _, _, _, _, _, _, _, _, rfl, by omega, by omega, by omega, by omega, by rw [swp_size, hz3], hs3.swp z2 z3 _, hu3.put.put, by rw [← hpl, he3], rfl⟩
end
end Go.Proofs.YtnkcimeebobjaaaDoor.fitKnown
namespace Go.Proofs.YtnkcimeebobjaaaDoor.fitKnown
open Hx Go
set_option maxRecDepth 100000
attribute [local irreducible] cSeq cOps cPre cCnd cBlk cLoop cScope cExit cRet cNop cRng Heap.ent Heap.setLow
section
variable {F : Nat → Nat → CallFn} (hF : IsEv KC Kt F)
open Go.Sort
variable {g : AV} {h0 hE h : Heap} {b : Nat} {d : Array Int} {lt : Int → Int → Bool} {D : Int → Prop} {a bn : Nat}
theorem pis17 (hs : SIn F g h0 h b d lt D) {Q : Ex → St → Prop} {i s : Nat} {j5 j7 j8 j9 j10 j11 j12 j13 j14 j15 j16 j17 j18 : AV} (hi0 : 0 < i) (hib : i ≤ bn) (hb : bn ≤ d.size) (hq : ∀ (r : Nat) (j5 j7 j8 j9 j10 j11 j12 j13 j14 j15 j16 j17 j18 : AV), r = scanSorted lt d bn i → i ≤ r → r ≤ bn → Q (.exit 2) ⟨[.msl 3 b 0 d.size, .int .i64 (a : Int), .int .i64 (bn : Int), g, .int .i64 (s : Int), j5, .int .i64 (r : Int), j7, j8, j9, j10, j11, j12, j13, j14, j15, j16, j17, j18], h, []⟩) :
    W F Ko108_17 ⟨[.msl 3 b 0 d.size, .int .i64 (a : Int), .int .i64 (bn : Int), g, .int .i64 (s : Int), j5, .int .i64 (i : Int), j7, j8, j9, j10, j11, j12, j13, j14, j15, j16, j17, j18], h, []⟩ Q := by
  have hz := hs.sz
  refine W_loop (fun k st => ∃ (x : Nat) (j5 j7 j8 j9 j10 j11 j12 j13 j14 j15 j16 j17 j18 : AV), k = bn - x ∧ i ≤ x ∧ x ≤ bn ∧ scanSorted lt d bn x = scanSorted lt d bn i ∧ st = ⟨[.msl 3 b 0 d.size, .int .i64 (a : Int), .int .i64 (bn : Int), g, .int .i64 (s : Int), j5, .int .i64 (x : Int), j7, j8, j9, j10, j11, j12, j13, j14, j15, j16, j17, j18], h, []⟩) ?_ (k := bn - i) ⟨i, _, _, _, _, _, _, _, _, _, _, _, _, _, rfl, Nat.le_refl _, hib, rfl, rfl⟩
  rintro k st ⟨x, j5, j7, j8, j9, j10, j11, j12, j13, j14, j15, j16, j17, j18, rfl, hx1, hx2, he, rfl⟩
  refine W_seq ?_
  refine W_seq ?_
  by_cases hp : (x : Int) < (bn : Int)
  · have hx : x < d.size := by omega
    have hy : x - 1 < d.size := by omega
    have e1 : (x : Int) - 1 = ((x - 1 : Nat) : Int) := by omega
    (refine W_pre ?_; simp (disch := omega) only [wrap_i64, go_sem, hp, e1, ixs_msl hx, ixs_msl hy, hs.own.loadA hx, hs.own.loadA hy])
    refine WT_call rfl rfl ?_
    refine (hs.call hx hy).mono ?_
    rintro _ _ ⟨rfl, v, rfl, hv⟩
    by_cases h5 : v < 0
    · have hst : scanSorted lt d bn x = x := by rw [scanSorted, if_neg (by simp [hv.1 h5])]
      simp (disch := omega) only [go_sem, h5]
      refine W_cnd rfl (fun h => by cases h) (fun _ => ?_)
      refine W_exit ?_
      rw [seqQ_exit, loopQ_exit]
      exact hq x _ _ _ _ _ _ _ _ _ _ _ _ _ (by rw [← he, hst]) hx1 hx2
    · have hlt : lt d[x]! d[x - 1]! = false := Bool.eq_false_iff.2 fun h6 => h5 (hv.2 h6)
      have hst : scanSorted lt d bn x = scanSorted lt d bn (x + 1) := by rw [scanSorted, if_pos (by simp [hlt]; omega)]
      simp (disch := omega) only [go_sem, h5]
      refine W_cnd rfl (fun _ => ?_) (fun h => by cases h)
      (refine W_nop ?_; simp only [go_sem])
      refine W_blk ?_
      (refine W_opsM ?_; simp (disch := omega) only [wrap_i64, go_sem])
      exact ⟨_, by omega, x + 1, _, _, _, _, _, _, _, _, _, _, _, _, _, rfl, by omega, by omega, by rw [← hst, he], rfl⟩
  · have hst : scanSorted lt d bn x = x := by rw [scanSorted, if_neg (by simp; omega)]
    (refine W_pre ?_; simp (disch := omega) only [go_sem, hp])
    refine W_cnd rfl (fun h => by cases h) (fun _ => ?_)
    refine W_exit ?_
    rw [seqQ_exit, loopQ_exit]
    exact hq x _ _ _ _ _ _ _ _ _ _ _ _ _ (by rw [← he, hst]) hx1 hx2
theorem pis45 (hs : SIn F g h0 h b d lt D) (hu : Upd hE h b) {Q : Ex → St → Prop} {i j s : Nat} {j5 j7 j8 j9 j10 j12 j13 j14 j15 j16 j17 j18 : AV} (hj : j < d.size) (hq : ∀ (h1 : Heap) (j5 j7 j8 j9 j10 j12 j13 j14 j15 j16 j17 j18 : AV), SIn F g h0 h1 b (shiftDown lt j d) lt D → Upd hE h1 b → (shiftDown lt j d).size = d.size → ∀ v : AV, Q (.exit 4) ⟨[.msl 3 b 0 d.size, .int .i64 (a : Int), .int .i64 (bn : Int), g, .int .i64 (s : Int), j5, .int .i64 (i : Int), j7, j8, j9, j10, v, j12, j13, j14, j15, j16, j17, j18], h1, []⟩) :
    W F Ko108_45 ⟨[.msl 3 b 0 d.size, .int .i64 (a : Int), .int .i64 (bn : Int), g, .int .i64 (s : Int), j5, .int .i64 (i : Int), j7, j8, j9, j10, .int .i64 (j : Int), j12, j13, j14, j15, j16, j17, j18], h, []⟩ Q := by
  have hz := hs.sz
  refine W_loop (fun k st => ∃ (x : Nat) (d1 : Array Int) (h1 : Heap) (j5 j7 j8 j9 j10 j12 j13 j14 j15 j16 j17 j18 : AV), k = x ∧ x ≤ j ∧ d1.size = d.size ∧ SIn F g h0 h1 b d1 lt D ∧ Upd hE h1 b ∧ shiftDown lt x d1 = shiftDown lt j d ∧ st = ⟨[.msl 3 b 0 d.size, .int .i64 (a : Int), .int .i64 (bn : Int), g, .int .i64 (s : Int), j5, .int .i64 (i : Int), j7, j8, j9, j10, .int .i64 (x : Int), j12, j13, j14, j15, j16, j17, j18], h1, []⟩) ?_ (k := j) ⟨j, d, h, _, _, _, _, _, _, _, _, _, _, _, _, rfl, Nat.le_refl _, rfl, hs, hu, rfl, rfl⟩
  rintro k st ⟨x, d1, h1, j5, j7, j8, j9, j10, j12, j13, j14, j15, j16, j17, j18, rfl, hx1, hz1, hs1, hu1, he, rfl⟩
  refine W_seq ?_
  refine W_seq ?_
  (refine W_opsM ?_; simp only [go_sem])
  refine W_cndP rfl (fun hc1 => ?_) (fun hc1 => ?_)
  · (refine W_nop ?_; simp only [go_sem])
    obtain ⟨y, rfl⟩ : ∃ y, k = y + 1 := ⟨k - 1, by omega⟩
    have hx : y + 1 < d.size := by omega
    have hy : y < d.size := by omega
    have hx1 : y + 1 < d1.size := by omega
    have hy1 : y < d1.size := by omega
    have e1 : ((y + 1 : Nat) : Int) - 1 = (y : Int) := by omega
    refine W_seq ?_
    refine W_blk ?_
    refine W_seq ?_
    refine W_seq ?_
    (refine W_pre ?_; simp (disch := omega) only [wrap_i64, go_sem, e1, ixs_msl hx, ixs_msl hy, hs1.own.loadA hx1, hs1.own.loadA hy1])
    refine WT_call rfl rfl ?_
    refine (hs1.call hx1 hy1).mono ?_
    rintro _ _ ⟨rfl, v, rfl, hv⟩
    by_cases h5 : v < 0
    · have hst : shiftDown lt (y + 1) d1 = shiftDown lt y (swp d1 (y + 1) y) := by rw [shiftDown, if_neg (by simp [hv.1 h5])]
      simp (disch := omega) only [go_sem, h5]
      refine W_cnd rfl (fun h => by cases h) (fun _ => ?_)
      (refine W_nop ?_; simp only [go_sem])
      (refine W_pre ?_; simp (disch := omega) only [wrap_i64, go_sem, e1, ixs_msl hx, ixs_msl hy, hs1.own.loadA hx1, hs1.own.loadA hy1, swp1 hs1.own hx1, swp2 hs1.own hy1])
      (refine W_opsM ?_; simp (disch := omega) only [wrap_i64, go_sem, e1])
      exact ⟨y, by omega, y, _, _, _, _, _, _, _, _, _, _, _, _, _, _, rfl, by omega, by rw [swp_size, hz1], hs1.swp hx1 hy1 _, hu1.put.put, by rw [← hst, he], rfl⟩
    · have hlt : lt d1[y + 1]! d1[y]! = false := Bool.eq_false_iff.2 fun h6 => h5 (hv.2 h6)
      have hst : shiftDown lt (y + 1) d1 = d1 := by rw [shiftDown, if_pos (by simp [hlt])]
      simp (disch := omega) only [go_sem, h5]
      refine W_cnd rfl (fun _ => ?_) (fun h => by cases h)
      (refine W_exit ?_; simp only [go_sem, Nat.reduceEqDiff])
      rw [← he, hst] at hq
      exact hq _ _ _ _ _ _ _ _ _ _ _ _ _ hs1 hu1 hz1 _
  · (refine W_exit ?_; simp only [go_sem])
    have : k = 0 := by omega
    subst this
    have he2 : d1 = shiftDown lt j d := he
    rw [← he2] at hq
    exact hq _ _ _ _ _ _ _ _ _ _ _ _ _ hs1 hu1 hz1 _
theorem pis64 (hs : SIn F g h0 h b d lt D) (hu : Upd hE h b) {Q : Ex → St → Prop} {i j s : Nat} {j5 j7 j8 j9 j10 j11 j12 j13 j14 j16 j17 j18 : AV} (hj0 : 0 < j) (hj : j ≤ bn) (hb : bn ≤ d.size) (hq : ∀ (h1 : Heap) (j5 j7 j8 j9 j10 j11 j12 j13 j14 j16 j17 j18 : AV), SIn F g h0 h1 b (shiftUp lt bn j d) lt D → Upd hE h1 b → (shiftUp lt bn j d).size = d.size → ∀ v : AV, Q (.exit 6) ⟨[.msl 3 b 0 d.size, .int .i64 (a : Int), .int .i64 (bn : Int), g, .int .i64 (s : Int), j5, .int .i64 (i : Int), j7, j8, j9, j10, j11, j12, j13, j14, v, j16, j17, j18], h1, []⟩) :
    W F Ko108_64 ⟨[.msl 3 b 0 d.size, .int .i64 (a : Int), .int .i64 (bn : Int), g, .int .i64 (s : Int), j5, .int .i64 (i : Int), j7, j8, j9, j10, j11, j12, j13, j14, .int .i64 (j : Int), j16, j17, j18], h, []⟩ Q := by
  have hz := hs.sz
  refine W_loop (fun k st => ∃ (x : Nat) (d1 : Array Int) (h1 : Heap) (j5 j7 j8 j9 j10 j11 j12 j13 j14 j16 j17 j18 : AV), k = bn - x ∧ 0 < x ∧ x ≤ bn ∧ d1.size = d.size ∧ SIn F g h0 h1 b d1 lt D ∧ Upd hE h1 b ∧ shiftUp lt bn x d1 = shiftUp lt bn j d ∧ st = ⟨[.msl 3 b 0 d.size, .int .i64 (a : Int), .int .i64 (bn : Int), g, .int .i64 (s : Int), j5, .int .i64 (i : Int), j7, j8, j9, j10, j11, j12, j13, j14, .int .i64 (x : Int), j16, j17, j18], h1, []⟩) ?_ (k := bn - j) ⟨j, d, h, _, _, _, _, _, _, _, _, _, _, _, _, rfl, hj0, hj, rfl, hs, hu, rfl, rfl⟩
  rintro k st ⟨x, d1, h1, j5, j7, j8, j9, j10, j11, j12, j13, j14, j16, j17, j18, rfl, hx0, hx1, hz1, hs1, hu1, he, rfl⟩
  refine W_seq ?_
  refine W_seq ?_
  (refine W_opsM ?_; simp only [go_sem])
  refine W_cndP rfl (fun hc1 => ?_) (fun hc1 => ?_)
  · (refine W_nop ?_; simp only [go_sem])
    have hxb : x < bn := by omega
    have hx : x < d.size := by omega
    have hy : x - 1 < d.size := by omega
    have hx1 : x < d1.size := by omega
    have hy1 : x - 1 < d1.size := by omega
    have e1 : (x : Int) - 1 = ((x - 1 : Nat) : Int) := by omega
    refine W_seq ?_
    refine W_blk ?_
    refine W_seq ?_
    refine W_seq ?_
    (refine W_pre ?_; simp (disch := omega) only [wrap_i64, go_sem, e1, ixs_msl hx, ixs_msl hy, hs1.own.loadA hx1, hs1.own.loadA hy1])
    refine WT_call rfl rfl ?_
    refine (hs1.call hx1 hy1).mono ?_
    rintro _ _ ⟨rfl, v, rfl, hv⟩
    by_cases h5 : v < 0
    · have hst : shiftUp lt bn x d1 = shiftUp lt bn (x + 1) (swp d1 x (x - 1)) := by rw [shiftUp, if_pos hxb, if_neg (by simp [hv.1 h5])]
      simp (disch := omega) only [go_sem, h5]
      refine W_cnd rfl (fun h => by cases h) (fun _ => ?_)
      (refine W_nop ?_; simp only [go_sem])
      (refine W_pre ?_; simp (disch := omega) only [wrap_i64, go_sem, e1, ixs_msl hx, ixs_msl hy, hs1.own.loadA hx1, hs1.own.loadA hy1, swp1 hs1.own hx1, swp2 hs1.own hy1])
      (refine W_opsM ?_; simp (disch := omega) only [wrap_i64, go_sem])
      exact ⟨_, by omega, x + 1, _, _, _, _, _, _, _, _, _, _, _, _, _, _, rfl, by omega, by omega, by rw [swp_size, hz1], hs1.swp hx1 hy1 _, hu1.put.put, by rw [← hst, he], rfl⟩
    · have hlt : lt d1[x]! d1[x - 1]! = false := Bool.eq_false_iff.2 fun h6 => h5 (hv.2 h6)
      have hst : shiftUp lt bn x d1 = d1 := by rw [shiftUp, if_pos hxb, if_pos (by simp [hlt])]
      simp (disch := omega) only [go_sem, h5]
      refine W_cnd rfl (fun _ => ?_) (fun h => by cases h)
      (refine W_exit ?_; simp only [go_sem, Nat.reduceEqDiff])
      rw [← he, hst] at hq
      exact hq _ _ _ _ _ _ _ _ _ _ _ _ _ hs1 hu1 hz1 _
  · (refine W_exit ?_; simp only [go_sem])
    have hst : shiftUp lt bn x d1 = d1 := by rw [shiftUp, if_neg (by omega)]
    rw [← he, hst] at hq
    exact hq _ _ _ _ _ _ _ _ _ _ _ _ _ hs1 hu1 hz1 _
theorem pis58 (hs : SIn F g h0 h b d lt D) (hu : Upd hE h b) {Q : Ex → St → Prop} {r s n : Nat} {j5 j7 j8 j9 j10 j11 j12 j13 j14 j15 j16 j17 j18 : AV} (hn : n = d.size) (hr0 : 0 < r) (hr : r < bn) (hb : bn ≤ d.size) (hq : ∀ (h1 : Heap) (j5 j7 j8 j9 j10 j11 j12 j13 j14 j15 j16 j17 j18 : AV), SIn F g h0 h1 b (if bn - r ≥ 2 then shiftUp lt bn (r + 1) d else d) lt D → Upd hE h1 b → (if bn - r ≥ 2 then shiftUp lt bn (r + 1) d else d).size = d.size → Q .normal ⟨[.msl 3 b 0 n, .int .i64 (a : Int), .int .i64 (bn : Int), g, .int .i64 (s : Int), j5, .int .i64 (r : Int), j7, j8, j9, j10, j11, j12, j13, j14, j15, j16, j17, j18], h1, []⟩) :
    W F Ko108_58 ⟨[.msl 3 b 0 n, .int .i64 (a : Int), .int .i64 (bn : Int), g, .int .i64 (s : Int), j5, .int .i64 (r : Int), j7, j8, j9, j10, j11, j12, j13, j14, j15, j16, j17, j18], h, []⟩ Q := by
  subst hn
  have hz := hs.sz
  refine W_seq ?_
  (refine W_opsM ?_; simp (disch := omega) only [wrap_i64, go_sem])
  refine W_cndP rfl (fun hc => ?_) (fun hc => ?_)
  · have hc' : bn - r ≥ 2 := by omega
    rw [if_pos hc'] at hq
    refine W_seq ?_
    (refine W_opsM ?_; simp (disch := omega) only [wrap_i64, go_sem])
    have e1 : (r : Int) + 1 = ((r + 1 : Nat) : Int) := by omega
    rw [e1]
    refine W_blk ?_
    refine pis64 hs hu (by omega) (by omega) hb (fun h1 j5 j7 j8 j9 j10 j11 j12 j13 j14 j16 j17 j18 hs1 hu1 hz1 v => ?_)
    simp only [go_sem]
    exact hq _ _ _ _ _ _ _ _ _ _ _ _ _ _ hs1 hu1 hz1
  · have hc' : ¬ bn - r ≥ 2 := by omega
    rw [if_neg hc'] at hq
    refine W_nop ?_
    exact hq _ _ _ _ _ _ _ _ _ _ _ _ _ _ hs hu rfl
theorem pis38 (hs : SIn F g h0 h b d lt D) (hu : Upd hE h b) {Q : Ex → St → Prop} {r s n : Nat} {j5 j7 j8 j9 j10 j11 j12 j13 j14 j15 j16 j17 j18 : AV} (hn : n = d.size) (hr0 : a < r) (hr : r < bn) (hb : bn ≤ d.size) {d5 : Array Int} (hd5 : d5 = if bn - r ≥ 2 then shiftUp lt bn (r + 1) (if r - a ≥ 2 then shiftDown lt (r - 1) d else d) else (if r - a ≥ 2 then shiftDown lt (r - 1) d else d)) (hq : ∀ (h1 : Heap) (j5 j7 j8 j9 j10 j11 j12 j13 j14 j15 j16 j17 j18 : AV), SIn F g h0 h1 b d5 lt D → Upd hE h1 b → d5.size = d.size → Q .normal ⟨[.msl 3 b 0 n, .int .i64 (a : Int), .int .i64 (bn : Int), g, .int .i64 (s : Int), j5, .int .i64 (r : Int), j7, j8, j9, j10, j11, j12, j13, j14, j15, j16, j17, j18], h1, []⟩) :
    W F Ko108_38 ⟨[.msl 3 b 0 n, .int .i64 (a : Int), .int .i64 (bn : Int), g, .int .i64 (s : Int), j5, .int .i64 (r : Int), j7, j8, j9, j10, j11, j12, j13, j14, j15, j16, j17, j18], h, []⟩ Q := by
  subst hn
  subst hd5
  have hz := hs.sz
  refine W_seq ?_
  refine W_seq ?_
  (refine W_opsM ?_; simp (disch := omega) only [wrap_i64, go_sem])
  refine W_cndP rfl (fun hc => ?_) (fun hc => ?_)
  · have hc' : r - a ≥ 2 := by omega
    rw [if_pos hc'] at hq
    refine W_seq ?_
    (refine W_opsM ?_; simp (disch := omega) only [wrap_i64, go_sem])
    have e1 : (r : Int) - 1 = ((r - 1 : Nat) : Int) := by omega
    rw [e1]
    refine W_blk ?_
    refine pis45 hs hu (by omega) (fun h1 j5 j7 j8 j9 j10 j12 j13 j14 j15 j16 j17 j18 hs1 hu1 hz1 v => ?_)
    simp only [go_sem]
    refine pis58 hs1 hu1 hz1.symm (by omega) hr (by omega) (fun h2 j5 j7 j8 j9 j10 j11 j12 j13 j14 j15 j16 j17 j18 hs2 hu2 hz2 => ?_)
    exact hq _ _ _ _ _ _ _ _ _ _ _ _ _ _ hs2 hu2 (hz2.trans hz1)
  · have hc' : ¬ r - a ≥ 2 := by omega
    rw [if_neg hc'] at hq
    (refine W_nop ?_; simp only [go_sem])
    refine pis58 hs hu rfl (by omega) hr (by omega) (fun h2 j5 j7 j8 j9 j10 j11 j12 j13 j14 j15 j16 j17 j18 hs2 hu2 hz2 => ?_)
    exact hq _ _ _ _ _ _ _ _ _ _ _ _ _ _ hs2 hu2 hz2
include hF
theorem pis_ok (hs : SIn F g h0 h b d lt D) (hab : a < bn) (hb : bn ≤ d.size) :
    WV F (.fn (.func 108) [] []) [.msl 3 b 0 d.size, .int .i64 a, .int .i64 bn, g] h (fun r h' => r = .val (.bool (partialInsertionSort lt d a bn).2) ∧ Upd h h' b ∧ Own .i64 h' 3 b (partialInsertionSort lt d a bn).1.toList) := by
  have hz := hs.sz
  refine Kent108 hF ?_
  refine W_seq ?_
  (refine W_opsM ?_; simp only [go_sem])
  refine W_seq ?_
  (refine W_opsM ?_; simp (disch := omega) only [wrap_i64, go_sem])
  have e0 : (a : Int) + 1 = ((a + 1 : Nat) : Int) := by omega
  rw [e0]
  refine W_seq ?_
  refine W_seq ?_
  (refine W_opsM ?_; simp only [go_sem])
  refine W_blk ?_
  refine W_loop (fun k st => ∃ (i s : Nat) (d1 : Array Int) (h1 : Heap) (j5 j7 j8 j9 j10 j11 j12 j13 j14 j15 j16 j17 j18 : AV), k = s ∧ s ≤ 5 ∧ a < i ∧ i ≤ bn ∧ d1.size = d.size ∧ SIn F g h0 h1 b d1 lt D ∧ Upd h.ent h1 b ∧ partialIns lt a bn s i d1 = partialInsertionSort lt d a bn ∧ st = ⟨[.msl 3 b 0 d.size, .int .i64 (a : Int), .int .i64 (bn : Int), g, .int .i64 ((5 - s : Nat) : Int), j5, .int .i64 (i : Int), j7, j8, j9, j10, j11, j12, j13, j14, j15, j16, j17, j18], h1, []⟩) ?_ (k := 5) ⟨a + 1, 5, d, h.ent, _, _, _, _, _, _, _, _, _, _, _, _, _, rfl, Nat.le_refl _, by omega, by omega, rfl, hs.ent, Upd.refl _ _, rfl, rfl⟩
  rintro k st ⟨i, s, d1, h1, j5, j7, j8, j9, j10, j11, j12, j13, j14, j15, j16, j17, j18, rfl, hs5, hai, hib, hz1, hs1, hu1, he, rfl⟩
  rw [← hz1]
  refine W_seq ?_
  refine W_seq ?_
  (refine W_opsM ?_; simp only [go_sem])
  refine W_cndP rfl (fun hc1 => ?_) (fun hc1 => ?_)
  · (refine W_nop ?_; simp only [go_sem])
    obtain ⟨s, rfl⟩ : ∃ y, k = y + 1 := ⟨k - 1, by omega⟩
    have hps : partialIns lt a bn (s + 1) i d1 = (if scanSorted lt d1 bn i = bn then (d1, true) else if bn - a < 50 then (d1, false) else partialIns lt a bn s (scanSorted lt d1 bn i) (if bn - scanSorted lt d1 bn i ≥ 2 then shiftUp lt bn (scanSorted lt d1 bn i + 1) (if scanSorted lt d1 bn i - a ≥ 2 then shiftDown lt (scanSorted lt d1 bn i - 1) (swp d1 (scanSorted lt d1 bn i) (scanSorted lt d1 bn i - 1)) else swp d1 (scanSorted lt d1 bn i) (scanSorted lt d1 bn i - 1)) else (if scanSorted lt d1 bn i - a ≥ 2 then shiftDown lt (scanSorted lt d1 bn i - 1) (swp d1 (scanSorted lt d1 bn i) (scanSorted lt d1 bn i - 1)) else swp d1 (scanSorted lt d1 bn i) (scanSorted lt d1 bn i - 1)))) := rfl
    refine W_seq ?_
    refine W_blk ?_
    refine W_seq ?_
    refine W_blk ?_
    refine pis17 hs1 (by omega) hib (by omega) (fun r j5 j7 j8 j9 j10 j11 j12 j13 j14 j15 j16 j17 j18 hr hir hrb => ?_)
    rw [← hr, he] at hps
    simp only [go_sem]
    refine W_seq ?_
    refine W_seq ?_
    (refine W_opsM ?_; simp only [go_sem])
    refine W_cndP rfl (fun hc2 => ?_) (fun hc2 => ?_)
    · have hc2' : r = bn := by omega
      rw [if_pos hc2'] at hps
      refine W_seq ?_
      (refine W_opsM ?_; simp only [go_sem])
      refine W_ret ?_
      simp only [go_sem]
      rw [hps]
      exact fin_updV hu1 hs1.own rfl rfl
    (refine W_nop ?_; simp only [go_sem])
    have hc2' : ¬ r = bn := by omega
    rw [if_neg hc2'] at hps
    refine W_seq ?_
    refine W_seq ?_
    (refine W_opsM ?_; simp (disch := omega) only [wrap_i64, go_sem])
    refine W_cndP rfl (fun hc3 => ?_) (fun hc3 => ?_)
    · have hc3' : bn - a < 50 := by omega
      rw [if_pos hc3'] at hps
      refine W_seq ?_
      (refine W_opsM ?_; simp only [go_sem])
      refine W_ret ?_
      simp only [go_sem]
      rw [hps]
      exact fin_updV hu1 hs1.own rfl rfl
    (refine W_nop ?_; simp only [go_sem])
    have hc3' : ¬ bn - a < 50 := by omega
    rw [if_neg hc3'] at hps
    have e1 : (r : Int) - 1 = ((r - 1 : Nat) : Int) := by omega
    have y2 : r < d1.size := by omega
    have y3 : r - 1 < d1.size := by omega
    refine W_seq ?_
    (refine W_pre ?_; simp (disch := omega) only [wrap_i64, go_sem, e1, ixs_msl y2, ixs_msl y3, hs1.own.loadA y2, hs1.own.loadA y3, swp1 hs1.own y2, swp2 hs1.own y3])
    have hs2 := hs1.swp y2 y3 (.row ((d1.setIfInBounds r d1[r - 1]!).toList.map (.int .i64 ·)) 3)
    have hz2 : (swp d1 r (r - 1)).size = d1.size := swp_size d1 r (r - 1)
    have hu2 := (hu1.put (x := .row ((d1.setIfInBounds r d1[r - 1]!).toList.map (.int .i64 ·)) 3)).put (x := .row ((swp d1 r (r - 1)).toList.map (.int .i64 ·)) 3)
    generalize swp d1 r (r - 1) = d2 at *
    generalize Heap.put (Heap.put h1 b _) b _ = h2 at *
    refine pis38 hs2 hu2 hz2.symm (by omega) (by omega) (by omega) rfl (fun h3 j5 j7 j8 j9 j10 j11 j12 j13 j14 j15 j16 j17 j18 hs3 hu3 hz3 => ?_)
    simp only [go_sem]
    (refine W_opsM ?_; simp (disch := omega) only [wrap_i64, go_sem])
    exact ⟨s, by omega, r, s, _, _, _, _, _, _, _, _, _, _, _, _, _, _, _, rfl, by omega, by omega, by omega, by omega, hs3, hu3, hps.symm, by rw [show ((5 - (s + 1) : Nat) : Int) + 1 = ((5 - s : Nat) : Int) by omega]⟩
  · have : k = 0 := by omega
    subst this
    refine W_exit ?_
    simp only [go_sem]
    refine W_seq ?_
    (refine W_opsM ?_; simp only [go_sem])
    refine W_ret ?_
    have hps : partialInsertionSort lt d a bn = (d1, false) := he.symm
    rw [hps]
    exact fin_updV hu1 hs1.own rfl rfl
end
end Go.Proofs.YtnkcimeebobjaaaDoor.fitKnown
namespace Go.Proofs.YtnkcimeebobjaaaDoor.fitKnown
open Hx Go
set_option maxRecDepth 100000
attribute [local irreducible] cSeq cOps cPre cCnd cBlk cLoop cScope cExit cRet cNop cRng Heap.ent Heap.setLow
theorem OW_ixcX {s : ByteArray} {i : Nat} {h : Heap} {K : AV × Heap × Option Nat → Prop} (hi : i < s.data.size) (hk : ∀ c : Nat, c = (s.data[i]!).toNat → K (.int .u8 (c : Int), h, none)) : OW (rO h (ixcA (.str s) i)) K := by
  rw [ixc_str hi]
  exact ⟨_, rfl, hk _ (by rw [getElem!_pos s.data i hi])⟩
theorem lenTbl : ∀ i : Fin 256, (#[0, 1, 2, 2, 3, 3, 3, 3, 4, 4, 4, 4, 4, 4, 4, 4, 5, 5, 5, 5, 5, 5, 5, 5, 5, 5, 5, 5, 5, 5, 5, 5, 6, 6, 6, 6, 6, 6, 6, 6, 6, 6, 6, 6, 6, 6, 6, 6, 6, 6, 6, 6, 6, 6, 6, 6, 6, 6, 6, 6, 6, 6, 6, 6, 7, 7, 7, 7, 7, 7, 7, 7, 7, 7, 7, 7, 7, 7, 7, 7, 7, 7, 7, 7, 7, 7, 7, 7, 7, 7, 7, 7, 7, 7, 7, 7, 7, 7, 7, 7, 7, 7, 7, 7, 7, 7, 7, 7, 7, 7, 7, 7, 7, 7, 7, 7, 7, 7, 7, 7, 7, 7, 7, 7, 7, 7, 7, 7, 8, 8, 8, 8, 8, 8, 8, 8, 8, 8, 8, 8, 8, 8, 8, 8, 8, 8, 8, 8, 8, 8, 8, 8, 8, 8, 8, 8, 8, 8, 8, 8, 8, 8, 8, 8, 8, 8, 8, 8, 8, 8, 8, 8, 8, 8, 8, 8, 8, 8, 8, 8, 8, 8, 8, 8, 8, 8, 8, 8, 8, 8, 8, 8, 8, 8, 8, 8, 8, 8, 8, 8, 8, 8, 8, 8, 8, 8, 8, 8, 8, 8, 8, 8, 8, 8, 8, 8, 8, 8, 8, 8, 8, 8, 8, 8, 8, 8, 8, 8, 8, 8, 8, 8, 8, 8, 8, 8, 8, 8, 8, 8, 8, 8, 8, 8, 8, 8, 8, 8, 8, 8, 8, 8, 8, 8, 8, 8][i.val]! : UInt8).toNat ≤ 8 ∧ i.val < 2 ^ (#[0, 1, 2, 2, 3, 3, 3, 3, 4, 4, 4, 4, 4, 4, 4, 4, 5, 5, 5, 5, 5, 5, 5, 5, 5, 5, 5, 5, 5, 5, 5, 5, 6, 6, 6, 6, 6, 6, 6, 6, 6, 6, 6, 6, 6, 6, 6, 6, 6, 6, 6, 6, 6, 6, 6, 6, 6, 6, 6, 6, 6, 6, 6, 6, 7, 7, 7, 7, 7, 7, 7, 7, 7, 7, 7, 7, 7, 7, 7, 7, 7, 7, 7, 7, 7, 7, 7, 7, 7, 7, 7, 7, 7, 7, 7, 7, 7, 7, 7, 7, 7, 7, 7, 7, 7, 7, 7, 7, 7, 7, 7, 7, 7, 7, 7, 7, 7, 7, 7, 7, 7, 7, 7, 7, 7, 7, 7, 7, 8, 8, 8, 8, 8, 8, 8, 8, 8, 8, 8, 8, 8, 8, 8, 8, 8, 8, 8, 8, 8, 8, 8, 8, 8, 8, 8, 8, 8, 8, 8, 8, 8, 8, 8, 8, 8, 8, 8, 8, 8, 8, 8, 8, 8, 8, 8, 8, 8, 8, 8, 8, 8, 8, 8, 8, 8, 8, 8, 8, 8, 8, 8, 8, 8, 8, 8, 8, 8, 8, 8, 8, 8, 8, 8, 8, 8, 8, 8, 8, 8, 8, 8, 8, 8, 8, 8, 8, 8, 8, 8, 8, 8, 8, 8, 8, 8, 8, 8, 8, 8, 8, 8, 8, 8, 8, 8, 8, 8, 8, 8, 8, 8, 8, 8, 8, 8, 8, 8, 8, 8, 8, 8, 8, 8, 8, 8, 8][i.val]! : UInt8).toNat ∧ (0 < i.val → 2 ^ (#[0, 1, 2, 2, 3, 3, 3, 3, 4, 4, 4, 4, 4, 4, 4, 4, 5, 5, 5, 5, 5, 5, 5, 5, 5, 5, 5, 5, 5, 5, 5, 5, 6, 6, 6, 6, 6, 6, 6, 6, 6, 6, 6, 6, 6, 6, 6, 6, 6, 6, 6, 6, 6, 6, 6, 6, 6, 6, 6, 6, 6, 6, 6, 6, 7, 7, 7, 7, 7, 7, 7, 7, 7, 7, 7, 7, 7, 7, 7, 7, 7, 7, 7, 7, 7, 7, 7, 7, 7, 7, 7, 7, 7, 7, 7, 7, 7, 7, 7, 7, 7, 7, 7, 7, 7, 7, 7, 7, 7, 7, 7, 7, 7, 7, 7, 7, 7, 7, 7, 7, 7, 7, 7, 7, 7, 7, 7, 7, 8, 8, 8, 8, 8, 8, 8, 8, 8, 8, 8, 8, 8, 8, 8, 8, 8, 8, 8, 8, 8, 8, 8, 8, 8, 8, 8, 8, 8, 8, 8, 8, 8, 8, 8, 8, 8, 8, 8, 8, 8, 8, 8, 8, 8, 8, 8, 8, 8, 8, 8, 8, 8, 8, 8, 8, 8, 8, 8, 8, 8, 8, 8, 8, 8, 8, 8, 8, 8, 8, 8, 8, 8, 8, 8, 8, 8, 8, 8, 8, 8, 8, 8, 8, 8, 8, 8, 8, 8, 8, 8, 8, 8, 8, 8, 8, 8, 8, 8, 8, 8, 8, 8, 8, 8, 8, 8, 8, 8, 8, 8, 8, 8, 8, 8, 8, 8, 8, 8, 8, 8, 8, 8, 8, 8, 8, 8, 8][i.val]! : UInt8).toNat ≤ 2 * i.val) := by
  decide +kernel
section
variable {F : Nat → Nat → CallFn} (hF : IsEv KC Kt F)
include hF
theorem len64x {h : Heap} {x : Nat} (h0 : 0 < x) (hx : x < 65536) : WV F (.fn (.func 112) [] []) [.int .u64 (x : Int)] h (fun r h' => h' = h ∧ ∃ c : Nat, r = .val (.int .i64 c) ∧ c ≤ 16 ∧ x < 2 ^ c ∧ 2 ^ c ≤ 2 * x) := by
  refine Kent112 hF ?_
  refine W_seq ?_
  (refine W_opsM ?_; simp only [go_sem])
  refine W_seq ?_
  refine W_seq ?_
  (refine W_opsM ?_; simp only [go_sem])
  refine W_cndP rfl (fun hc => ?_) (fun hc => ?_)
  · omega
  (refine W_nop ?_; simp only [go_sem])
  refine W_seq ?_
  refine W_seq ?_
  (refine W_opsM ?_; simp only [go_sem])
  refine W_cndP rfl (fun hc => ?_) (fun hc => ?_)
  · omega
  (refine W_nop ?_; simp only [go_sem])
  refine W_seq ?_
  refine W_seq ?_
  (refine W_opsM ?_; simp only [go_sem])
  refine W_cndP rfl (fun hc => ?_) (fun hc => ?_)
  · refine W_seq ?_
    (refine W_opsM ?_; simp (disch := omega) only [go_sem, Int.reduceToNat, Nat.reducePow])
    (refine W_opsM ?_; simp (disch := omega) only [wrap_i64, go_sem])
    refine W_seq ?_
    (refine W_opsM ?_; simp (disch := omega) only [go_sem, wrap_u8])
    refine OW_ixcX (by show _ < 256; omega) (fun c hc1 => ?_)
    have h1 := lenTbl ⟨x / 256, by omega⟩
    dsimp only at h1
    rw [← hc1] at h1
    simp (disch := omega) only [wrap_i64, go_sem]
    refine W_ret ?_
    refine fin_out ent_low_le rfl rfl rfl ⟨rfl, c + 8, by rw [show (0 : Int) + 8 + (c : Int) = ((c + 8 : Nat) : Int) by omega]; rfl, by omega, ?_, ?_⟩
    · rw [Nat.pow_add]; omega
    · rw [Nat.pow_add]
      have := h1.2.2 (by omega)
      omega
  · (refine W_nop ?_; simp only [go_sem])
    refine W_seq ?_
    (refine W_opsM ?_; simp (disch := omega) only [go_sem, wrap_u8])
    refine OW_ixcX (by show _ < 256; omega) (fun c hc1 => ?_)
    have h1 := lenTbl ⟨x, by omega⟩
    dsimp only at h1
    rw [← hc1] at h1
    simp (disch := omega) only [wrap_i64, go_sem]
    refine W_ret ?_
    refine fin_out ent_low_le rfl rfl rfl ⟨rfl, c, by rw [show (0 : Int) + (c : Int) = (c : Int) by omega]; rfl, by omega, h1.2.1, h1.2.2 h0⟩
theorem lenx {h : Heap} {x : Nat} (h0 : 0 < x) (hx : x < 65536) : WV F (.fn (.func 98) [] []) [.int .u64 (x : Int)] h (fun r h' => h' = h ∧ ∃ c : Nat, r = .val (.int .i64 c) ∧ c ≤ 16 ∧ x < 2 ^ c ∧ 2 ^ c ≤ 2 * x) := by
  refine Kent98 hF ?_
  refine W_seq ?_
  (refine W_opsM ?_; simp only [go_sem])
  refine W_seq ?_
  refine W_cnd rfl (fun h => by cases h) (fun _ => ?_)
  (refine W_nop ?_; simp only [go_sem])
  refine W_seq ?_
  (refine W_opsM ?_; simp only [go_sem])
  refine WO_call rfl rfl ?_
  refine (len64x hF h0 hx).mono ?_
  rintro _ _ ⟨rfl, c, rfl, h1⟩
  simp only [go_sem]
  refine W_ret ?_
  exact fin_out ent_low_le rfl rfl rfl ⟨rfl, c, rfl, h1⟩
theorem pow_ok {h : Heap} {x : Nat} (h0 : 0 < x) (hx : x < 65536) : WV F (.fn (.func 117) [] []) [.int .i64 (x : Int)] h (fun r h' => h' = h ∧ ∃ c : Nat, r = .val (.int .u64 c) ∧ 0 < c ∧ c ≤ 2 * x) := by
  refine Kent117 hF ?_
  refine W_seq ?_
  (refine W_opsM ?_; simp only [go_sem])
  refine W_seq ?_
  (refine W_opsM ?_; simp (disch := omega) only [go_sem, wrap_u64])
  refine WO_call rfl rfl ?_
  refine (lenx hF h0 hx).mono ?_
  rintro _ _ ⟨rfl, c, rfl, h1, h2, h3⟩
  simp (disch := omega) only [go_sem]
  have h4 : Int.toNat 1 * 2 ^ c = 2 ^ c := by rw [show Int.toNat 1 = 1 from rfl, Nat.one_mul]
  rw [h4, wrap_u64 (by omega) (by omega)]
  refine W_ret ?_
  exact fin_out ent_low_le rfl rfl rfl ⟨rfl, 2 ^ c, rfl, by omega, h3⟩
omit hF in
theorem wrapU (z : Int) : IntKind.wrap .u64 z = z % 18446744073709551616 := by simp [IntKind.wrap, IntKind.bits, IntKind.signed]
omit hF in
theorem wrap_rng (z : Int) : 0 ≤ wrapF .u64 z ∧ wrapF .u64 z ≤ 18446744073709551615 := by
  rw [wrapF_eq, wrapU]
  omega
omit hF in
theorem xor_rng {a b : Int} (h1 : 0 ≤ a) (h2 : a ≤ 18446744073709551615) (h3 : 0 ≤ b) (h4 : b ≤ 18446744073709551615) : ∃ y : Int, ((a.toNat ^^^ b.toNat : Nat) : Int) = y ∧ 0 ≤ y ∧ y ≤ 18446744073709551615 := by
  have := Nat.xor_lt_two_pow (x := a.toNat) (y := b.toNat) (n := 64) (by omega) (by omega)
  exact ⟨_, rfl, by omega, by omega⟩
theorem next_ok {h : Heap} {p : Nat} {x : Int} (ho : Own .u64 h 183 p [x]) (hx : 0 ≤ x ∧ x ≤ 18446744073709551615) : WV F (.fn (.func 118) [] []) [.ptr p 0] h (fun r h' => ∃ y : Int, r = .val (.int .u64 y) ∧ 0 ≤ y ∧ y ≤ 18446744073709551615 ∧ Upd h h' p ∧ Own .u64 h' 183 p [y]) := by
  have ho1 := ho.ext (Ext.ent h)
  have hu1 := Upd.refl h.ent p
  refine Kent118 hF ?_
  refine W_seq ?_
  (refine W_opsM ?_; simp only [go_sem])
  refine W_seq ?_
  (refine W_pre ?_; simp (disch := omega) only [go_sem, chkA, ho1.load (i := 0) (by simp), List.getElem_cons_zero])
  have hw := wrap_rng (((x.toNat * 2 ^ Int.toNat 13 : Nat)) : Int)
  generalize wrapF .u64 _ = w at *
  obtain ⟨y, e1, e2, e3⟩ := xor_rng hx.1 hx.2 hw.1 hw.2
  obtain ⟨hx1, hx2⟩ := hx
  obtain ⟨hw1, hw2⟩ := hw
  simp (disch := omega) only [go_sem, e1, fun y => ho1.store (i := 0) (by simp) y, List.set]
  have ho2 := ho1.put [y]
  have hu2 := hu1.put (x := .row ([y].map (.int .u64 ·)) 183)
  generalize Heap.put h.ent p _ = h2 at *
  refine W_seq ?_
  (refine W_pre ?_; simp (disch := omega) only [go_sem, chkA, ho2.load (i := 0) (by simp), List.getElem_cons_zero])
  have hd : (0 : Int) ≤ ((y.toNat / 2 ^ Int.toNat 7 : Nat) : Int) ∧ ((y.toNat / 2 ^ Int.toNat 7 : Nat) : Int) ≤ 18446744073709551615 := by
    have h5 := Nat.div_le_self y.toNat (2 ^ Int.toNat 7)
    generalize y.toNat / 2 ^ Int.toNat 7 = q at *
    omega
  generalize ((y.toNat / 2 ^ Int.toNat 7 : Nat) : Int) = w2 at *
  obtain ⟨z, f1, f2, f3⟩ := xor_rng e2 e3 hd.1 hd.2
  obtain ⟨hd1, hd2⟩ := hd
  simp (disch := omega) only [go_sem, f1, fun y => ho2.store (i := 0) (by simp) y, List.set]
  have ho3 := ho2.put [z]
  have hu3 := hu2.put (x := .row ([z].map (.int .u64 ·)) 183)
  generalize Heap.put h2 p _ = h3 at *
  refine W_seq ?_
  (refine W_pre ?_; simp (disch := omega) only [go_sem, chkA, ho3.load (i := 0) (by simp), List.getElem_cons_zero])
  have hv := wrap_rng (((z.toNat * 2 ^ Int.toNat 17 : Nat)) : Int)
  generalize wrapF .u64 _ = w3 at *
  obtain ⟨u, g1, g2, g3⟩ := xor_rng f2 f3 hv.1 hv.2
  obtain ⟨hv1, hv2⟩ := hv
  simp (disch := omega) only [go_sem, g1, fun y => ho3.store (i := 0) (by simp) y, List.set]
  have ho4 := ho3.put [u]
  have hu4 := hu3.put (x := .row ([u].map (.int .u64 ·)) 183)
  generalize Heap.put h3 p _ = h4 at *
  refine W_seq ?_
  (refine W_opsM ?_; simp (disch := omega) only [go_sem, chkA, ho4.load (i := 0) (by simp), List.getElem_cons_zero])
  refine W_ret ?_
  exact (fin_updK (v := .int .u64 u) hu4 ho4 rfl rfl).mono fun r h' ⟨q1, q2, q3⟩ => ⟨u, q1, g2, g3, q2, q3⟩
end
end Go.Proofs.YtnkcimeebobjaaaDoor.fitKnown
namespace Go.Proofs.YtnkcimeebobjaaaDoor.fitKnown
open Hx Go
set_option maxRecDepth 100000
attribute [local irreducible] cSeq cOps cPre cCnd cBlk cLoop cScope cExit cRet cNop cRng Heap.ent Heap.setLow
section
variable {F : Nat → Nat → CallFn} (hF : IsEv KC Kt F)
open Go.Sort
variable {g : AV} {h0 h h' : Heap} {b : Nat} {d d' : Array Int} {lt : Int → Int → Bool} {D : Int → Prop} {a bn : Nat}
theorem SIn.updw (hs : SIn F g h0 h b d lt D) (hu : Updw h h' b) (ho : Own .i64 h' 3 b d'.toList) (hp : PermIn a bn d d') (hb : bn ≤ d.size) : SIn F g h0 h' b d' lt D :=
  have hp := permIn_mono d d' a bn 0 d.size (Nat.zero_le _) hb (Nat.le_refl _) hp
  hs.to hu.next (fun c hc hl => hu.get c hc (Nat.lt_of_lt_of_le hl hs.nx)) ho hp.1 fun i hi => permIn_all d d' 0 d.size D (Nat.le_refl _) hp (fun i _ hi => hs.dom i hi) i (Nat.zero_le _) hi
theorem SIn.cmpAt (hs : SIn F g h0 h b d lt D) : CmpOk F g h b lt D := fun h' h1 h2 => hs.cmp h' (Nat.le_trans hs.nx h1) (fun c hc hl => by rw [h2 c hc (Nat.lt_of_lt_of_le hl hs.nx), hs.sm c hc hl])
include hF
theorem bp_ok (hs : SIn F g h0 h b d lt D) (hab : a + 8 ≤ bn) (hb : bn ≤ d.size) (hz2 : d.size < 65536) :
    WV F (.fn (.func 105) [] []) [.msl 3 b 0 d.size, .int .i64 a, .int .i64 bn, g] h (fun r h' => r = .val (.tup []) ∧ Updw h h' b ∧ ∃ d', Own .i64 h' 3 b d'.toList ∧ PermIn a bn d d') := by
  have hz := hs.sz
  have hbl := hs.own.1
  refine Kent105 hF ?_
  refine W_seq ?_
  (refine W_opsM ?_; simp (disch := omega) only [wrap_i64, go_sem])
  have e1 : (bn : Int) - a = ((bn - a : Nat) : Int) := by omega
  rw [e1]
  refine W_seq ?_
  (refine W_opsM ?_; simp only [go_sem])
  refine W_cndP rfl (fun hc1 => ?_) (fun hc1 => ?_)
  · have hq : Int.tdiv ((bn - a : Nat) : Int) 4 = (((bn - a) / 4 : Nat) : Int) := by rw [Int.tdiv_eq_ediv_of_nonneg (by omega)]; omega
    have hc1 := Own.one (k := .u64) h.ent 183 0
    simp only [ent_next] at hc1
    refine W_seq ?_
    (refine W_opsM ?_; simp (disch := omega) only [go_sem, wrap_u64, ent_next, fun y => hc1.store (i := 0) (by simp) y, List.set])
    have hs1 := hs.ent.push (.row [.int .u64 0] 183)
    have hc2 := hc1.put [((bn - a : Nat) : Int)]
    have hu1 := (Updw.refl h.ent b).push (x := .row [.int .u64 0] 183) (by rw [ent_next]; exact hbl)
    have hv1 := (Upd.refl (h.ent.push (.row [.int .u64 0] 183)) h.next).put (x := .row ([((bn - a : Nat) : Int)].map (.int .u64 ·)) 183)
    have hs2 := hs1.other hs.nx hv1
    have hu2 := hu1.other hv1 (by rw [ent_next]; exact hbl) (by rw [ent_next]; exact Nat.le_refl _)
    generalize Heap.put (h.ent.push _) h.next _ = h1 at *
    obtain ⟨x, hx0, hc2'⟩ : ∃ x : Int, (0 ≤ x ∧ x ≤ 18446744073709551615) ∧ Own .u64 h1 183 h.next [x] := ⟨_, by omega, hc2⟩
    have hn1 : h.next < h1.next := hc2.1
    refine W_seq ?_
    (refine W_opsM ?_; simp (disch := omega) only [go_sem])
    refine WO_call rfl rfl ?_
    refine (pow_ok hF (x := bn - a) (by omega) (by omega)).mono ?_
    rintro _ h1 ⟨rfl, c, rfl, hc3, hc4⟩
    simp only [go_sem]
    refine W_seq ?_
    (refine W_opsM ?_; simp (disch := omega) only [wrap_i64, go_sem, bin_quo, hq])
    refine W_blk ?_
    have e2 : (a : Int) + ↑((bn - a) / 4) * 2 - 1 = ((a + (bn - a) / 4 * 2 - 1 : Nat) : Int) := by omega
    rw [e2]
    generalize hQ : blkQ 0 _ = Q
    have hq' : ∀ (h2 : Heap) (d2 : Array Int) (vs : List AV), Updw h.ent h2 b → Own .i64 h2 3 b d2.toList → PermIn a bn d d2 → Q (.exit 0) ⟨vs, h2, []⟩ := by
      intro h2 d2 vs hu ho hp
      subst hQ
      simp only [go_sem]
      exact (fin_updwN hu hbl ho rfl).mono fun r h' ⟨q1, q2, q3⟩ => ⟨q1, q2, d2, q3, hp⟩
    clear hQ
    refine W_loop (fun k st => ∃ (i : Nat) (y : Int) (d1 : Array Int) (h2 : Heap) (j5 j7 j10 j11 : AV), k = a + (bn - a) / 4 * 2 + 2 - i ∧ a ≤ i ∧ i ≤ a + (bn - a) / 4 * 2 + 2 ∧ (0 ≤ y ∧ y ≤ 18446744073709551615) ∧ Own .u64 h2 183 h.next [y] ∧ SIn F g h0 h2 b d1 lt D ∧ Updw h.ent h2 b ∧ PermIn a bn d d1 ∧ st = ⟨[.msl 3 b 0 d.size, .int .i64 (a : Int), .int .i64 (bn : Int), g, .int .i64 ((bn - a : Nat) : Int), j5, .int .i64 (i : Int), j7, .ptr h.next 0, .int .u64 (c : Int), j10, j11], h2, []⟩) ?_ (k := a + (bn - a) / 4 * 2 + 2 - (a + (bn - a) / 4 * 2 - 1)) ⟨a + (bn - a) / 4 * 2 - 1, x, d, h1, _, _, _, _, rfl, by omega, by omega, hx0, hc2', hs2, hu2, permIn_refl _ _ _, rfl⟩
    rintro k st ⟨i, y, d1, h2, j5, j7, j10, j11, rfl, hai, hib, hy, hoy, hs3, hu3, hp3, rfl⟩
    have hz1 : d1.size = d.size := hp3.1
    refine W_seq ?_
    refine W_seq ?_
    (refine W_opsM ?_; simp (disch := omega) only [wrap_i64, go_sem, bin_quo, hq])
    refine W_cndP rfl (fun hc5 => ?_) (fun hc5 => ?_)
    · (refine W_nop ?_; simp only [go_sem])
      refine W_seq ?_
      refine W_blk ?_
      refine W_seq ?_
      (refine W_opsM ?_; simp only [go_sem])
      refine WO_call rfl rfl ?_
      refine (next_ok hF hoy hy).mono ?_
      rintro _ h3 ⟨z, rfl, hz1', hz2', hv3, hoz⟩
      have hs4 := hs3.other hs.nx hv3
      have hu4 := hu3.other hv3 (by rw [ent_next]; exact hbl) (by rw [ent_next]; exact Nat.le_refl _)
      simp (disch := omega) only [go_sem, wrap_u64]
      have ho1 : z.toNat &&& ((c : Int) - 1).toNat ≤ ((c : Int) - 1).toNat := Nat.and_le_right
      have ho2 : ((c : Int) - 1).toNat < 2 * (bn - a) := by omega
      generalize hoo : z.toNat &&& ((c : Int) - 1).toNat = o at *
      rw [wrap_i64 (by omega) (by omega)]
      generalize hQ2 : blkQ 1 _ = Q2
      have hk : ∀ (o : Nat) (j5 j7 j11 : AV), o < bn - a → W F Ko105_26 ⟨[.msl 3 b 0 d.size, .int .i64 (a : Int), .int .i64 (bn : Int), g, .int .i64 ((bn - a : Nat) : Int), j5, .int .i64 (i : Int), j7, .ptr h.next 0, .int .u64 (c : Int), .int .i64 (o : Int), j11], h3, []⟩ Q2 := by
        intro o j5 j7 j11 ho
        subst hQ2
        have e3 : (a : Int) + (o : Int) = ((a + o : Nat) : Int) := by omega
        have x1 : i < d.size := by omega
        have x2 : a + o < d.size := by omega
        have x3 : i < d1.size := by omega
        have x4 : a + o < d1.size := by omega
        (refine W_pre ?_; simp (disch := omega) only [wrap_i64, go_sem, e3, ixs_msl x1, ixs_msl x2, hs4.own.loadA x3, hs4.own.loadA x4, swp1 hs4.own x3, swp2 hs4.own x4])
        have hsw := (Upd.refl h3 b).put (x := .row ((d1.setIfInBounds i d1[a + o]!).toList.map (.int .i64 ·)) 3) |>.put (x := .row ((swp d1 i (a + o)).toList.map (.int .i64 ·)) 3)
        have hs5 := hs4.swp x3 x4 (.row ((d1.setIfInBounds i d1[a + o]!).toList.map (.int .i64 ·)) 3)
        have hoz2 : Own .u64 _ 183 h.next [z] := hoz.same hsw.next (hsw.get h.next (by omega))
        generalize Heap.put (Heap.put h3 b _) b _ = h4 at *
        (refine W_opsM ?_; simp (disch := omega) only [wrap_i64, go_sem])
        exact ⟨_, by omega, i + 1, z, _, _, _, _, _, _, rfl, by omega, by omega, ⟨hz1', hz2'⟩, hoz2, hs5, hu4.trans hsw.weak, permIn_trans _ _ _ _ _ hp3 (swp_permIn _ _ _ _ _ hai (by omega) (by omega) (by omega) (by omega)), rfl⟩
      clear hQ2
      refine W_seq ?_
      refine W_seq ?_
      (refine W_opsM ?_; simp only [go_sem])
      refine W_cndP rfl (fun hc6 => ?_) (fun hc6 => ?_)
      · (refine W_opsM ?_; simp (disch := omega) only [wrap_i64, go_sem])
        have e4 : (o : Int) - ((bn - a : Nat) : Int) = ((o - (bn - a) : Nat) : Int) := by omega
        rw [e4]
        exact hk _ _ _ _ (by omega)
      · (refine W_nop ?_; simp only [go_sem])
        exact hk _ _ _ _ (by omega)
    · (refine W_exit ?_; simp only [go_sem])
      exact hq' _ _ _ hu3 hs3.own hp3
  · omega
end
end Go.Proofs.YtnkcimeebobjaaaDoor.fitKnown
