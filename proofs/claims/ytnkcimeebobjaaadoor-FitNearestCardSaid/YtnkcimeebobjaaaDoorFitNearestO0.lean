/- The walk and the plain laws (part 0). -/
import Derived.Test.YtnkcimeebobjaaaDoorFitNearestE
import Derived.Sort.AssemblyPlain
namespace Go.Proofs.YtnkcimeebobjaaaDoor.fitNearest
open Hx Go
set_option maxRecDepth 100000
attribute [local irreducible] cSeq cOps cPre cCnd cBlk cLoop cScope cExit cRet cNop cRng Heap.ent Heap.setLow
section
variable {F : Nat → Nat → CallFn} (hF : IsEv KC Kt F)
include hF
open Go.Sort
theorem ins_ok {h : Heap} {b : Nat} {d : Array Int} {a bn : Nat} {g : AV} {lt : Int → Int → Bool} {D : Int → Prop} (ho : Own .i64 h 3 b d.toList) (hc : CmpOk F g h b lt D) (hd : ∀ i : Nat, i < d.size → D d[i]!) (hab : a ≤ bn) (hb : bn ≤ d.size) (hz : d.size < 2 ^ 62) :
    WV F (.fn (.func 103) [] []) [.msl 3 b 0 d.size, .int .i64 a, .int .i64 bn, g] h (fun r h' => r = .val (.tup []) ∧ Upd h h' b ∧ Own .i64 h' 3 b (insertionSort lt d a bn).toList) := by
  refine Kent103 hF ?_
  refine W_seq ?_
  (refine W_opsM ?_; simp (disch := omega) only [wrap_i64, go_sem, wrap_i64])
  refine W_blk ?_
  refine W_loop (fun k s => ∃ (i : Nat) (d1 : Array Int) (h1 : Heap) (j1 j2 j3 : AV), k = bn - i ∧ a < i ∧ (i ≤ bn ∨ i = a + 1) ∧ d1.size = d.size ∧ (∀ i : Nat, i < d.size → D d1[i]!) ∧ Own .i64 h1 3 b d1.toList ∧ Upd h.ent h1 b ∧
    insOuter lt a bn i d1 = insertionSort lt d a bn ∧ s = ⟨[.msl 3 b 0 d.size, .int .i64 (a : Int), .int .i64 (bn : Int), g, .int .i64 (i : Int), j1, j2, j3], h1, []⟩) ?_ (k := bn - (a + 1)) ⟨a + 1, d, _, _, _, _, rfl, by omega, by omega, rfl, hd, ho.ext (Ext.ent h), Upd.refl _ b, rfl, rfl⟩
  rintro k s ⟨i, d1, h1, j1, j2, j3, rfl, hai, hib, hs1, hd1, ho1, hu1, he1, rfl⟩
  refine W_seq ?_
  refine W_seq ?_
  (refine W_opsM ?_; simp only [go_sem])
  refine W_cndP rfl (fun hc1 => ?_) (fun hc1 => ?_)
  · refine W_nop ?_
    simp only [go_sem]
    refine W_seq ?_
    refine W_blk ?_
    refine W_seq ?_
    (refine W_opsM ?_; simp only [go_sem])
    refine W_blk ?_
    refine W_loop (fun k s => ∃ (j : Nat) (d2 : Array Int) (h2 : Heap) (j1 j3 : AV), k = j ∧ a ≤ j ∧ j ≤ i ∧ d2.size = d.size ∧ (∀ i : Nat, i < d.size → D d2[i]!) ∧ Own .i64 h2 3 b d2.toList ∧ Upd h.ent h2 b ∧
      insInner lt a j d2 = insInner lt a i d1 ∧ s = ⟨[.msl 3 b 0 d.size, .int .i64 (a : Int), .int .i64 (bn : Int), g, .int .i64 (i : Int), j1, .int .i64 (j : Int), j3], h2, []⟩) ?_ (k := i) ⟨i, d1, _, _, _, rfl, by omega, by omega, hs1, hd1, ho1, hu1, rfl, rfl⟩
    rintro k s ⟨j, d2, h2, j1, j3, rfl, haj, hji, hs2, hd2, ho2, hu2, he2, rfl⟩
    refine W_seq ?_
    refine W_seq ?_
    generalize hQ : seqQ F Ko103_17 _ = Q
    have hk : ∀ t : Bool, t = (decide (a < k) && lt d2[k]! d2[k - 1]!) → Q .normal ⟨[.msl 3 b 0 d.size, .int .i64 (a : Int), .int .i64 (bn : Int), g, .int .i64 (i : Int), j1, .int .i64 (k : Int), .bool t], h2, []⟩ := by
      intro t ht
      subst hQ
      simp only [go_sem]
      refine W_cnd (t := t) rfl (fun hb => ?_) (fun hb => ?_)
      · (refine W_nop ?_; simp only [go_sem])
        rw [hb] at ht
        simp only [Bool.true_eq, Bool.and_eq_true, decide_eq_true_eq] at ht
        obtain ⟨hak, hlt⟩ := ht
        refine W_seq ?_
        refine W_blk ?_
        have e1 : (k : Int) - 1 = ((k - 1 : Nat) : Int) := by omega
        have hk1 : k < d2.size := by omega
        have hk2 : k - 1 < d2.size := by omega
        have hk1' : k < d.size := by omega
        have hk2' : k - 1 < d.size := by omega
        (refine W_pre ?_; simp (disch := omega) only [wrap_i64, go_sem, ixs_msl hk1', ixs_msl hk2', e1, ho2.loadA hk1, ho2.loadA hk2, ho2.storeA hk1])
        have ho3 : Own .i64 (h2.put b (.row ((d2.setIfInBounds k d2[k - 1]!).toList.map (.int .i64 ·)) 3)) 3 b (d2.setIfInBounds k d2[k - 1]!).toList := ho2.put _
        simp (disch := omega) only [wrap_i64, go_sem, ho3.storeA (show k - 1 < (d2.setIfInBounds k d2[k - 1]!).size by simpa using hk2)]
        (refine W_opsM ?_; simp (disch := omega) only [wrap_i64, go_sem, e1])
        obtain ⟨j, rfl⟩ : ∃ j, k = j + 1 := ⟨k - 1, by omega⟩
        simp only [Nat.add_sub_cancel] at *
        refine ⟨j, by omega, j, swp d2 (j + 1) j, _, _, _, rfl, by omega, by omega, by rw [swp_size]; exact hs2, ?_, ho3.put _, hu2.put.put, ?_, rfl⟩
        · intro i hi
          rw [swp_get d2 hk1 hk2]
          split
          · exact hd2 _ hk1'
          · split
            · exact hd2 _ hk2'
            · exact hd2 i hi
        · rw [← he2, insInner, if_pos (by simp [hlt]; omega)]
      · (refine W_exit ?_; simp only [go_sem, Nat.reduceEqDiff, reduceIte])
        rw [hb] at ht
        (refine W_opsM ?_; simp (disch := omega) only [wrap_i64, go_sem])
        have he3 : insInner lt a k d2 = d2 := by
          cases k with
          | zero => rfl
          | succ j =>
            rw [insInner, if_neg]
            rw [Nat.add_sub_cancel] at ht
            simp only [Bool.false_eq, Bool.and_eq_false_iff, decide_eq_false_iff_not] at ht
            simp only [Bool.and_eq_true, decide_eq_true_eq]
            rintro ⟨h3, h4⟩
            rcases ht with h5 | h5
            · omega
            · rw [h4] at h5; cases h5
        refine ⟨bn - (i + 1), by omega, i + 1, d2, h2, _, _, _, rfl, by omega, by omega, hs2, hd2, ho2, hu2, ?_, rfl⟩
        have he4 : insOuter lt a bn i d1 = insOuter lt a bn (i + 1) (insInner lt a i d1) := by rw [insOuter, if_pos (by omega)]
        rw [← he1, he4, ← he2, he3]
    by_cases hp : (k : Int) > (a : Int)
    · have e1 : (k : Int) - 1 = ((k - 1 : Nat) : Int) := by omega
      have hk1 : k < d2.size := by omega
      have hk2 : k - 1 < d2.size := by omega
      have hk1' : k < d.size := by omega
      have hk2' : k - 1 < d.size := by omega
      (refine W_pre ?_; simp (disch := omega) only [wrap_i64, go_sem, hp, ixs_msl hk1', ixs_msl hk2', e1, ho2.loadA hk1, ho2.loadA hk2])
      refine WT_call rfl rfl ?_
      refine (hc h2 (by rw [hu2.next, ent_next]) (fun c hc => by rw [hu2.get c hc, ent_get]) _ _ (hd2 k hk1') (hd2 (k - 1) hk2')).mono ?_
      rintro _ _ ⟨rfl, c, rfl, hcl⟩
      simp (disch := omega) only [wrap_i64, go_sem, hp]
      refine hk _ ?_
      rw [decide_eq_true (show a < k by omega), Bool.true_and]
      by_cases h5 : c < 0
      · rw [hcl.1 h5]; simpa using h5
      · rw [show lt d2[k]! d2[k - 1]! = false from Bool.eq_false_iff.2 fun h6 => h5 (hcl.2 h6)]; simpa using h5
    · have hp' : ¬ a < k := by omega
      (refine W_pre ?_; simp (disch := omega) only [wrap_i64, go_sem, hp])
      exact hk false (by simp [hp'])
  · (refine W_exit ?_; simp only [go_sem, Nat.reduceEqDiff, reduceIte])
    have he2 : d1 = insertionSort lt d a bn := by
      rw [← he1, insOuter, if_neg (by omega)]
    rw [← he2]
    exact fin_updN hu1 ho1 rfl
end
end Go.Proofs.YtnkcimeebobjaaaDoor.fitNearest
namespace Go.Proofs.YtnkcimeebobjaaaDoor.fitNearest
/-- filled up to i -/
theorem fill_set {α : Type} {l : List α} {n i : Nat} {z : α} (hl : l.length = n) (hi : i < n) : (l.take i ++ List.replicate (n - i) z).set i (l[i]'(by omega)) = l.take (i + 1) ++ List.replicate (n - (i + 1)) z := by
  rw [List.set_append, if_neg (by simp; omega), List.length_take, Nat.min_eq_left (by omega), Nat.sub_self]
  obtain ⟨m, hm⟩ : ∃ m, n - i = m + 1 := ⟨n - i - 1, by omega⟩
  rw [hm, List.replicate_succ, List.set_cons_zero, List.take_succ_eq_append_getElem (by omega), List.append_assoc, show n - (i + 1) = m by omega]
  rfl
theorem fill_len {α : Type} {l : List α} {n i : Nat} {z : α} (hl : l.length = n) (hi : i ≤ n) : (l.take i ++ List.replicate (n - i) z).length = n := by
  simp; omega
theorem sum_take {l : List Int} {i : Nat} (hi : i < l.length) : (l.take (i + 1)).sum = (l.take i).sum + l[i] := by
  rw [List.take_succ_eq_append_getElem hi, List.sum_append]; simp
theorem sum_le {B : Int} : ∀ {l : List Int}, (∀ x ∈ l, 0 ≤ x ∧ x ≤ B) → 0 ≤ l.sum ∧ l.sum ≤ B * l.length
  | [], _ => by simp
  | x :: l, h => by
    have h1 := h x List.mem_cons_self
    have h2 := sum_le (l := l) fun y hy => h y (List.mem_cons_of_mem _ hy)
    simp only [List.sum_cons, List.length_cons, Int.natCast_add, Int.mul_add]
    omega
theorem sum_take_le {l : List Int} (h : ∀ x ∈ l, 0 ≤ x) : ∀ i, (l.take i).sum ≤ l.sum := by
  induction l with
  | nil => simp
  | cons x l ih =>
    intro i
    have h1 := h x List.mem_cons_self
    have h2 := fun y hy => h y (List.mem_cons_of_mem _ hy)
    have h3 : ∀ {l : List Int}, (∀ x ∈ l, 0 ≤ x) → 0 ≤ l.sum := by
      intro l
      induction l with
      | nil => simp
      | cons x l ih => intro h; have := h x List.mem_cons_self; have := ih fun y hy => h y (List.mem_cons_of_mem _ hy); simp; omega
    cases i with
    | zero => simp; have := h3 h2; omega
    | succ i => simp; exact ih h2 i
theorem sum_pos {l : List Int} (h : ∀ x ∈ l, 0 ≤ x) : 0 ≤ l.sum := by have := sum_take_le h 0; simpa using this
theorem sum_zero {l : List Int} (h : ∀ x ∈ l, 0 ≤ x) (hz : l.sum = 0) : ∀ x ∈ l, x = 0 := by
  induction l with
  | nil => simp
  | cons y l ih =>
    have h1 := h y List.mem_cons_self
    have h2 := sum_pos fun x hx => h x (List.mem_cons_of_mem _ hx)
    simp only [List.sum_cons] at hz
    intro x hx
    rcases List.mem_cons.1 hx with rfl | hx
    · omega
    · exact ih (fun x hx => h x (List.mem_cons_of_mem _ hx)) (by omega) x hx

def idxs (n : Nat) : List Int := (List.range n).map fun i : Nat => (i : Int)
theorem idxs_len (n : Nat) : (idxs n).length = n := by simp [idxs]
theorem idxs_get {n i : Nat} (h : i < (idxs n).length) : (idxs n)[i] = (i : Int) := by simp [idxs]
def cs (l : List Int) : List Int := if l.sum = 0 then List.replicate l.length 1 else l
def ts (l : List Int) : Int := if l.sum = 0 then l.length else l.sum
theorem cs_len (l : List Int) : (cs l).length = l.length := by unfold cs; split <;> simp
theorem cs_sum (l : List Int) : (cs l).sum = ts l := by
  unfold cs ts
  split
  · have : ∀ n : Nat, (List.replicate n (1 : Int)).sum = n := by
      intro n
      induction n with
      | zero => rfl
      | succ n ih => simp [List.replicate_succ, ih]; omega
    exact this _
  · rfl
theorem ts_pos {l : List Int} (h : ∀ x ∈ l, 0 ≤ x) (hn : 0 < l.length) : 0 < ts l := by
  unfold ts
  have := sum_pos h
  split <;> omega
theorem cs_bd {l : List Int} {B : Int} (hB : 1 ≤ B) (h : ∀ x ∈ l, 0 ≤ x ∧ x ≤ B) : ∀ x ∈ cs l, 0 ≤ x ∧ x ≤ B := by
  unfold cs
  split
  · intro x hx; rw [List.mem_replicate] at hx; omega
  · exact h
section
variable (l : List Int) (all : Int)
def qs : List Int := (cs l).map fun c => all * c / ts l
def rts : List Int := (cs l).map fun c => all * c - all * c / ts l * ts l
def leftS : Int := all - (qs l all).sum
end
theorem rts_bd {l : List Int} {all : Int} (ht : 0 < ts l) : ∀ x ∈ rts l all, 0 ≤ x ∧ x < ts l := by
  intro x hx
  unfold rts at hx
  rw [List.mem_map] at hx
  obtain ⟨c, _, rfl⟩ := hx
  have h1 := Int.emod_add_mul_ediv (all * c) (ts l)
  have h2 := Int.emod_nonneg (all * c) (show ts l ≠ 0 by omega)
  have h3 := Int.emod_lt_of_pos (all * c) ht
  rw [Int.mul_comm (ts l)] at h1
  omega
theorem left_eq (l : List Int) (all : Int) : leftS l all * ts l = (rts l all).sum := by
  have key : ∀ (c : List Int) (t : Int), all * c.sum - (c.map fun c => all * c / t).sum * t = (c.map fun c => all * c - all * c / t * t).sum := by
    intro c t
    induction c with
    | nil => simp
    | cons x c ih => simp only [List.sum_cons, List.map_cons]; rw [← ih, Int.mul_add, Int.add_mul]; omega
  unfold leftS qs rts
  rw [← key, cs_sum, Int.sub_mul]
theorem sum_lt {B : Int} : ∀ {l : List Int}, (∀ x ∈ l, 0 ≤ x ∧ x < B) → l ≠ [] → l.sum < B * l.length
  | [], _, h => absurd rfl h
  | [x], h, _ => by have := h x List.mem_cons_self; simp; omega
  | x :: y :: l, h, _ => by
    have h1 := h x List.mem_cons_self
    have h2 := sum_lt (l := y :: l) (fun z hz => h z (List.mem_cons_of_mem _ hz)) (by simp)
    rw [List.sum_cons, List.length_cons (a := x), Int.natCast_add, Int.mul_add]
    omega
theorem left_bd {l : List Int} {all : Int} (h : ∀ x ∈ l, 0 ≤ x) (hn : 0 < l.length) : 0 ≤ leftS l all ∧ leftS l all < l.length := by
  have ht := ts_pos h hn
  have h1 := left_eq l all
  have h2 := rts_bd (all := all) ht
  have h3 := sum_pos fun x hx => (h2 x hx).1
  have h4 := sum_lt h2 (by intro h; have h5 := congrArg List.length h; rw [show (rts l all).length = l.length by simp [rts, cs_len]] at h5; simp at h5; rw [h5] at hn; simp at hn)
  rw [show (rts l all).length = l.length by simp [rts, cs_len]] at h4
  rw [← h1] at h3 h4
  constructor
  · exact Int.nonneg_of_mul_nonneg_left h3 ht
  · rw [Int.mul_comm] at h4
    exact Int.lt_of_mul_lt_mul_left h4 (Int.le_of_lt ht)

def cmpG (rs : List Int) (i j : Nat) : Int := if rs.getD i 0 ≠ rs.getD j 0 then rs.getD j 0 - rs.getD i 0 else (i : Int) - (j : Int)
def ltG (rs : List Int) (x y : Int) : Bool := decide (cmpG rs x.toNat y.toNat < 0)
theorem ltG_iff {rs : List Int} {x y : Int} : ltG rs x y = true ↔ rs.getD y.toNat 0 < rs.getD x.toNat 0 ∨ rs.getD x.toNat 0 = rs.getD y.toNat 0 ∧ x.toNat < y.toNat := by
  unfold ltG cmpG
  rw [decide_eq_true_eq]
  split <;> omega
theorem ltG_swo (rs : List Int) : Go.Sort.SWO (ltG rs) where
  irrefl x := Bool.eq_false_iff.2 fun h => by rw [ltG_iff] at h; omega
  trans x y z h1 h2 := by rw [ltG_iff] at *; omega
  ntrans x y z h1 h2 := Bool.eq_false_iff.2 fun h => by
    have h1 : ¬ ltG rs x y = true := by simp [h1]
    have h2 : ¬ ltG rs y z = true := by simp [h2]
    rw [ltG_iff] at *
    omega
/-- what is given out -/
structure IsShares (c : List Int) (t all least : Int) (out : List Int) : Prop where
  len : out.length = c.length
  pick : ∃ T : List Nat, T.Nodup ∧ (∀ i ∈ T, i < c.length) ∧ (T.length : Int) = all - (c.map fun c => all * c / t).sum ∧
    (∀ (i : Nat) (hi : i < out.length) (hc : i < c.length), out[i] = least + all * c[i] / t + if i ∈ T then 1 else 0) ∧
    ∀ i j, i ∈ T → j < c.length → j ∉ T → ltG (c.map fun c => all * c - all * c / t * t) i j = true
theorem mem_le_sum : ∀ {l : List Int}, (∀ x ∈ l, 0 ≤ x) → ∀ x ∈ l, x ≤ l.sum
  | [], _, x, hx => by cases hx
  | y :: l, h, x, hx => by
    have h1 := h y List.mem_cons_self
    have h2 := sum_pos fun x hx => h x (List.mem_cons_of_mem _ hx)
    rw [List.sum_cons]
    rcases List.mem_cons.1 hx with rfl | hx
    · omega
    · have := mem_le_sum (fun x hx => h x (List.mem_cons_of_mem _ hx)) x hx; omega
theorem ltG_total {rs : List Int} {i j : Nat} (h : i ≠ j) (hn : ltG rs j i = false) : ltG rs i j = true := by
  have h1 : ¬ ltG rs (j : Int) (i : Int) = true := by simp [hn]
  rw [ltG_iff] at *
  simp only [Int.toNat_natCast] at *
  omega
/-- what the sort gives, as places -/
theorem ord_facts {n : Nat} {d : Array Int} (hp : Go.Sort.PermIn 0 n (idxs n).toArray d) : d.size = n ∧ ∃ o : List Nat, o.Perm (List.range n) ∧ d.toList = o.map fun i : Nat => (i : Int) := by
  obtain ⟨h1, _, h3⟩ := hp
  have hs : (idxs n).toArray.size = n := by simp [idxs_len]
  rw [hs] at h1
  have ex : ∀ (d : Array Int) (m : Nat), d.size = m → d.extract 0 m = d := fun d m h => by subst h; exact Array.extract_size
  have e1 := ex d n h1
  have e2 := ex _ n hs
  rw [e1, e2] at h3
  have h4 : d.toList.Perm (idxs n) := h3
  refine ⟨h1, d.toList.map Int.toNat, ?_, ?_⟩
  · have := h4.map Int.toNat
    rwa [show (idxs n).map Int.toNat = List.range n by simp [idxs, Function.comp_def]] at this
  · rw [List.map_map]
    have h5 : ∀ x ∈ d.toList, 0 ≤ x := fun x hx => by
      have := h4.mem_iff.1 hx
      simp [idxs] at this
      omega
    have h6 : ∀ l : List Int, (∀ x ∈ l, 0 ≤ x) → l = l.map ((fun i : Nat => (i : Int)) ∘ Int.toNat) := by
      intro l
      induction l with
      | nil => intro _; rfl
      | cons x l ih =>
        intro h
        rw [List.map_cons, ← ih fun x hx => h x (List.mem_cons_of_mem _ hx)]
        have := h x List.mem_cons_self
        simp [Int.toNat_of_nonneg this]
    exact h6 _ h5
/-- the places that are taken first -/
theorem shares_of {c : List Int} {t all least : Int} {out : List Int} {d : Array Int} {o : List Nat} {k : Nat} (hl : out.length = c.length) (ho : o.Perm (List.range c.length)) (hd : d.toList = o.map fun i : Nat => (i : Int)) (hk : k ≤ c.length)
    (hs : Go.Sort.SortedIn (ltG (c.map fun c => all * c - all * c / t * t)) 0 c.length d) (hsum : (k : Int) = all - (c.map fun c => all * c / t).sum)
    (hout : ∀ (i : Nat) (hi : i < out.length) (hc : i < c.length), out[i] = least + all * c[i] / t + if i ∈ o.take k then 1 else 0) : IsShares c t all least out := by
  have hnd : o.Nodup := ho.nodup_iff.2 List.nodup_range
  have hol : o.length = c.length := by rw [ho.length_eq]; simp
  have hmem : ∀ i, i ∈ o ↔ i < c.length := fun i => by rw [ho.mem_iff]; simp
  have hds : d.size = c.length := by rw [← hol, ← Array.length_toList, hd]; simp
  refine ⟨hl, o.take k, hnd.sublist (List.take_sublist _ _), fun i hi => (hmem i).1 (List.mem_of_mem_take hi), by rw [List.length_take, hol, Nat.min_eq_left hk]; exact hsum, hout, ?_⟩
  intro i j hi hj hnj
  obtain ⟨p, hp, rfl⟩ := List.getElem_of_mem hi
  obtain ⟨q, hq, rfl⟩ := List.getElem_of_mem ((hmem j).2 hj)
  rw [List.length_take] at hp
  rw [List.getElem_take] at hi ⊢
  have hqk : k ≤ q := Nat.le_of_not_lt fun h => hnj (by
    have : (o.take k)[q]'(by rw [List.length_take]; omega) = o[q] := List.getElem_take
    rw [← this]; exact List.getElem_mem _)
  have hget : ∀ r (hr : r < o.length), d[r]! = ((o[r] : Nat) : Int) := fun r hr => by
    rw [getElem!_pos d r (by omega), ← Array.getElem_toList]
    simp [hd]
  have h1 := hs p q (Nat.zero_le _) (by omega) (by omega)
  rw [hget p (by omega), hget q hq] at h1
  have hne : o[p]'(by omega) ≠ o[q] := fun h => hnj (h ▸ hi)
  exact ltG_total hne h1
def minL : List Int → Int
  | [] => 0
  | x :: l => l.foldl min x
def maxL : List Int → Int
  | [] => 0
  | x :: l => l.foldl max x
theorem foldl_min_le (l : List Int) : ∀ (x B : Int), B ≤ l.foldl min x ↔ B ≤ x ∧ ∀ y ∈ l, B ≤ y := by
  induction l with
  | nil => intro x B; simp
  | cons y l ih =>
    intro x B
    rw [List.foldl_cons, ih]
    simp only [List.mem_cons, forall_eq_or_imp]
    constructor
    · rintro ⟨h1, h2⟩; exact ⟨by omega, by omega, h2⟩
    · rintro ⟨h1, h2, h3⟩; exact ⟨by omega, h3⟩
theorem foldl_max_le (l : List Int) : ∀ (x B : Int), l.foldl max x ≤ B ↔ x ≤ B ∧ ∀ y ∈ l, y ≤ B := by
  induction l with
  | nil => intro x B; simp
  | cons y l ih =>
    intro x B
    rw [List.foldl_cons, ih]
    simp only [List.mem_cons, forall_eq_or_imp]
    constructor
    · rintro ⟨h1, h2⟩; exact ⟨by omega, by omega, h2⟩
    · rintro ⟨h1, h2, h3⟩; exact ⟨by omega, h3⟩
theorem minL_le {l : List Int} (hl : l ≠ []) {B : Int} : B ≤ minL l ↔ ∀ x ∈ l, B ≤ x := by
  cases l with
  | nil => exact absurd rfl hl
  | cons x l => simp only [minL, foldl_min_le, List.mem_cons, forall_eq_or_imp]
theorem maxL_le {l : List Int} (hl : l ≠ []) {B : Int} : maxL l ≤ B ↔ ∀ x ∈ l, x ≤ B := by
  cases l with
  | nil => exact absurd rfl hl
  | cons x l => simp only [maxL, foldl_max_le, List.mem_cons, forall_eq_or_imp]
/-- the arguments of Round are right -/
def Good (l : List Int) (grain least : Int) : Prop := 1 ≤ l.length ∧ l.length ≤ 1024 ∧ (∀ x ∈ l, 0 ≤ x ∧ x ≤ 1099511627776) ∧ 1 ≤ grain ∧ grain ≤ 720 ∧ 0 ≤ least ∧ least * l.length ≤ grain
/-- the sum of the distances of shares from what is due -/
def dst (t r least c w : Int) : Int := max (t * (w - least) - r * c) (0 - (t * (w - least) - r * c))
def dists (c w : List Int) (t r least : Int) : List Int := (c.zip w).map fun p => dst t r least p.1 p.2
def dist (c w : List Int) (grain least : Int) : Int := (dists c w c.sum (grain - least * c.length) least).sum
end Go.Proofs.YtnkcimeebobjaaaDoor.fitNearest
namespace Go.Proofs.YtnkcimeebobjaaaDoor.fitNearest
open Hx Go
set_option maxRecDepth 100000
attribute [local irreducible] cSeq cOps cPre cCnd cBlk cLoop cScope cExit cRet cNop cRng Heap.ent Heap.setLow
section
variable {F : Nat → Nat → CallFn} (hF : IsEv KC Kt F)
theorem minL_step {l : List Int} {i : Nat} (h0 : 0 < i) (hi : i < l.length) : minL (l.take (i + 1)) = min (minL (l.take i)) l[i] := by
  cases l with
  | nil => simp at hi
  | cons x l =>
    cases i with
    | zero => omega
    | succ i =>
      have hi' : i < l.length := by simpa using hi
      simp only [minL, List.take_succ_cons, List.getElem_cons_succ]
      rw [List.take_succ_eq_append_getElem hi', List.foldl_append]; rfl
theorem maxL_step {l : List Int} {i : Nat} (h0 : 0 < i) (hi : i < l.length) : maxL (l.take (i + 1)) = max (maxL (l.take i)) l[i] := by
  cases l with
  | nil => simp at hi
  | cons x l =>
    cases i with
    | zero => omega
    | succ i =>
      have hi' : i < l.length := by simpa using hi
      simp only [maxL, List.take_succ_cons, List.getElem_cons_succ]
      rw [List.take_succ_eq_append_getElem hi', List.foldl_append]; rfl
include hF
theorem gt_ok {h : Heap} {v : AV} {rs : List Int} {i j : Nat} (hv : Ints .i64 h 3 v rs) (hi : i < rs.length) (hj : j < rs.length) (hb : ∀ x ∈ rs, 0 ≤ x ∧ x ≤ 4611686018427387904) (hn : rs.length < 4611686018427387904) :
    WV F (.fn (.func 77) [v] []) [.int .i64 (i : Int), .int .i64 (j : Int)] h (fun r h' => h' = h ∧ r = .val (.int .i64 (cmpG rs i j))) := by
  have hv' := hv.ext (Ext.ent h)
  refine Kentc77 hF (first := [v]) (cap := []) (as := [.int .i64 (i : Int), .int .i64 (j : Int)]) rfl (by simp) ?_
  obtain ⟨p, h1, h2⟩ := hv'.at hi
  obtain ⟨q, h3, h4⟩ := hv'.at hj
  have b1 := hb _ (List.getElem_mem hi)
  have b2 := hb _ (List.getElem_mem hj)
  have g1 : rs.getD i 0 = rs[i] := by simp [List.getD, hi]
  have g2 : rs.getD j 0 = rs[j] := by simp [List.getD, hj]
  refine W_seq ?_
  (refine W_opsM ?_; simp only [go_sem])
  refine W_seq ?_
  refine W_seq ?_
  (refine W_pre ?_; simp only [go_sem, h1, h2, h3, h4])
  refine W_cndP rfl (fun hc => ?_) (fun hc => ?_)
  · refine W_seq ?_
    (refine W_pre ?_; simp (disch := omega) only [wrap_i64, go_sem, h1, h2, h3, h4])
    refine W_ret ?_
    simp only [go_sem]
    refine fin_out ent_low_le rfl rfl rfl ⟨rfl, ?_⟩
    unfold cmpG
    rw [g1, g2, if_pos hc]; rfl
  · (refine W_nop ?_; simp only [go_sem])
    refine W_seq ?_
    (refine W_opsM ?_; simp (disch := omega) only [wrap_i64, go_sem])
    refine W_ret ?_
    refine fin_out ent_low_le rfl rfl rfl ⟨rfl, ?_⟩
    unfold cmpG
    rw [g1, g2, if_neg hc]; rfl
theorem len64_ok {h : Heap} {x : Nat} (hx : x < 65536) : WV F (.fn (.func 112) [] []) [.int .u64 (x : Int)] h (fun r h' => h' = h ∧ ∃ c : Int, r = .val (.int .i64 c) ∧ 0 ≤ c ∧ c ≤ 1000) := by
  refine Kent112 hF ?_
  refine W_seq ?_
  (refine W_opsM ?_; simp only [go_sem])
  refine W_seq ?_
  refine W_seq ?_
  (refine W_opsM ?_; simp only [go_sem])
  refine W_cndP rfl (fun hc => ?_) (fun hc => ?_)
  · omega
  (refine W_nop ?_; simp only [go_sem])
  refine W_seq ?_
  refine W_seq ?_
  (refine W_opsM ?_; simp only [go_sem])
  refine W_cndP rfl (fun hc => ?_) (fun hc => ?_)
  · omega
  (refine W_nop ?_; simp only [go_sem])
  refine W_seq ?_
  refine W_seq ?_
  (refine W_opsM ?_; simp only [go_sem])
  refine W_cndP rfl (fun hc => ?_) (fun hc => ?_)
  · refine W_seq ?_
    (refine W_opsM ?_; simp (disch := omega) only [wrap_i64, go_sem, Int.reduceToNat, Nat.reducePow])
    (refine W_opsM ?_; simp (disch := omega) only [wrap_i64, go_sem])
    refine W_seq ?_
    (refine W_opsM ?_; simp (disch := omega) only [wrap_i64, go_sem, wrap_u8])
    refine OW_ixc (by show _ < 256; omega) (fun c hc => ?_)
    simp (disch := omega) only [wrap_i64, go_sem]
    refine W_ret ?_
    exact fin_out ent_low_le rfl rfl rfl ⟨rfl, _, rfl, by omega, by omega⟩
  · (refine W_nop ?_; simp only [go_sem])
    refine W_seq ?_
    (refine W_opsM ?_; simp (disch := omega) only [wrap_i64, go_sem, wrap_u8])
    refine OW_ixc (by show _ < 256; omega) (fun c hc => ?_)
    simp (disch := omega) only [wrap_i64, go_sem]
    refine W_ret ?_
    exact fin_out ent_low_le rfl rfl rfl ⟨rfl, _, rfl, by omega, by omega⟩
theorem len_ok {h : Heap} {x : Nat} (hx : x < 65536) : WV F (.fn (.func 98) [] []) [.int .u64 (x : Int)] h (fun r h' => h' = h ∧ ∃ c : Int, r = .val (.int .i64 c) ∧ 0 ≤ c ∧ c ≤ 1000) := by
  refine Kent98 hF ?_
  refine W_seq ?_
  (refine W_opsM ?_; simp only [go_sem])
  refine W_seq ?_
  refine W_cnd rfl (fun h => by cases h) (fun _ => ?_)
  (refine W_nop ?_; simp only [go_sem])
  refine W_seq ?_
  (refine W_opsM ?_; simp only [go_sem])
  refine WO_call rfl rfl ?_
  refine (len64_ok hF hx).mono ?_
  rintro _ _ ⟨rfl, c, rfl, h1, h2⟩
  simp only [go_sem]
  refine W_ret ?_
  exact fin_out ent_low_le rfl rfl rfl ⟨rfl, _, rfl, h1, h2⟩
open Go.Sort in
/-- pdqsort at few elements -/
theorem pdqS_ok {h : Heap} {b : Nat} {d : Array Int} {g : AV} {lt : Int → Int → Bool} {D : Int → Prop} {c : Int} (ho : Own .i64 h 3 b d.toList) (hc : CmpOk F g h b lt D) (hd : ∀ i : Nat, i < d.size → D d[i]!) (hz : d.size ≤ 12) :
    WV F (.fn (.func 97) [] []) [.msl 3 b 0 d.size, .int .i64 0, .int .i64 d.size, .int .i64 c, g] h (fun r h' => r = .val (.tup []) ∧ Upd h h' b ∧ Own .i64 h' 3 b (insertionSort lt d 0 d.size).toList) := by
  refine Kent97 hF ?_
  refine W_seq ?_
  (refine W_opsM ?_; simp only [go_sem])
  refine W_seq ?_
  (refine W_opsM ?_; simp only [go_sem])
  refine W_blk ?_
  refine W_loop (fun k s => s = _) ?_ (k := 0) rfl
  rintro k s rfl
  refine W_blk ?_
  refine W_seq ?_
  (refine W_opsM ?_; simp (disch := omega) only [wrap_i64, go_sem, Int.sub_zero])
  refine W_seq ?_
  refine W_seq ?_
  (refine W_opsM ?_; simp only [go_sem])
  refine W_cndP rfl (fun hc1 => ?_) (fun hc1 => ?_)
  · refine W_seq ?_
    (refine W_opsM ?_; simp only [go_sem])
    refine WO_call rfl rfl ?_
    refine (ins_ok hF (a := 0) (bn := d.size) (ho.ext (Ext.ent h)) (fun h' h1 h2 => hc h' (by rw [h1, ent_next]) (fun c hc => by rw [h2 c hc, ent_get])) hd (Nat.zero_le _) (Nat.le_refl _) (by omega)).mono ?_
    rintro _ h1 ⟨rfl, hu, ho1⟩
    simp only [go_sem]
    refine W_ret ?_
    simp only [go_sem]
    exact fin_upd hu ho1 rfl
  · omega
theorem min_ok {h : Heap} {v : AV} {l : List Int} (hv : Ints .i64 h 3 v l) (hl : l ≠ []) (hm : l.length < 2 ^ 62):
    WV F (.fn (.func 46) [] []) [v] h (fun r h' => r = .val (.int .i64 (minL l)) ∧ h' = h) := by
  have h0 : 0 < l.length := List.length_pos_iff.2 hl
  have hv' := hv.ext (Ext.ent h)
  refine Kent46 hF ?_
  refine W_seq ?_
  (refine W_opsM ?_; simp only [go_sem])
  refine W_seq ?_
  refine W_seq ?_
  (refine W_opsM ?_; simp only [go_sem, hv.lens])
  refine W_cndP rfl (fun hc => ?_) (fun hc => ?_)
  · omega
  refine W_nop ?_
  simp only [go_sem]
  refine W_seq ?_
  obtain ⟨p, h1, h2⟩ := hv'.at h0
  (refine W_opsM ?_; simp only [go_sem, h1, h2])
  refine W_seq ?_
  refine W_seq ?_
  (refine W_opsM ?_; simp only [go_sem])
  refine W_blk ?_
  refine W_loop (fun k s => ∃ (i : Nat) (m : Int) (j1 j2 : AV), k = l.length - i ∧ 0 < i ∧ i ≤ l.length ∧ m = minL (l.take i) ∧ s = ⟨[v, j1, .int .i64 (i : Int), j2, .int .i64 m, .int .i64 0], h.ent, []⟩) ?_ (k := l.length - 1) ⟨1, _, _, _, rfl, by omega, by omega, ?_, rfl⟩
  · rintro k s ⟨i, m, j1, j2, rfl, hi0, hi, hm, rfl⟩
    refine W_seq ?_
    refine W_seq ?_
    (refine W_opsM ?_; simp only [go_sem, hv.lens])
    refine W_cndP rfl (fun hc => ?_) (fun hc => ?_)
    · refine W_nop ?_
      simp only [go_sem]
      refine W_seq ?_
      refine W_blk ?_
      have hi' : i < l.length := by omega
      obtain ⟨p, h1, h2⟩ := hv'.at hi'
      (refine W_opsM ?_; simp only [go_sem, h1, h2])
      (refine W_opsM ?_; simp (disch := omega) only [wrap_i64, go_sem, wrap_i64])
      exact ⟨_, by omega, i + 1, _, _, _, rfl, by omega, by omega, by rw [minL_step hi0 hi', hm], rfl⟩
    · refine W_exit ?_
      simp only [go_sem]
      refine W_seq ?_
      (refine W_opsM ?_; simp only [go_sem])
      refine W_ret ?_
      have : i = l.length := by omega
      subst this
      rw [List.take_length] at hm
      exact fin_out ent_low_le rfl rfl rfl ⟨by rw [hm]; rfl, rfl⟩
  · rw [List.take_one]; cases l with
    | nil => simp at h0
    | cons x l => rfl
theorem max_ok {h : Heap} {v : AV} {l : List Int} (hv : Ints .i64 h 3 v l) (hl : l ≠ []) (hm : l.length < 2 ^ 62):
    WV F (.fn (.func 32) [] []) [v] h (fun r h' => r = .val (.int .i64 (maxL l)) ∧ h' = h) := by
  have h0 : 0 < l.length := List.length_pos_iff.2 hl
  have hv' := hv.ext (Ext.ent h)
  refine Kent32 hF ?_
  refine W_seq ?_
  (refine W_opsM ?_; simp only [go_sem])
  refine W_seq ?_
  refine W_seq ?_
  (refine W_opsM ?_; simp only [go_sem, hv.lens])
  refine W_cndP rfl (fun hc => ?_) (fun hc => ?_)
  · omega
  refine W_nop ?_
  simp only [go_sem]
  refine W_seq ?_
  obtain ⟨p, h1, h2⟩ := hv'.at h0
  (refine W_opsM ?_; simp only [go_sem, h1, h2])
  refine W_seq ?_
  refine W_seq ?_
  (refine W_opsM ?_; simp only [go_sem])
  refine W_blk ?_
  refine W_loop (fun k s => ∃ (i : Nat) (m : Int) (j1 j2 : AV), k = l.length - i ∧ 0 < i ∧ i ≤ l.length ∧ m = maxL (l.take i) ∧ s = ⟨[v, j1, .int .i64 (i : Int), j2, .int .i64 m, .int .i64 0], h.ent, []⟩) ?_ (k := l.length - 1) ⟨1, _, _, _, rfl, by omega, by omega, ?_, rfl⟩
  · rintro k s ⟨i, m, j1, j2, rfl, hi0, hi, hm, rfl⟩
    refine W_seq ?_
    refine W_seq ?_
    (refine W_opsM ?_; simp only [go_sem, hv.lens])
    refine W_cndP rfl (fun hc => ?_) (fun hc => ?_)
    · refine W_nop ?_
      simp only [go_sem]
      refine W_seq ?_
      refine W_blk ?_
      have hi' : i < l.length := by omega
      obtain ⟨p, h1, h2⟩ := hv'.at hi'
      (refine W_opsM ?_; simp only [go_sem, h1, h2])
      (refine W_opsM ?_; simp (disch := omega) only [wrap_i64, go_sem, wrap_i64])
      exact ⟨_, by omega, i + 1, _, _, _, rfl, by omega, by omega, by rw [maxL_step hi0 hi', hm], rfl⟩
    · refine W_exit ?_
      simp only [go_sem]
      refine W_seq ?_
      (refine W_opsM ?_; simp only [go_sem])
      refine W_ret ?_
      have : i = l.length := by omega
      subst this
      rw [List.take_length] at hm
      exact fin_out ent_low_le rfl rfl rfl ⟨by rw [hm]; rfl, rfl⟩
  · rw [List.take_one]; cases l with
    | nil => simp at h0
    | cons x l => rfl
open Go.Sort in
theorem sortS_ok {h : Heap} {b : Nat} {d : Array Int} {g : AV} {lt : Int → Int → Bool} {D : Int → Prop} (ho : Own .i64 h 3 b d.toList) (hc : CmpOk F g h b lt D) (hd : ∀ i : Nat, i < d.size → D d[i]!) (hz : d.size ≤ 12) :
    WV F (.fn (.func 76) [] []) [.msl 3 b 0 d.size, g] h (fun r h' => r = .val (.tup []) ∧ Upd h h' b ∧ Own .i64 h' 3 b (insertionSort lt d 0 d.size).toList) := by
  refine Kent76 hF ?_
  refine W_seq ?_
  (refine W_opsM ?_; simp only [go_sem])
  refine W_opsM ?_
  simp (disch := omega) only [wrap_i64, go_sem, wrap_u64]
  refine WO_call rfl rfl ?_
  refine (len_ok hF (show d.size < 65536 by omega)).mono ?_
  rintro _ _ ⟨rfl, c, rfl, h1, h2⟩
  simp only [go_sem]
  refine WO_call rfl rfl ?_
  refine (pdqS_ok hF (ho.ext (Ext.ent h)) (fun h' h1 h2 => hc h' (by rw [h1, ent_next]) (fun c hc => by rw [h2 c hc, ent_get])) hd hz).mono ?_
  rintro _ h1 ⟨rfl, hu, ho1⟩
  simp only [go_sem]
  exact fin_updN hu ho1 rfl
theorem cmpG_ok {h : Heap} {v : AV} {rs : List Int} {b : Nat} (hv : ∀ h', h'.next = h.next → (∀ c, c ≠ b → h'.get c = h.get c) → Ints .i64 h' 3 v rs) (hb : ∀ x ∈ rs, 0 ≤ x ∧ x ≤ 4611686018427387904) (hn : rs.length < 4611686018427387904) :
    CmpOk F (.fn (.func 77) [v] []) h b (ltG rs) (fun x => 0 ≤ x ∧ x < rs.length) := by
  intro h' h1 h2 x y hx hy
  obtain ⟨i, rfl⟩ := Int.eq_ofNat_of_zero_le hx.1
  obtain ⟨j, rfl⟩ := Int.eq_ofNat_of_zero_le hy.1
  refine (gt_ok hF (hv h' h1 h2) (by omega) (by omega) hb hn).mono ?_
  rintro _ _ ⟨rfl, rfl⟩
  exact ⟨rfl, _, rfl, by simp [ltG]⟩
theorem mul64_ok {h : Heap} {x y : Nat} (hx : x < 4294967296) (hy : y < 4294967296) : WV F (.fn (.func 94) [] []) [.int .u64 (x : Int), .int .u64 (y : Int)] h (fun r h' => h' = h ∧ r = .val (.tup [.int .u64 0, .int .u64 ((x * y : Nat) : Int)])) := by
  have hm : x * y ≤ 4294967295 * 4294967295 := Nat.mul_le_mul (by omega) (by omega)
  have hm' : x * y / 4294967296 < 4294967296 := by omega
  have hx0 : x / 4294967296 = 0 := by omega
  have hy0 : y / 4294967296 = 0 := by omega
  refine Kent94 hF ?_
  refine W_seq ?_
  (refine W_opsM ?_; simp only [go_sem])
  refine W_seq ?_
  (refine W_opsM ?_; simp (disch := omega) only [wrap_i64, go_sem, Int.reduceToNat, Nat.reducePow, and_mask32 hx])
  refine W_seq ?_
  (refine W_opsM ?_; simp (disch := omega) only [wrap_i64, go_sem, Int.reduceToNat, Nat.reducePow, hx0])
  refine W_seq ?_
  (refine W_opsM ?_; simp (disch := omega) only [wrap_i64, go_sem, Int.reduceToNat, Nat.reducePow, and_mask32 hy])
  refine W_seq ?_
  (refine W_opsM ?_; simp (disch := omega) only [wrap_i64, go_sem, Int.reduceToNat, Nat.reducePow, hy0])
  refine W_seq ?_
  (refine W_opsM ?_; simp (disch := omega) only [wrap_i64, go_sem, Int.reduceToNat, Nat.reducePow, wrap_u64, ← Int.natCast_mul])
  refine W_seq ?_
  (refine W_opsM ?_; simp (disch := omega) only [wrap_i64, go_sem, Int.reduceToNat, Nat.reducePow, wrap_u64, Int.zero_mul, Int.zero_add])
  refine W_seq ?_
  (refine W_opsM ?_; simp (disch := omega) only [wrap_i64, go_sem, Int.reduceToNat, Nat.reducePow, and_mask32 hm'])
  refine W_seq ?_
  (refine W_opsM ?_; simp (disch := omega) only [wrap_i64, go_sem, Int.reduceToNat, Nat.reducePow, show x * y / 4294967296 / 4294967296 = 0 by omega])
  refine W_seq ?_
  (refine W_opsM ?_; simp (disch := omega) only [wrap_i64, go_sem, Int.reduceToNat, Nat.reducePow, wrap_u64, Int.mul_zero, Int.add_zero])
  refine W_seq ?_
  (refine W_opsM ?_; simp (disch := omega) only [wrap_i64, go_sem, Int.reduceToNat, Nat.reducePow, wrap_u64, Int.zero_mul, Int.add_zero, show x * y / 4294967296 / 4294967296 = 0 by omega])
  refine W_seq ?_
  (refine W_opsM ?_; simp (disch := omega) only [wrap_i64, go_sem, Int.reduceToNat, Nat.reducePow, wrap_u64, ← Int.natCast_mul])
  refine W_ret ?_
  exact fin_out ent_low_le rfl rfl rfl ⟨rfl, rfl⟩
theorem mul_ok {h : Heap} {x y : Nat} (hx : x < 4294967296) (hy : y < 4294967296) : WV F (.fn (.func 71) [] []) [.int .u64 (x : Int), .int .u64 (y : Int)] h (fun r h' => h' = h ∧ r = .val (.tup [.int .u64 0, .int .u64 ((x * y : Nat) : Int)])) := by
  refine Kent71 hF ?_
  refine W_seq ?_
  (refine W_opsM ?_; simp only [go_sem])
  refine W_seq ?_
  refine W_cnd rfl (fun h => by cases h) (fun _ => ?_)
  (refine W_nop ?_; simp only [go_sem])
  refine W_seq ?_
  (refine W_opsM ?_; simp only [go_sem])
  refine WO_call rfl rfl ?_
  refine (mul64_ok hF hx hy).mono ?_
  rintro _ _ ⟨rfl, rfl⟩
  simp only [go_sem]
  refine W_seq ?_
  (refine W_opsM ?_; simp only [go_sem])
  refine W_ret ?_
  exact fin_out ent_low_le rfl rfl rfl ⟨rfl, rfl⟩
theorem rep_ok {h : Heap} {v : AV} {y : Int} {n : Nat} (hv : Ints .i64 h 3 v [y]) (hn : 0 < n) (hn' : n < 65536) (hy : y ≤ 9223372036854775807) :
    WV F (.fn (.func 34) [] []) [v, .int .i64 (n : Int)] h (fun r h' => ∃ b, r = .val (.msl 3 b 0 n) ∧ Grow h h' ∧ h.next ≤ b ∧ Own .i64 h' 3 b (List.replicate n y)) := by
  have hv' := hv.ext (Ext.ent h)
  refine Kent34 hF ?_
  refine W_seq ?_
  (refine W_opsM ?_; simp only [go_sem])
  refine W_seq ?_
  refine W_seq ?_
  (refine W_opsM ?_; simp only [go_sem])
  refine W_cndP rfl (fun hc => ?_) (fun hc => ?_)
  · omega
  (refine W_nop ?_; simp only [go_sem])
  refine W_seq ?_
  refine W_opsM ?_
  simp (disch := omega) only [wrap_i64, go_sem, hv.lens, List.length_singleton, wrap_u64]
  refine WO_call rfl rfl ?_
  refine (mul_ok hF (x := 1) (y := n) (by omega) (by omega)).mono ?_
  rintro _ _ ⟨rfl, rfl⟩
  simp only [go_sem, Nat.one_mul]
  refine W_seq ?_
  refine W_seq ?_
  have e1 : ((n : Int) > 9223372036854775807) = False := by simp; omega
  (refine W_opsM ?_; simp only [go_sem, gt_iff_lt, Int.lt_irrefl, show ((0:Int) < 0) = False from by simp, show ((9223372036854775807 : Int) < (n : Int)) = False by simp; omega])
  refine W_cnd rfl (fun h => by cases h) (fun _ => ?_)
  (refine W_nop ?_; simp only [go_sem])
  refine W_seq ?_
  (refine W_opsM ?_; simp (disch := omega) only [wrap_i64, go_sem, mksE])
  refine W_seq ?_
  have ho := Own.mkZ (k := .i64) h.ent 3 n 0
  have e2 : min 1 n = 1 := by omega
  have hc : sliceCells (h.ent.push (.row (List.replicate n [AV.int .i64 0]).flatten 3)) 1 1 v = some ([y].map (.int .i64 ·)) := RdS.cells (hv'.ext (Ext.refl h.ent).push)
  have hcp := ho.cpy (n := n) (m := 1) (o := 0) (src := [y]) (RdS.lenA hv) (by rw [e2]; rfl) (by rw [e2]; exact hc) (by simp; omega)
  rw [e2] at hcp
  simp only [ent_next] at hcp ho
  (refine W_opsM ?_; simp (disch := omega) only [wrap_i64, go_sem, hcp, ent_next])
  refine W_seq ?_
  refine W_blk ?_
  have hshape : ∀ j, j ≤ n → (List.replicate j y ++ List.replicate (n - j) 0).length = n := by intro j hj; simp; omega
  refine W_loop (fun k s => ∃ (j : Nat) (h1 : Heap) (j1 j2 j3 j4 j5 : AV), k = n - j ∧ 0 < j ∧ j ≤ n ∧ Ext h.ent h1 ∧ h.next ≤ h1.low ∧ Own .i64 h1 3 h.next (List.replicate j y ++ List.replicate (n - j) 0) ∧
    s = ⟨[v, .int .i64 (n : Int), j1, j2, j3, j4, .msl 3 h.next 0 n, .int .i64 (j : Int), j5, .nils], h1, []⟩) ?_ (k := n - 1) ⟨1, _, _, _, _, _, _, rfl, by omega, by omega, ?_, ?_, ?_, rfl⟩
  · rintro k s ⟨j, h1, j1, j2, j3, j4, j5, rfl, hj0, hjn, he1, hl1, ho1, rfl⟩
    refine W_seq ?_
    refine W_seq ?_
    (refine W_opsM ?_; simp only [go_sem])
    refine W_cndP rfl (fun hc => ?_) (fun hc => ?_)
    · (refine W_nop ?_; simp only [go_sem])
      refine W_blk ?_
      have hjn' : j < n := by omega
      have hcp := ho1.cpy (n := n - j) (m := j) (o := j) (s := .msl 3 h.next 0 j) (src := List.replicate (min j (n - j)) y) rfl (by simp) (by
        rw [ho1.cells (by omega) (by rw [hshape j hjn]; omega), List.drop_zero, List.take_append_of_le_length (by simp; omega), List.take_replicate]; congr 3; omega) (by rw [hshape j hjn]; omega)
      (refine W_pre ?_; simp (disch := omega) only [wrap_i64, go_sem, slc_msl, hcp, Nat.mul_one, Nat.sub_zero])
      refine ⟨n - (j + min j (n - j)), by omega, j + min j (n - j), _, _, _, _, _, _, rfl, by omega, by omega, he1.put (by rw [ent_next]; omega), by rw [low_put]; omega, ?_, rfl⟩
      have : List.take j (List.replicate j y ++ List.replicate (n - j) 0) ++ List.replicate (min j (n - j)) y ++ List.drop (j + min j (n - j)) (List.replicate j y ++ List.replicate (n - j) 0) = List.replicate (j + min j (n - j)) y ++ List.replicate (n - (j + min j (n - j))) 0 := by
        rw [List.take_left' (by simp), List.replicate_append_replicate, List.drop_append, List.drop_of_length_le (by simp), List.drop_replicate, List.nil_append]
        congr 2
        simp; omega
      rw [this]
      exact ho1.put _
    · (refine W_exit ?_; simp only [go_sem, Nat.reduceEqDiff, reduceIte])
      have : j = n := by omega
      subst this
      refine W_seq ?_
      (refine W_opsM ?_; simp only [go_sem])
      refine W_ret ?_
      rw [Nat.sub_self, List.replicate_zero, List.append_nil] at ho1
      exact fin_new (l := [.msl 3 h.next 0 j]) he1 hl1 rfl rfl (fun hg => ⟨_, rfl, hg, Nat.le_refl _, ho1.lower⟩) (fun h => by cases h)
  · exact (Ext.refl h.ent).push.put (by rw [ent_next]; omega)
  · rw [low_put, low_push, ent_low]; omega
  · have : List.take 0 (List.replicate n (0 : Int)) ++ [y] ++ List.drop (0 + 1) (List.replicate n 0) = List.replicate 1 y ++ List.replicate (n - 1) 0 := by simp
    rw [this]
    exact ho.put _
end
end Go.Proofs.YtnkcimeebobjaaaDoor.fitNearest
namespace Go.Proofs.YtnkcimeebobjaaaDoor.fitNearest
open Hx Go
set_option maxRecDepth 100000
attribute [local irreducible] cSeq cOps cPre cCnd cBlk cLoop cScope cExit cRet cNop cRng Heap.ent Heap.setLow
/-- what is asked of the sort of lists of at most n numbers -/
def SortOk (F : Nat → Nat → CallFn) (n : Nat) : Prop := ∀ (h : Heap) (b : Nat) (d : Array Int) (g : AV) (lt : Int → Int → Bool) (D : Int → Prop), Own .i64 h 3 b d.toList → CmpOk F g h b lt D → (∀ i : Nat, i < d.size → D d[i]!) → Go.Sort.SWO lt → d.size ≤ n →
  WV F (.fn (.func 76) [] []) [.msl 3 b 0 d.size, g] h (fun r h' => r = .val (.tup []) ∧ Upd h h' b ∧ ∃ d' : Array Int, Own .i64 h' 3 b d'.toList ∧ Go.Sort.PermIn 0 d.size d d' ∧ Go.Sort.SortedIn lt 0 d.size d')
section
variable {F : Nat → Nat → CallFn} (hF : IsEv KC Kt F)
include hF
theorem sortOk12 : SortOk F 12 := fun h b d g lt D ho hc hd hs hz => (sortS_ok hF ho hc hd hz).mono fun r h' ⟨h1, h2, h3⟩ =>
  ⟨h1, h2, _, h3, Go.Sort.insertionSort_holds hs d 0 d.size (Nat.zero_le _) (Nat.le_refl _)⟩
theorem shares_ok {N : Nat} (hs : SortOk F N) (hN : N ≤ 1024) {h : Heap} {v : AV} {l : List Int} {grain least : Int} (hv : Ints .i64 h 3 v l) (hl : ∀ x ∈ l, 0 ≤ x ∧ x ≤ 1099511627776) (hn : 0 < l.length) (hn' : l.length ≤ N) (hg : 1 ≤ grain ∧ grain ≤ 720) (hle : 0 ≤ least) (hal : least * l.length ≤ grain) :
    WV F (.fn (.func 47) [] []) [v, .int .i64 grain, .int .i64 least] h (fun r h' => ∃ b out, r = .val (.msl 3 b 0 l.length) ∧ Grow h h' ∧ h.next ≤ b ∧ Own .i64 h' 3 b out ∧ IsShares (cs l) (ts l) (grain - least * l.length) least out) := by
  have hv' := hv.ext (Ext.ent h)
  have hlen : (l.length : Int) ≤ 1024 := by omega
  have hsum := sum_le hl
  have hl0 : ∀ x ∈ l, 0 ≤ x := fun x hx => (hl x hx).1
  refine Kent47 hF ?_
  refine W_seq ?_
  (refine W_opsM ?_; simp only [go_sem])
  refine W_seq ?_
  (refine W_opsM ?_; simp only [go_sem])
  refine W_seq ?_
  refine W_seq ?_
  (refine W_opsM ?_; simp only [go_sem, hv.lens])
  refine W_blk ?_
  refine W_loop (fun k s => ∃ (i : Nat) (m : Int) (j1 j2 : AV), k = l.length - i ∧ i ≤ l.length ∧ m = (l.take i).sum ∧ s = ⟨[v, .int .i64 grain, .int .i64 least, .int .i64 (i : Int), .int .i64 (l.length : Int), j1, v, .int .i64 m, j2, undefA, undefA, undefA, undefA, undefA, undefA, undefA, undefA, undefA, undefA, undefA, undefA, undefA, undefA, undefA, undefA, undefA, undefA, .nils], h.ent, []⟩) ?_ (k := l.length) ⟨0, 0, _, _, rfl, Nat.zero_le _, rfl, rfl⟩
  rintro k s ⟨i, m, j1, j2, rfl, hi, hm, rfl⟩
  refine W_seq ?_
  (refine W_opsM ?_; simp only [go_sem])
  refine W_seq ?_
  refine W_cndP rfl (fun hc => ?_) (fun hc => ?_)
  · (refine W_nop ?_; simp only [go_sem])
    refine W_seq ?_
    refine W_blk ?_
    refine W_seq ?_
    have hi' : i < l.length := by omega
    obtain ⟨p, h1, h2⟩ := hv'.at hi'
    have b1 := hl _ (List.getElem_mem hi')
    have b2 := sum_take hi'
    have b3 := sum_take_le hl0 i
    have b4 := sum_pos (l := l.take i) fun x hx => hl0 x (List.mem_of_mem_take hx)
    (refine W_opsM ?_; simp only [go_sem, h1, h2])
    (refine W_opsM ?_; simp (disch := omega) only [wrap_i64, go_sem])
    (refine W_opsM ?_; simp (disch := omega) only [wrap_i64, go_sem])
    exact ⟨_, by omega, i + 1, _, _, _, rfl, by omega, by rw [b2, hm], rfl⟩
  · (refine W_exit ?_; simp only [go_sem, Nat.reduceEqDiff, reduceIte])
    have : i = l.length := by omega
    subst this
    rw [List.take_length] at hm
    subst hm
    refine W_seq ?_
    refine W_seq ?_
    (refine W_opsM ?_; simp only [go_sem])
    generalize hQ : seqQ F Ko47_24 _ = Q
    -- behind the first part
    have hk : ∀ (h1 : Heap) (v1 : AV) (j1 j2 j3 : AV), Ext h.ent h1 → h.next ≤ h1.low → Ints .i64 h1 3 v1 (cs l) → Q .normal ⟨[v1, .int .i64 grain, .int .i64 least, j3, .int .i64 (l.length : Int), j1, v, .int .i64 (ts l), j2, .bool (decide (l.sum = 0)), undefA, undefA, undefA, undefA, undefA, undefA, undefA, undefA, undefA, undefA, undefA, undefA, undefA, undefA, undefA, undefA, undefA, .nils], h1, []⟩ := by
      intro h1 v1 j1 j2 j3 he1 hl1 hv1
      subst hQ
      simp only [go_sem]
      have hcl : ∀ x ∈ cs l, 0 ≤ x ∧ x ≤ 1099511627776 := cs_bd (by omega) hl
      have ht := ts_pos hl0 hn
      have htb : ts l ≤ 1099511627776 * 1024 := by unfold ts; split <;> omega
      have hm0 : 0 ≤ least * (l.length : Int) := Int.mul_nonneg hle (by omega)
      have hl8 : least ≤ 720 := by
        have := Int.mul_le_mul_of_nonneg_left (show (1 : Int) ≤ l.length by omega) hle
        omega
      refine W_seq ?_
      (refine W_opsM ?_; simp (disch := omega) only [wrap_i64, go_sem, hv1.lens, cs_len])
      obtain ⟨all, hall⟩ : ∃ a, a = grain - least * (l.length : Int) := ⟨_, rfl⟩
      rw [← hall]
      have hA : 0 ≤ all ∧ all ≤ 720 := by omega
      refine W_seq ?_
      (refine W_pre ?_; simp (disch := omega) only [wrap_i64, go_sem, hv1.lens, cs_len, mksE, next_push])
      have o1 := (Own.mkZ (k := .i64) h1 3 l.length 0)
      have o2 := (Own.mkZ (k := .i64) (h1.push (.row (List.replicate l.length [AV.int .i64 0]).flatten 3)) 3 l.length 0)
      have o3 := (Own.mkZ (k := .i64) ((h1.push (.row (List.replicate l.length [AV.int .i64 0]).flatten 3)).push (.row (List.replicate l.length [AV.int .i64 0]).flatten 3)) 3 l.length 0)
      have o1 := (o1.pushO (x := .row (List.replicate l.length [AV.int .i64 0]).flatten 3)).pushO (x := .row (List.replicate l.length [AV.int .i64 0]).flatten 3)
      have o2 := o2.pushO (x := .row (List.replicate l.length [AV.int .i64 0]).flatten 3)
      have he2 := ((he1.push (x := .row (List.replicate l.length [AV.int .i64 0]).flatten 3)).push (x := .row (List.replicate l.length [AV.int .i64 0]).flatten 3)).push (x := .row (List.replicate l.length [AV.int .i64 0]).flatten 3)
      have hv2 := (((hv1.ext (Ext.refl h1).push).ext (Ext.refl _).push).ext (Ext.refl _).push : Ints .i64 (((h1.push (.row (List.replicate l.length [AV.int .i64 0]).flatten 3)).push (.row (List.replicate l.length [AV.int .i64 0]).flatten 3)).push (.row (List.replicate l.length [AV.int .i64 0]).flatten 3)) 3 v1 (cs l))
      have hl2 : h.next ≤ (((h1.push (.row (List.replicate l.length [AV.int .i64 0]).flatten 3)).push (.row (List.replicate l.length [AV.int .i64 0]).flatten 3)).push (.row (List.replicate l.length [AV.int .i64 0]).flatten 3)).low := by rw [low_push, low_push, low_push]; exact hl1
      generalize hh2 : Heap.push (Heap.push (Heap.push h1 _) _) _ = h2 at *
      simp only [next_push] at o1 o2 o3
      have hb1 : h.next ≤ h1.next := by have := he1.next; rw [ent_next] at this; exact this
      generalize hb1e : h1.next = b1 at *
      have he12 : Ext h1 h2 := by rw [← hh2]; exact (Ext.refl h1).push.push.push
      clear hh2
      refine W_seq ?_
      (refine W_opsM ?_; simp only [go_sem])
      refine W_seq ?_
      refine W_seq ?_
      (refine W_opsM ?_; simp only [go_sem, hv2.lens, cs_len])
      refine W_blk ?_
      have hol : ((cs l).map fun c => least + all * c / ts l).length = l.length := by simp [cs_len]
      have hrl : (rts l all).length = l.length := by simp [rts, cs_len]
      have hql : (qs l all).length = l.length := by simp [qs, cs_len]
      have hil := idxs_len l.length
      have hq0 : ∀ x ∈ qs l all, 0 ≤ x := by
        intro x hx
        unfold qs at hx
        rw [List.mem_map] at hx
        obtain ⟨c, hc, rfl⟩ := hx
        exact Int.ediv_nonneg (Int.mul_nonneg hA.1 (hcl c hc).1) (by omega)
      have hleft := left_bd (all := all) hl0 hn
      refine W_loop (fun k s => ∃ (i : Nat) (lf : Int) (h3 : Heap) (j12 j13 j15 j17 j20 : AV), k = l.length - i ∧ i ≤ l.length ∧ lf = all - ((qs l all).take i).sum ∧ Ext h1 h3 ∧ h.next ≤ h3.low ∧
        Own .i64 h3 3 b1 (((cs l).map fun c => least + all * c / ts l).take i ++ List.replicate (l.length - i) 0) ∧
        Own .i64 h3 3 (b1 + 1) ((rts l all).take i ++ List.replicate (l.length - i) 0) ∧
        Own .i64 h3 3 (b1 + 1 + 1) ((idxs l.length).take i ++ List.replicate (l.length - i) 0) ∧
        s = ⟨[v1, .int .i64 grain, .int .i64 least, j3, .int .i64 (l.length : Int), j1, v, .int .i64 (ts l), j2, .bool (decide (l.sum = 0)), .int .i64 all, .int .i64 (i : Int), .int .i64 (l.length : Int), j13, v1, j15, .msl 3 b1 0 l.length, j17, .msl 3 (b1 + 1) 0 l.length, .msl 3 (b1 + 1 + 1) 0 l.length, j20, .int .i64 lf, undefA, undefA, undefA, undefA, undefA, .nils], h3, []⟩) ?_ (k := l.length) ⟨0, all, _, undefA, _, _, _, _, rfl, Nat.zero_le _, by simp, he12, hl2, by simpa using o1, by simpa using o2, by simpa using o3, rfl⟩
      rintro k s ⟨i, lf, h3, j12, j13, j15, j17, j20, rfl, hi, hlf, he3, hl3, p1, p2, p3, rfl⟩
      refine W_seq ?_
      (refine W_opsM ?_; simp only [go_sem])
      refine W_seq ?_
      refine W_cndP rfl (fun hc => ?_) (fun hc => ?_)
      · (refine W_nop ?_; simp only [go_sem])
        refine W_seq ?_
        refine W_blk ?_
        refine W_seq ?_
        have hi' : i < l.length := by omega
        have hi2 : i < (cs l).length := by rw [cs_len]; exact hi'
        obtain ⟨p, g1, g2⟩ := (hv1.ext he3).at hi2
        have bc := hcl _ (List.getElem_mem hi2)
        generalize hcc : (cs l)[i] = c at *
        have bm := mul_bd (A := 720) (B := 1099511627776) (show -720 ≤ all by omega) hA.2 (show -1099511627776 ≤ c by omega) bc.2
        have bm0 : 0 ≤ all * c := Int.mul_nonneg hA.1 bc.1
        have e1 := Int.emod_add_mul_ediv (all * c) (ts l)
        have e2 := Int.emod_nonneg (all * c) (show ts l ≠ 0 by omega)
        have e3 := Int.emod_lt_of_pos (all * c) ht
        have e4 : 0 ≤ all * c / ts l := Int.ediv_nonneg bm0 (by omega)
        rw [Int.mul_comm (ts l)] at e1
        have e5 : (qs l all)[i]'(by omega) = all * c / ts l := by simp [qs, hcc]
        have e6 : (rts l all)[i]'(by omega) = all * c - all * c / ts l * ts l := by simp [rts, hcc]
        have e7 : ((cs l).map fun c => least + all * c / ts l)[i]'(by omega) = least + all * c / ts l := by simp [hcc]
        have e8 := sum_take (l := qs l all) (i := i) (by omega)
        have e9 := sum_take_le hq0 (i + 1)
        have e10 := sum_pos (l := (qs l all).take i) fun x hx => hq0 x (List.mem_of_mem_take hx)
        have e11 := hleft.1
        unfold leftS at e11
        rw [e5] at e8
        (refine W_opsM ?_; simp only [go_sem, g1, g2])
        refine W_seq ?_
        (refine W_opsM ?_; simp (disch := omega) only [wrap_i64, go_sem, bin_quo, Int.tdiv_eq_ediv_of_nonneg bm0])
        generalize all * c / ts l = q at *
        refine W_seq ?_
        have n1 : b1 + 1 ≠ b1 := by omega
        have n2 : b1 + 1 + 1 ≠ b1 := by omega
        have n3 : b1 + 1 + 1 ≠ b1 + 1 := by omega
        have s1 := fun x => p1.store (i := i) (by rw [fill_len hol hi]; exact hi') x
        have s2 := fun (B : Blk) x => (p2.putO (x := B) n1).store (i := i) (by rw [fill_len hrl hi]; exact hi') x
        have s3 := fun (B B' : Blk) x => ((p3.putO (x := B) n2).putO (x := B') n3).store (i := i) (by rw [fill_len hil hi]; exact hi') x
        (refine W_opsM ?_; simp (disch := omega) only [wrap_i64, go_sem, ixs_msl hi', s1, s2, s3])
        (refine W_opsM ?_; simp (disch := omega) only [wrap_i64, go_sem])
        (refine W_opsM ?_; simp (disch := omega) only [wrap_i64, go_sem])
        refine ⟨_, by omega, i + 1, _, _, undefA, _, _, _, _, rfl, by omega, ?_, ((he3.put (by omega)).put (by omega)).put (by omega), ?_, ?_, ?_, ?_, rfl⟩
        · omega
        · rw [low_put, low_put, low_put]; omega
        · rw [← fill_set hol hi', e7]
          exact ((p1.put _).putO n1.symm).putO n2.symm
        · rw [← fill_set hrl hi', e6]
          exact ((p2.putO n1).put _).putO n3.symm
        · rw [← fill_set hil hi', idxs_get]
          exact ((p3.putO n2).putO n3).put _
      · (refine W_exit ?_; simp only [go_sem, Nat.reduceEqDiff, reduceIte])
        have : i = l.length := by omega
        subst this
        rw [List.take_of_length_le (by omega), Nat.sub_self, List.replicate_zero, List.append_nil] at p1 p2 p3
        rw [List.take_of_length_le (by omega)] at hlf
        have hlf : lf = leftS l all := hlf
        refine W_seq ?_
        (refine W_opsM ?_; simp only [go_sem])
        refine WO_call rfl rfl ?_
        have hds : (idxs l.length).toArray.size = l.length := by simp [idxs_len]
        have hcmp := cmpG_ok hF (h := h3) (v := .msl 3 (b1 + 1) 0 l.length) (rs := rts l all) (b := b1 + 1 + 1) (fun h' e1 e2 => by
          have := (p2.same e1 (e2 _ (by omega))).ints
          rwa [hrl] at this) (fun x hx => by have := rts_bd (all := all) ht x hx; omega) (by rw [hrl]; omega)
        have hsort := hs h3 (b1 + 1 + 1) (idxs l.length).toArray _ _ _ p3 hcmp (fun i hi => by
          rw [hds] at hi
          rw [getElem!_pos _ i (by rw [hds]; exact hi), List.getElem_toArray, idxs_get, hrl]
          omega) (ltG_swo _) (by rw [hds]; exact hn')
        rw [hds] at hsort
        refine hsort.mono ?_
        rintro _ h4 ⟨rfl, hu4, d, p3', hperm, hsd⟩
        obtain ⟨hd1, o, ho1, ho2⟩ := ord_facts hperm
        simp only [go_sem]
        have hol2 : o.length = l.length := by rw [ho1.length_eq]; simp
        have hndo : o.Nodup := ho1.nodup_iff.2 List.nodup_range
        have homem : ∀ i, i ∈ o ↔ i < l.length := fun i => by rw [ho1.mem_iff]; simp
        have q1 := p1.same hu4.next (hu4.get b1 (by omega))
        have he4 := he3.upd hu4 (by omega)
        have hl4 := hu4.low
        have hn3 := he3.next
        rw [hb1e] at hn3
        obtain ⟨lk, hlk⟩ := Int.eq_ofNat_of_zero_le hleft.1
        rw [hlk] at hlf hleft
        subst hlf
        rw [ho2] at p3'
        refine W_seq ?_
        refine W_seq ?_
        (refine W_opsM ?_; simp (disch := omega) only [wrap_i64, go_sem, slc_msl, Nat.zero_mul, Nat.add_zero, Nat.sub_zero])
        refine W_blk ?_
        refine W_loop (fun k s => ∃ (i : Nat) (h5 : Heap) (O : List Int) (j11 j12 j13 j14 j15 j17 j20 j24 j26 : AV), k = lk - i ∧ i ≤ lk ∧ Ext h1 h5 ∧ h.next ≤ h5.low ∧ Own .i64 h5 3 b1 O ∧ O.length = l.length ∧
          (∀ (j : Nat) (hj : j < O.length) (hc : j < (cs l).length), O[j] = least + all * (cs l)[j] / ts l + if j ∈ o.take i then 1 else 0) ∧
          Own .i64 h5 3 (b1 + 1 + 1) (o.map fun i : Nat => (i : Int)) ∧
          s = ⟨[v1, .int .i64 grain, .int .i64 least, j3, .int .i64 (l.length : Int), j1, v, .int .i64 (ts l), j2, .bool (decide (l.sum = 0)), .int .i64 all, j11, j12, j13, j14, j15, .msl 3 b1 0 l.length, j17, .msl 3 (b1 + 1) 0 l.length, .msl 3 (b1 + 1 + 1) 0 l.length, j20, .int .i64 lk, .int .i64 (i : Int), .int .i64 (lk : Int), j24, .msl 3 (b1 + 1 + 1) 0 lk, j26, .nils], h5, []⟩) ?_ (k := lk) ⟨0, h4, _, _, _, _, _, _, _, _, _, _, rfl, Nat.zero_le _, he4, by omega, q1, hol, by intro j hj hc; simp, p3', rfl⟩
        rintro k s ⟨i, h5, O, j11, j12, j13, j14, j15, j17, j20, j24, j26, rfl, hi, he5, hl5, q1, hO, hOv, q3, rfl⟩
        refine W_seq ?_
        (refine W_opsM ?_; simp only [go_sem])
        refine W_seq ?_
        refine W_cndP rfl (fun hc => ?_) (fun hc => ?_)
        · (refine W_nop ?_; simp only [go_sem])
          refine W_seq ?_
          refine W_blk ?_
          refine W_seq ?_
          have hi' : i < lk := by omega
          have hio : i < o.length := by omega
          have hld := q3.load (i := i) (by simp; omega)
          rw [List.getElem_map] at hld
          have hxn : o[i] < l.length := (homem _).1 (List.getElem_mem hio)
          have hnew : o[i] ∉ o.take i := fun hm => by
            obtain ⟨p, hp, hp2⟩ := List.getElem_of_mem hm
            rw [List.length_take] at hp
            rw [List.getElem_take] at hp2
            have := (List.getElem_inj hndo).1 hp2
            omega
          generalize hx : o[i] = x at *
          (refine W_opsM ?_; simp only [go_sem, ixs_msl hi', hld])
          have hxc : x < (cs l).length := by rw [cs_len]; exact hxn
          have hOx := hOv x (by omega) hxc
          rw [if_neg hnew] at hOx
          have hq1 : 0 ≤ all * (cs l)[x] / ts l := Int.ediv_nonneg (Int.mul_nonneg hA.1 (hcl _ (List.getElem_mem hxc)).1) (by omega)
          have hq2 : all * (cs l)[x] / ts l ≤ all := by
            have h1 := mem_le_sum hq0 (all * (cs l)[x] / ts l) (by unfold qs; exact List.mem_map.2 ⟨_, List.getElem_mem hxc, rfl⟩)
            have h2 : all - (qs l all).sum = lk := hlk
            omega
          have hldx := q1.load (i := x) (by omega)
          (refine W_opsM ?_; simp (disch := omega) only [wrap_i64, go_sem, ixs_msl hxn, hldx, fun y => q1.store (i := x) (by omega) y])
          (refine W_opsM ?_; simp (disch := omega) only [wrap_i64, go_sem])
          refine ⟨_, by omega, i + 1, _, _, _, _, _, _, _, _, _, _, _, rfl, by omega, he5.put (by omega), by rw [low_put]; omega, q1.put _, by simpa using hO, ?_, q3.putO (by omega), rfl⟩
          intro j hj hc
          rw [List.getElem_set]
          rw [List.take_succ_eq_append_getElem hio, hx]
          by_cases hjx : x = j
          · subst hjx
            rw [if_pos rfl, hOx, if_pos (by simp)]; omega
          · rw [if_neg hjx, hOv j (by simpa using hj) hc]
            congr 1
            have : (j ∈ List.take i o ++ [x]) ↔ j ∈ List.take i o := by
              rw [List.mem_append, List.mem_singleton]
              exact ⟨fun h => h.elim id fun h => absurd h.symm hjx, .inl⟩
            simp only [this]
        · (refine W_exit ?_; simp only [go_sem, Nat.reduceEqDiff, reduceIte])
          have : i = lk := by omega
          subst this
          refine W_seq ?_
          (refine W_opsM ?_; simp only [go_sem])
          refine W_ret ?_
          refine fin_new (l := [.msl 3 b1 0 l.length]) (he1.trans he5) hl5 rfl rfl (fun hg => ⟨b1, O, rfl, hg, hb1, q1.lower, ?_⟩) (fun h => by cases h)
          refine shares_of (o := o) (d := d) (k := i) (by rw [hO, cs_len]) (by rw [cs_len]; exact ho1) ho2 (by rw [cs_len]; omega) (by rw [cs_len]; exact hsd) hlk.symm hOv
    refine W_cndP rfl (fun hc => ?_) (fun hc => ?_)
    · refine W_opsM ?_
      simp (disch := omega) only [wrap_i64, go_sem, ent_next, hv.lens]
      refine WO_call rfl rfl ?_
      have ho := Own.one (k := .i64) h.ent 3 1
      have hi1 := ho.ints
      simp only [ent_next] at hi1
      refine (rep_ok hF (n := l.length) hi1 hn (by omega) (by omega)).mono ?_
      rintro _ h1 ⟨b, rfl, hg1, hb, ho1⟩
      simp only [go_sem, hv.lens]
      have h5 : ts l = l.length := if_pos hc
      have h6 : cs l = List.replicate l.length 1 := if_pos hc
      have hg2 := hg1.low
      rw [low_push, ent_low, next_push, ent_next] at hg2
      have := hk h1 (.msl 3 b 0 l.length) (.bool (decide (((l.length : Nat) : Int) < (l.length : Int)))) j2 (.int .i64 (l.length : Int)) ((Ext.refl _).push.trans hg1.ext) (by omega) (by rw [h6]; have := ho1.ints; rw [List.length_replicate] at this; exact this)
      rw [h5] at this
      exact this
    · refine W_nop ?_
      have h5 : ts l = l.sum := if_neg hc
      have h6 : cs l = l := if_neg hc
      have := hk h.ent v (.bool (decide (((l.length : Nat) : Int) < (l.length : Int)))) j2 (.int .i64 (l.length : Int)) (Ext.refl _) ent_low_le (by rw [h6]; exact hv')
      rw [h5] at this
      exact this
theorem round_ok {N : Nat} (hs : SortOk F N) (hN : N ≤ 1024) {h : Heap} {v : AV} {l : List Int} {grain least : Int} (hv : Ints .i64 h 3 v l) (hl : ∀ x ∈ l, -9223372036854775808 ≤ x ∧ x ≤ 9223372036854775807) (hn : l.length ≤ N ∨ N = 1024) (hn' : l.length < 65536) (hg : -9223372036854775808 ≤ grain ∧ grain ≤ 9223372036854775807) :
    WV F (.fn (.func 10) [] []) [v, .int .i64 grain, .int .i64 least] h (fun r h' => ¬ Good l grain least ∧ r = .val (.tup [.nils, .int .i64 2]) ∧ h' = h ∨
      Good l grain least ∧ ∃ b out, r = .val (.tup [.msl 3 b 0 l.length, .int .i64 0]) ∧ Grow h h' ∧ h.next ≤ b ∧ Own .i64 h' 3 b out ∧ IsShares (cs l) (ts l) (grain - least * l.length) least out) := by
  have hv' := hv.ext (Ext.ent h)
  refine Kent10 hF ?_
  refine W_seq ?_
  (refine W_opsM ?_; simp only [go_sem])
  refine W_seq ?_
  refine W_seq ?_
  generalize hQ : seqQ F Ko10_5 _ = Q
  have hk : ∀ t : Bool, (t = true ↔ ¬ (1 ≤ l.length ∧ l.length ≤ 1024 ∧ ∀ x ∈ l, 0 ≤ x ∧ x ≤ 1099511627776)) → Q .normal ⟨[v, .int .i64 grain, .int .i64 least, .bool t, undefA, .nils, .int .i64 0], h.ent, []⟩ := by
    intro t ht
    subst hQ
    simp only [go_sem]
    refine W_cnd (t := t) rfl (fun hb => ?_) (fun hb => ?_)
    · refine W_seq ?_
      (refine W_opsM ?_; simp only [go_sem])
      refine W_ret ?_
      simp only [go_sem]
      exact fin_out ent_low_le rfl rfl rfl (.inl ⟨fun hg => ht.1 hb ⟨hg.1, hg.2.1, hg.2.2.1⟩, rfl, rfl⟩)
    (refine W_nop ?_; simp only [go_sem])
    have ha : 1 ≤ l.length ∧ l.length ≤ 1024 ∧ ∀ x ∈ l, 0 ≤ x ∧ x ≤ 1099511627776 := Decidable.byContradiction fun h => by rw [ht.2 h] at hb; cases hb
    refine W_seq ?_
    refine W_seq ?_
    generalize hQ : seqQ F Ko10_11 _ = Q
    have hk2 : ∀ t : Bool, (t = true ↔ ¬ (1 ≤ grain ∧ grain ≤ 720 ∧ 0 ≤ least ∧ least * l.length ≤ grain)) → Q .normal ⟨[v, .int .i64 grain, .int .i64 least, .bool false, .bool t, .nils, .int .i64 0], h.ent, []⟩ := by
      intro t ht2
      subst hQ
      simp only [go_sem]
      refine W_cnd (t := t) rfl (fun hb => ?_) (fun hb => ?_)
      · refine W_seq ?_
        (refine W_opsM ?_; simp only [go_sem])
        refine W_ret ?_
        simp only [go_sem]
        exact fin_out ent_low_le rfl rfl rfl (.inl ⟨fun hg => ht2.1 hb hg.2.2.2, rfl, rfl⟩)
      (refine W_nop ?_; simp only [go_sem])
      have hb2 : 1 ≤ grain ∧ grain ≤ 720 ∧ 0 ≤ least ∧ least * l.length ≤ grain := Decidable.byContradiction fun h => by rw [ht2.2 h] at hb; cases hb
      refine W_seq ?_
      (refine W_opsM ?_; simp only [go_sem])
      refine WO_call rfl rfl ?_
      refine (shares_ok hF hs hN hv' ha.2.2 ha.1 (by omega) ⟨hb2.1, hb2.2.1⟩ hb2.2.2.1 hb2.2.2.2).mono ?_
      rintro _ h1 ⟨b, out, rfl, hg1, hb1, ho1, hsh⟩
      simp only [go_sem]
      refine W_ret ?_
      have hl1 := hg1.low
      rw [ent_low, ent_next] at hl1
      exact fin_new (l := [.msl 3 b 0 l.length, .int .i64 0]) hg1.ext (by omega) rfl rfl (fun hg => .inr ⟨⟨ha.1, ha.2.1, ha.2.2, hb2⟩, b, out, rfl, hg, by rw [ent_next] at hb1; exact hb1, ho1.lower, hsh⟩) (fun h => by cases h)
    rw [hb]
    by_cases g1 : grain < 1
    · (refine W_opsM ?_; simp only [go_sem, g1])
      exact hk2 true (by simp; omega)
    by_cases g2 : grain > 720
    · (refine W_opsM ?_; simp only [go_sem, g1, g2])
      exact hk2 true (by simp; omega)
    by_cases g3 : least < 0
    · (refine W_opsM ?_; simp only [go_sem, g1, g2, g3])
      exact hk2 true (by simp; omega)
    have e1 : (l.length : Int) ≠ 0 := by omega
    have e2 : least > grain / (l.length : Int) ↔ ¬ least * l.length ≤ grain := by
      rw [Int.not_le]
      exact Int.ediv_lt_iff_lt_mul (by omega)
    have e3 : 0 ≤ grain / (l.length : Int) := Int.ediv_nonneg (by omega) (by omega)
    have e4 : grain / (l.length : Int) ≤ grain := Int.ediv_le_self _ (by omega)
    (refine W_opsM ?_; simp (disch := omega) only [wrap_i64, go_sem, g1, g2, g3, hv.lens, bin_quo, Int.tdiv_eq_ediv_of_nonneg (show 0 ≤ grain by omega)])
    refine hk2 _ ?_
    rw [decide_eq_true_eq, e2]
    constructor
    · intro h5 h6; exact h5 h6.2.2.2
    · intro h5 h6; exact h5 ⟨by omega, by omega, by omega, h6⟩
  by_cases g1 : (l.length : Int) < 1
  · (refine W_opsM ?_; simp only [go_sem, hv.lens, g1])
    exact hk true (by simp; omega)
  by_cases g2 : (l.length : Int) > 1024
  · (refine W_opsM ?_; simp only [go_sem, hv.lens, g1, g2])
    exact hk true (by simp; omega)
  have hne : l ≠ [] := by intro h; subst h; simp at g1
  (refine W_opsM ?_; simp only [go_sem, hv.lens, g1, g2])
  refine WO_call rfl rfl ?_
  refine (min_ok hF hv' hne (by omega)).mono ?_
  rintro _ _ ⟨rfl, rfl⟩
  simp only [go_sem]
  by_cases g3 : minL l < 0
  · simp only [go_sem, g3]
    exact hk true (by
      simp only [true_iff]
      intro h5
      have := (minL_le hne (B := 0)).2 fun x hx => (h5.2.2 x hx).1
      omega)
  simp only [go_sem, g3]
  refine WO_call rfl rfl ?_
  refine (max_ok hF hv' hne (by omega)).mono ?_
  rintro _ _ ⟨rfl, rfl⟩
  simp only [go_sem, g3]
  refine hk _ ?_
  rw [decide_eq_true_eq]
  constructor
  · intro h5 h6
    have := (maxL_le hne (B := 1099511627776)).2 fun x hx => (h6.2.2 x hx).2
    omega
  · intro h5
    refine Int.not_le.1 fun h6 => h5 ⟨by omega, by omega, fun x hx => ⟨(minL_le hne (B := 0)).1 (by omega) x hx, (maxL_le hne).1 h6 x hx⟩⟩
end
end Go.Proofs.YtnkcimeebobjaaaDoor.fitNearest
namespace Go.Proofs.YtnkcimeebobjaaaDoor.fitNearest
/-! Sums over places. -/
def sm (n : Nat) (f : Nat → Int) : Int := ((List.range n).map f).sum
theorem sm_succ (n : Nat) (f : Nat → Int) : sm (n + 1) f = sm n f + f n := by simp [sm, List.range_succ, List.sum_append]
theorem sm_congr {n : Nat} {f g : Nat → Int} (h : ∀ i, i < n → f i = g i) : sm n f = sm n g := by
  induction n with
  | zero => rfl
  | succ n ih => rw [sm_succ, sm_succ, ih fun i hi => h i (by omega), h n (by omega)]
theorem sm_le {n : Nat} {f g : Nat → Int} (h : ∀ i, i < n → f i ≤ g i) : sm n f ≤ sm n g := by
  induction n with
  | zero => exact Int.le_refl _
  | succ n ih => rw [sm_succ, sm_succ]; have := ih fun i hi => h i (by omega); have := h n (by omega); omega
theorem sm_add (n : Nat) (f g : Nat → Int) : sm n (fun i => f i + g i) = sm n f + sm n g := by
  induction n with
  | zero => rfl
  | succ n ih => rw [sm_succ, sm_succ, sm_succ, ih]; omega
theorem sm_mul (n : Nat) (c : Int) (f : Nat → Int) : sm n (fun i => c * f i) = c * sm n f := by
  induction n with
  | zero => simp [sm]
  | succ n ih => rw [sm_succ, sm_succ, ih, Int.mul_add]
theorem sm_const (n : Nat) (c : Int) : sm n (fun _ => c) = c * n := by
  induction n with
  | zero => simp [sm]
  | succ n ih => rw [sm_succ, ih, Int.natCast_add, Int.mul_add]; simp
theorem sm_list (l : List Int) : l.sum = sm l.length (fun i => l.getD i 0) := by
  have : (List.range l.length).map (fun i => l.getD i 0) = l := by
    apply List.ext_getElem
    · simp
    · intro i h1 h2; simp [h2]
  rw [sm, this]
theorem sm_one {n a : Nat} (h : a < n) : sm n (fun i => if i = a then 1 else 0) = 1 := by
  induction n with
  | zero => omega
  | succ n ih =>
    rw [sm_succ]
    by_cases e : n = a
    · subst e
      have : sm n (fun i => if i = n then 1 else 0) = sm n (fun _ => 0) := sm_congr fun i hi => by rw [if_neg (by omega)]
      rw [this, sm_const, if_pos rfl]; simp
    · rw [ih (by omega), if_neg e]; rfl
theorem sm_ind : ∀ (T : List Nat) (n : Nat), T.Nodup → (∀ i ∈ T, i < n) → sm n (fun i => if i ∈ T then 1 else 0) = T.length
  | [], n, _, _ => by
    have : sm n (fun i => if i ∈ ([] : List Nat) then 1 else 0) = sm n (fun _ => 0) := sm_congr fun i _ => by simp
    rw [this, sm_const]; simp
  | a :: T, n, hn, hm => by
    rw [List.nodup_cons] at hn
    have h1 := sm_ind T n hn.2 fun i hi => hm i (List.mem_cons_of_mem _ hi)
    have h2 := sm_one (hm a List.mem_cons_self)
    have : sm n (fun i => if i ∈ a :: T then 1 else 0) = sm n (fun i => (if i = a then 1 else 0) + if i ∈ T then 1 else 0) := sm_congr fun i _ => by
      by_cases e : i = a
      · subst e; simp [hn.1]
      · simp [e]
    rw [this, sm_add, h1, h2, List.length_cons]; omega
theorem getD_eq {l : List Int} {i : Nat} (h : i < l.length) : l.getD i 0 = l[i] := by simp [h]
theorem map_sm (c : List Int) (f : Int → Int) : (c.map f).sum = sm c.length (fun i => f (c.getD i 0)) := by
  rw [sm_list, List.length_map]
  exact sm_congr fun i hi => by rw [getD_eq (by simpa using hi), getD_eq hi]; simp
section
variable {c : List Int} {t all least : Int} {out : List Int}
theorem shares_sum (hI : IsShares c t all least out) : out.sum = least * c.length + all := by
  obtain ⟨hl, T, h1, h2, h3, h4, h5⟩ := hI
  have e : out.sum = sm c.length (fun i => (least + all * c.getD i 0 / t) + if i ∈ T then 1 else 0) := by
    rw [sm_list, hl]
    exact sm_congr fun i hi => by rw [getD_eq (by omega), getD_eq hi, h4 i (by omega) hi]
  rw [e, sm_add, sm_add, sm_ind T _ h1 h2, sm_const, h3, map_sm]
  omega
theorem shares_ge (hI : IsShares c t all least out) (hc : ∀ x ∈ c, 0 ≤ x) (ht : 0 < t) (ha : 0 ≤ all) : ∀ x ∈ out, least ≤ x := by
  obtain ⟨hl, T, h1, h2, h3, h4, h5⟩ := hI
  intro x hx
  obtain ⟨i, hi, rfl⟩ := List.getElem_of_mem hx
  rw [h4 i hi (by omega)]
  have := Int.ediv_nonneg (Int.mul_nonneg ha (hc _ (List.getElem_mem (show i < c.length by omega)))) (Int.le_of_lt ht)
  split <;> omega
theorem shares_mono (hI : IsShares c t all least out) (hc : ∀ x ∈ c, 0 ≤ x) (ht : 0 < t) (ha : 0 ≤ all) (hsum : c.sum = t) {i j : Nat} (hi : i < out.length) (hj : j < out.length) (hij : c[j]'(by have := hI.len; omega) < c[i]'(by have := hI.len; omega)) : out[j] ≤ out[i] := by
  obtain ⟨hl, T, h1, h2, h3, h4, h5⟩ := hI
  rw [h4 i hi (by omega), h4 j hj (by omega)]
  have hci := hc _ (List.getElem_mem (show i < c.length by omega))
  have hcj := hc _ (List.getElem_mem (show j < c.length by omega))
  have h6 : all * c[j] ≤ all * c[i] := Int.mul_le_mul_of_nonneg_left (Int.le_of_lt hij) ha
  have h7 : all * c[j] / t ≤ all * c[i] / t := Int.ediv_le_ediv ht h6
  by_cases hjT : j ∈ T
  · by_cases hiT : i ∈ T
    · rw [if_pos hjT, if_pos hiT]; omega
    · rw [if_pos hjT, if_neg hiT]
      have h8 := h5 j i hjT (by omega) hiT
      rw [ltG_iff] at h8
      simp only [Int.toNat_natCast] at h8
      rw [getD_eq (by simp; omega), getD_eq (by simp; omega)] at h8
      simp only [List.getElem_map] at h8
      rcases Int.lt_or_le (all * c[j] / t) (all * c[i] / t) with h9 | h9
      · omega
      · exfalso
        have h10 : all * c[i] / t = all * c[j] / t := by omega
        rw [h10] at h8
        have h11 : all * c[i] = all * c[j] := by omega
        have h12 : all * (c[i] - c[j]) = 0 := by rw [Int.mul_sub]; omega
        rcases Int.mul_eq_zero.1 h12 with h13 | h13
        · subst h13
          have : (c.map fun c => 0 * c / t).sum = 0 := by
            rw [map_sm]
            have : sm c.length (fun i => 0 * c.getD i 0 / t) = sm c.length (fun _ => 0) := sm_congr fun i _ => by simp
            rw [this, sm_const]; simp
          rw [this] at h3
          have : T.length = 0 := by omega
          rw [List.length_eq_zero_iff] at this
          rw [this] at hjT; cases hjT
        · omega
  · rw [if_neg hjT]
    split <;> omega
end
/-- one place -/
theorem point_out {t ρ lam y : Int} (h0 : 0 ≤ ρ) (h1 : -t ≤ lam) (h2 : lam ≤ t - 2 * ρ) : ρ + lam * y ≤ max (t * y - ρ) (0 - (t * y - ρ)) := by
  rcases Int.lt_or_le 0 y with hy | hy
  · have : (t - lam) * 1 ≤ (t - lam) * y := Int.mul_le_mul_of_nonneg_left hy (by omega)
    simp only [Int.sub_mul, Int.mul_one] at this
    omega
  · have : 0 ≤ (t + lam) * (-y) := Int.mul_nonneg (by omega) (by omega)
    rw [Int.mul_neg, Int.add_mul] at this
    omega
theorem point_in {t ρ lam y : Int} (h1 : t - 2 * ρ ≤ lam) (h2 : lam ≤ t) (h3 : -t ≤ lam) : (t - ρ) + lam * (y - 1) ≤ max (t * y - ρ) (0 - (t * y - ρ)) := by
  rcases Int.lt_or_le 0 y with hy | hy
  · have : 0 ≤ (t - lam) * (y - 1) := Int.mul_nonneg (by omega) (by omega)
    rw [Int.sub_mul, Int.mul_sub, Int.mul_sub] at this
    rw [Int.mul_sub]
    omega
  · have : 0 ≤ (t + lam) * (-y) := Int.mul_nonneg (by omega) (by omega)
    rw [Int.mul_neg, Int.add_mul] at this
    rw [Int.mul_sub]
    omega
theorem exists_lam (t : Int) (r : Nat → Int) (n : Nat) (T : List Nat) (hr : ∀ i, i < n → 0 ≤ r i ∧ r i < t) (hT : ∀ i ∈ T, i < n) (ho : ∀ i j, i ∈ T → j < n → j ∉ T → r j ≤ r i) (ht : 0 < t) :
    ∃ lam, -t ≤ lam ∧ lam ≤ t ∧ (∀ i ∈ T, t - 2 * r i ≤ lam) ∧ ∀ j, j < n → j ∉ T → lam ≤ t - 2 * r j := by
  have key : ∀ T : List Nat, (∀ i ∈ T, i < n) → T ≠ [] → ∃ m ∈ T, ∀ i ∈ T, r m ≤ r i := by
    intro T
    induction T with
    | nil => intro _ h; exact absurd rfl h
    | cons a T ih =>
      intro hT _
      by_cases hT0 : T = []
      · subst hT0; exact ⟨a, List.mem_cons_self, fun i hi => by rw [List.mem_singleton] at hi; subst hi; exact Int.le_refl _⟩
      · obtain ⟨m, hm, h⟩ := ih (fun i hi => hT i (List.mem_cons_of_mem _ hi)) hT0
        rcases Int.le_total (r a) (r m) with h1 | h1
        · exact ⟨a, List.mem_cons_self, fun i hi => by
            rcases List.mem_cons.1 hi with rfl | hi
            · exact Int.le_refl _
            · exact Int.le_trans h1 (h i hi)⟩
        · exact ⟨m, List.mem_cons_of_mem _ hm, fun i hi => by
            rcases List.mem_cons.1 hi with rfl | hi
            · exact h1
            · exact h i hi⟩
  by_cases hT0 : T = []
  · subst hT0
    exact ⟨-t, Int.le_refl _, by omega, (fun i hi => by cases hi), fun j hj _ => by have := hr j hj; omega⟩
  · obtain ⟨m, hm, h⟩ := key T hT hT0
    have hrm := hr m (hT m hm)
    exact ⟨t - 2 * r m, by omega, by omega, fun i hi => by have := h i hi; omega, fun j hj hn => by have := ho m j hm hj hn; omega⟩
/-- THE STAGE'S THEOREM: the shares are nearest to what is due -/
theorem shares_best {c : List Int} {t least grain : Int} {out w : List Int} (hI : IsShares c t (grain - least * c.length) least out) (hc : ∀ x ∈ c, 0 ≤ x) (ht : 0 < t) (hsum : c.sum = t) (hw : w.length = c.length) (hws : w.sum = grain) : dist c out grain least ≤ dist c w grain least := by
  have hos := shares_sum hI
  obtain ⟨hl, T, h1, h2, h3, h4, h5⟩ := hI
  generalize hA : grain - least * (c.length : Int) = all at *
  have hd : ∀ u : List Int, u.length = c.length → dist c u grain least = sm c.length (fun i => dst t all least (c.getD i 0) (u.getD i 0)) := by
    intro u hu
    unfold dist
    rw [sm_list, hsum, hA]
    have : (dists c u t all least).length = c.length := by simp [dists, hu]
    rw [this]
    exact sm_congr fun i hi => by rw [getD_eq (by omega), getD_eq hi, getD_eq (by omega)]; simp [dists]
  rw [hd out hl, hd w hw]
  obtain ⟨lam, l1, l2, l3, l4⟩ := exists_lam t (fun i => all * c.getD i 0 - all * c.getD i 0 / t * t) c.length T (fun i hi => by
      have h1 := Int.emod_add_mul_ediv (all * c.getD i 0) t
      have h2 := Int.emod_nonneg (all * c.getD i 0) (show t ≠ 0 by omega)
      have h3 := Int.emod_lt_of_pos (all * c.getD i 0) ht
      rw [Int.mul_comm t] at h1
      omega) h2 (fun i j hi hj hn => by
      have h6 := h5 i j hi hj hn
      rw [ltG_iff] at h6
      simp only [Int.toNat_natCast] at h6
      have hi' := h2 i hi
      rw [getD_eq (by simp; omega), getD_eq (by simp; omega)] at h6
      simp only [List.getElem_map] at h6
      rw [getD_eq hi', getD_eq hj]
      omega) ht
  have key : sm c.length (fun i => dst t all least (c.getD i 0) (out.getD i 0) + lam * (w.getD i 0 - out.getD i 0)) ≤ sm c.length (fun i => dst t all least (c.getD i 0) (w.getD i 0)) := by
    refine sm_le fun i hi => ?_
    have h6 := h4 i (by omega) hi
    rw [getD_eq (show i < out.length by omega), getD_eq (show i < w.length by omega)]
    have l3 := l3 i
    have l4 := l4 i hi
    rw [getD_eq hi] at *
    generalize out[i] = s at *
    generalize c[i] = x at *
    generalize w[i]'(by omega) = u at *
    have e1 := Int.emod_add_mul_ediv (all * x) t
    have e2 := Int.emod_nonneg (all * x) (show t ≠ 0 by omega)
    have e3 := Int.emod_lt_of_pos (all * x) ht
    rw [Int.mul_comm t] at e1
    have hu : t * (u - least) - all * x = t * (u - least - all * x / t) - (all * x - all * x / t * t) := by
      rw [Int.mul_sub t (u - least), Int.mul_comm t (all * x / t)]; omega
    generalize hρ : all * x - all * x / t * t = ρ at *
    generalize hq : all * x / t = q at *
    by_cases hiT : i ∈ T
    · rw [if_pos hiT] at h6
      have hs : t * (s - least) - all * x = t - ρ := by
        rw [h6, show least + q + 1 - least = q + 1 by omega, Int.mul_add, Int.mul_one, Int.mul_comm t q]; omega
      have := point_in (t := t) (ρ := ρ) (lam := lam) (y := u - least - q) (l3 hiT) l2 l1
      unfold dst
      rw [hs, hu, show u - s = u - least - q - 1 by omega]
      omega
    · rw [if_neg hiT] at h6
      have hs : t * (s - least) - all * x = -ρ := by
        rw [h6, show least + q + 0 - least = q by omega, Int.mul_comm t q]; omega
      have := point_out (t := t) (ρ := ρ) (lam := lam) (y := u - least - q) (by omega) l1 (l4 hiT)
      unfold dst
      rw [hs, hu, show u - s = u - least - q by omega]
      omega
  rw [sm_add, sm_mul] at key
  have e : sm c.length (fun i => w.getD i 0 - out.getD i 0) = 0 := by
    have h6 := sm_list w
    have h7 := sm_list out
    rw [hw] at h6
    rw [hl] at h7
    have : sm c.length (fun i => w.getD i 0 - out.getD i 0) = sm c.length (fun i => w.getD i 0 + (-1) * out.getD i 0) := sm_congr fun i _ => by omega
    rw [this, sm_add, sm_mul, ← h6, ← h7]
    omega
  rw [e, Int.mul_zero] at key
  omega
end Go.Proofs.YtnkcimeebobjaaaDoor.fitNearest
namespace Go.Proofs.YtnkcimeebobjaaaDoor.fitNearest
open Hx Go
set_option maxRecDepth 100000
attribute [local irreducible] cSeq cOps cPre cCnd cBlk cLoop cScope cExit cRet cNop cRng Heap.ent Heap.setLow
section
variable {F : Nat → Nat → CallFn} (hF : IsEv KC Kt F)
include hF
theorem dist_ok {h : Heap} {v u : AV} {c w : List Int} {grain least : Int} (hv : Ints .i64 h 3 v c) (hu : Ints .i64 h 3 u w) (hcw : c.length = w.length) (hn : c.length ≤ 4) (hc : ∀ x ∈ c, 0 ≤ x ∧ x ≤ 9) (hw : ∀ x ∈ w, -100 ≤ x ∧ x ≤ 100) (hg : 1 ≤ grain ∧ grain ≤ 14) (hl : 0 ≤ least ∧ least ≤ 2) :
    WV F (.fn (.func 33) [] []) [v, u, .int .i64 grain, .int .i64 least] h (fun r h' => r = .val (.int .i64 (dist c w grain least)) ∧ h' = h) := by
  have hv' := hv.ext (Ext.ent h)
  have hu' := hu.ext (Ext.ent h)
  have hsum := sum_le hc
  have hc0 : ∀ x ∈ c, 0 ≤ x := fun x hx => (hc x hx).1
  refine Kent33 hF ?_
  refine W_seq ?_
  (refine W_opsM ?_; simp only [go_sem])
  refine W_seq ?_
  (refine W_opsM ?_; simp only [go_sem])
  refine W_seq ?_
  refine W_seq ?_
  (refine W_opsM ?_; simp only [go_sem, hv.lens])
  refine W_blk ?_
  refine W_loop (fun k s => ∃ (i : Nat) (m : Int) (j1 j2 : AV), k = c.length - i ∧ i ≤ c.length ∧ m = (c.take i).sum ∧ s = ⟨[v, u, .int .i64 grain, .int .i64 least, .int .i64 (i : Int), .int .i64 (c.length : Int), j1, v, .int .i64 m, j2, undefA, undefA, undefA, undefA, undefA, undefA, undefA, undefA, undefA, .int .i64 0], h.ent, []⟩) ?_ (k := c.length) ⟨0, 0, _, _, rfl, Nat.zero_le _, rfl, rfl⟩
  rintro k s ⟨i, m, j1, j2, rfl, hi, hm, rfl⟩
  refine W_seq ?_
  (refine W_opsM ?_; simp only [go_sem])
  refine W_seq ?_
  refine W_cndP rfl (fun hc1 => ?_) (fun hc1 => ?_)
  · (refine W_nop ?_; simp only [go_sem])
    refine W_seq ?_
    refine W_blk ?_
    refine W_seq ?_
    have hi' : i < c.length := by omega
    obtain ⟨p, h1, h2⟩ := hv'.at hi'
    have b1 := hc _ (List.getElem_mem hi')
    have b2 := sum_take hi'
    have b3 := sum_take_le hc0 i
    have b4 := sum_pos (l := c.take i) fun x hx => hc0 x (List.mem_of_mem_take hx)
    (refine W_opsM ?_; simp only [go_sem, h1, h2])
    (refine W_opsM ?_; simp (disch := omega) only [wrap_i64, go_sem])
    (refine W_opsM ?_; simp (disch := omega) only [wrap_i64, go_sem])
    exact ⟨_, by omega, i + 1, _, _, _, rfl, by omega, by rw [b2, hm], rfl⟩
  (refine W_exit ?_; simp only [go_sem, Nat.reduceEqDiff, reduceIte])
  have : i = c.length := by omega
  subst this
  rw [List.take_length] at hm
  subst hm
  have hll := mul_bd (a := least) (b := (c.length : Int)) (A := 2) (B := 4) (by omega) hl.2 (by omega) (by omega)
  have hll0 : 0 ≤ least * (c.length : Int) := Int.mul_nonneg hl.1 (by omega)
  refine W_seq ?_
  (refine W_opsM ?_; simp (disch := omega) only [wrap_i64, go_sem, hv.lens])
  refine W_seq ?_
  refine W_seq ?_
  (refine W_opsM ?_; simp only [go_sem, hv.lens])
  refine W_blk ?_
  unfold dist
  obtain ⟨r, hr⟩ : ∃ r, r = grain - least * (c.length : Int) := ⟨_, rfl⟩
  rw [← hr]
  obtain ⟨t, ht⟩ : ∃ t, t = c.sum := ⟨_, rfl⟩
  have htb : 0 ≤ t ∧ t ≤ 36 := by omega
  have hrb : -14 ≤ r ∧ r ≤ 14 := by omega
  rw [← ht]
  have hdl : (dists c w t r least).length = c.length := by simp [dists, hcw]
  have hdb : ∀ (i : Nat) (hi : i < c.length), ∃ hi' : i < (dists c w t r least).length, (dists c w t r least)[i] = dst t r least c[i] (w[i]'(by omega)) := fun i hi => ⟨by omega, by simp [dists]⟩
  refine W_loop (fun k s => ∃ (i : Nat) (m : Int) (j4 j5 j6 j7 j9 j12 j14 j16 j18 : AV), k = c.length - i ∧ i ≤ c.length ∧ m = ((dists c w t r least).take i).sum ∧ 0 ≤ m ∧ m ≤ 10000 * i ∧
    s = ⟨[v, u, .int .i64 grain, .int .i64 least, j4, j5, j6, j7, .int .i64 t, j9, .int .i64 (i : Int), .int .i64 (c.length : Int), j12, v, j14, .int .i64 r, j16, .int .i64 m, j18, .int .i64 0], h.ent, []⟩) ?_ (k := c.length) ⟨0, 0, _, _, _, _, _, _, _, _, _, rfl, Nat.zero_le _, rfl, by omega, by omega, rfl⟩
  rintro k s ⟨i, m, j4, j5, j6, j7, j9, j12, j14, j16, j18, rfl, hi, hm, hm0, hm1, rfl⟩
  refine W_seq ?_
  (refine W_opsM ?_; simp only [go_sem])
  refine W_seq ?_
  refine W_cndP rfl (fun hc1 => ?_) (fun hc1 => ?_)
  · (refine W_nop ?_; simp only [go_sem])
    refine W_seq ?_
    refine W_blk ?_
    refine W_seq ?_
    have hi' : i < c.length := by omega
    have hi2 : i < w.length := by omega
    obtain ⟨p, h1, h2⟩ := hv'.at hi'
    obtain ⟨q, h3, h4⟩ := hu'.at hi2
    have b1 := hc _ (List.getElem_mem hi')
    have b2 := hw _ (List.getElem_mem hi2)
    obtain ⟨hi3, hd⟩ := hdb i hi'
    have hs := sum_take hi3
    rw [hd] at hs
    generalize c[i] = x at *
    generalize w[i] = y at *
    have m1 := mul_bd (a := t) (b := y - least) (A := 36) (B := 102) (by omega) (by omega) (by omega) (by omega)
    have m2 := mul_bd (a := r) (b := x) (A := 14) (B := 9) (by omega) (by omega) (by omega) (by omega)
    have hdd : dst t r least x y = max (t * (y - least) - r * x) (0 - (t * (y - least) - r * x)) := rfl
    (refine W_opsM ?_; simp only [go_sem, h1, h2])
    refine W_seq ?_
    (refine W_opsM ?_; simp (disch := omega) only [wrap_i64, go_sem, h3, h4])
    (refine W_opsM ?_; simp (disch := omega) only [wrap_i64, go_sem])
    (refine W_opsM ?_; simp (disch := omega) only [wrap_i64, go_sem])
    refine ⟨_, by omega, i + 1, _, _, _, _, _, _, _, _, _, _, rfl, by omega, by rw [hs, hm, hdd], ?_, ?_, rfl⟩
    · omega
    · omega
  · (refine W_exit ?_; simp only [go_sem, Nat.reduceEqDiff, reduceIte])
    have : i = c.length := by omega
    subst this
    refine W_seq ?_
    (refine W_opsM ?_; simp only [go_sem])
    refine W_ret ?_
    refine fin_out ent_low_le rfl rfl rfl ⟨?_, rfl⟩
    rw [hm, List.take_of_length_le (by omega)]
    rfl
end
end Go.Proofs.YtnkcimeebobjaaaDoor.fitNearest
namespace Go.Proofs.YtnkcimeebobjaaaDoor.fitNearest
open Hx Go
set_option maxRecDepth 100000
attribute [local irreducible] cSeq cOps cPre cCnd cBlk cLoop cScope cExit cRet cNop cRng Heap.ent Heap.setLow
section
variable {F : Nat → Nat → CallFn} (hF : IsEv KC Kt F)
include hF
theorem near3 {h h3 : Heap} {c out : List Int} {n : Nat} {t : Int} {v : AV} {g k grain least : Int} {bC b : Nat} {j3 j4 j5 j6 j7 j9 j12 j13 j15 j16 j17 j18 j19 j20 j21 j22 j23 j24 j26 j27 j28 j29 j30 j31 j32 j33 j34 j35 j36 j37 j38 j39 j40 j41 j42 j43 j44 j45 : AV} (hn1 : 1 ≤ n) (hm4 : n ≤ 4) (hcn : n = c.length) (hc : ∀ x ∈ c, 0 ≤ x ∧ x ≤ 9) (hct : c.sum = t) (ht : 0 < t) (hgr2 : 1 ≤ grain ∧ grain ≤ 14) (hle2 : 0 ≤ least ∧ least ≤ 2)
    (hall : 0 ≤ grain - least * (n : Int)) (hsh : IsShares c t (grain - least * c.length) least out) (hol : out.length = n) (hge : ∀ x ∈ out, least ≤ x) (hleg : ∀ x ∈ out, x ≤ grain) (hsum : out.sum = grain) (he3 : Ext h.ent h3) (hl3 : h.next ≤ h3.low) (oC : Own .i64 h3 3 bC c) (oS : Own .i64 h3 3 b out) :
    W F Ko6_97 ⟨[v, .int .u8 g, .int .u8 k, j3, j4, j5, j6, j7, .msl 3 bC 0 n, j9, .int .i64 grain, .int .i64 least, j12, j13, .msl 3 b 0 n, j15, j16, j17, j18, j19, j20, j21, j22, j23, j24, .int .i64 grain, j26, j27, j28, j29, j30, j31, j32, j33, j34, j35, j36, j37, j38, j39, j40, j41, j42, j43, j44, j45, .bool false], h3, []⟩ (finQ Ki6 h fun r h' => r = .val (.bool true)) := by
  subst hcn
  have hc0 : ∀ x ∈ c, 0 ≤ x := fun x hx => (hc x hx).1
  have oCi := oC.ints
  have oSi := oS.ints
  rw [hol] at oSi
  refine W_seq ?_
  (refine W_opsM ?_; simp only [go_sem])
  refine WO_call rfl rfl ?_
  refine (dist_ok hF oCi oSi hol.symm (by omega) hc (fun x hx => by have := hge x hx; have := hleg x hx; omega) hgr2 hle2).mono ?_
  rintro _ h3 ⟨rfl, rfl⟩
  simp only [go_sem]
  refine W_seq ?_
  (refine W_opsM ?_; simp (disch := omega) only [wrap_i64, go_sem, mksE])
  have oW := Own.mkZ (k := .i64) h3 3 c.length 0
  have oC2 := oC.pushO (x := .row (List.replicate c.length [AV.int .i64 0]).flatten 3)
  have he4 := he3.push (x := .row (List.replicate c.length [AV.int .i64 0]).flatten 3)
  have hl4 : h.next ≤ (h3.push (.row (List.replicate c.length [AV.int .i64 0]).flatten 3)).low := by rw [low_push]; exact hl3
  have hbw : h.next ≤ h3.next := by have := he3.next; rw [ent_next] at this; exact this
  have hCw : bC < h3.next := oC.1
  generalize h3.push _ = h4 at *
  generalize h3.next = bW at *
  refine W_seq ?_
  refine W_seq ?_
  (refine W_opsM ?_; simp only [go_sem])
  refine W_blk ?_
  refine W_loop (fun q s => ∃ (x : Nat) (h5 : Heap) (W0 : List Int) (j3 j4 j5 j6 j7 j9 j12 j13 j15 j16 j17 j18 j19 j20 j21 j22 j23 j24 j26 j27 j28 j29 j30 j31 j32 j33 j34 j36 j38 j39 j40 j41 j42 j43 j45 : AV), q = 4096 - x ∧ x ≤ 4096 ∧ Ext h.ent h5 ∧ h.next ≤ h5.low ∧ Own .i64 h5 3 bC c ∧ Own .i64 h5 3 bW W0 ∧ W0.length = c.length ∧ (∀ y ∈ W0, -100 ≤ y ∧ y ≤ 100) ∧
    s = ⟨[v, .int .u8 g, .int .u8 k, j3, j4, j5, j6, j7, .msl 3 bC 0 c.length, j9, .int .i64 grain, .int .i64 least, j12, j13, .msl 3 b 0 c.length, j15, j16, j17, j18, j19, j20, j21, j22, j23, j24, .int .i64 grain, j26, j27, j28, j29, j30, j31, j32, j33, j34, .int .i64 (x : Int), j36, .msl 3 bW 0 c.length, j38, j39, j40, j41, j42, j43, .int .i64 (dist c out grain least), j45, .bool false], h5, []⟩) ?_ (k := 4096) ⟨0, _, _, _, _, _, _, _, _, _, _, _, _, _, _, _, _, _, _, _, _, _, _, _, _, _, _, _, _, _, _, _, _, _, _, _, _, _, rfl, by omega, he4, hl4, oC2, oW, by simp, fun y hy => by rw [List.mem_replicate] at hy; omega, rfl⟩
  rintro q s ⟨x, h5, W0, j3, j4, j5, j6, j7, j9, j12, j13, j15, j16, j17, j18, j19, j20, j21, j22, j23, j24, j26, j27, j28, j29, j30, j31, j32, j33, j34, j36, j38, j39, j40, j41, j42, j43, j45, rfl, hx, he5, hl5, oC3, oW3, hW0, hWb, rfl⟩
  refine W_seq ?_
  refine W_seq ?_
  (refine W_opsM ?_; simp only [go_sem])
  refine W_cndP rfl (fun hc1 => ?_) (fun hc1 => ?_)
  · (refine W_nop ?_; simp only [go_sem])
    refine W_seq ?_
    refine W_blk ?_
    refine W_seq ?_
    (refine W_opsM ?_; simp only [go_sem])
    refine W_seq ?_
    refine W_seq ?_
    (refine W_opsM ?_; simp (disch := omega) only [wrap_i64, go_sem, slc_msl])
    have hcl : ((c.length - 1 : Nat) : Int) = (c.length : Int) - 1 := by omega
    refine W_blk ?_
    refine W_loop (fun q s => ∃ (i : Nat) (h6 : Heap) (W1 : List Int) (lf rest : Int) (j3 j4 j5 j6 j7 j9 j12 j13 j15 j16 j17 j18 j19 j20 j21 j22 j23 j24 j26 j27 j28 j29 j30 j31 j32 j33 j34 j36 j40 j41 j45 : AV), q = c.length - 1 - i ∧ i ≤ c.length - 1 ∧ Ext h.ent h6 ∧ h.next ≤ h6.low ∧ Own .i64 h6 3 bC c ∧ Own .i64 h6 3 bW W1 ∧ W1.length = c.length ∧ (∀ y ∈ W1, -100 ≤ y ∧ y ≤ 100) ∧
      lf = grain - (W1.take i).sum ∧ -17 * i ≤ lf - grain ∧ lf ≤ grain ∧ 0 ≤ rest ∧ rest ≤ 4096 ∧
      s = ⟨[v, .int .u8 g, .int .u8 k, j3, j4, j5, j6, j7, .msl 3 bC 0 c.length, j9, .int .i64 grain, .int .i64 least, j12, j13, .msl 3 b 0 c.length, j15, j16, j17, j18, j19, j20, j21, j22, j23, j24, .int .i64 grain, j26, j27, j28, j29, j30, j31, j32, j33, j34, .int .i64 (x : Int), j36, .msl 3 bW 0 c.length, .int .i64 (i : Int), .int .i64 ((c.length - 1 : Nat) : Int), j40, j41, .int .i64 rest, .int .i64 lf, .int .i64 (dist c out grain least), j45, .bool false], h6, []⟩) ?_ (k := c.length - 1) ⟨0, _, _, _, _, _, _, _, _, _, _, _, _, _, _, _, _, _, _, _, _, _, _, _, _, _, _, _, _, _, _, _, _, _, _, _, rfl, by omega, he5, hl5, oC3, oW3, hW0, hWb, by simp, by omega, by omega, ?_, ?_, rfl⟩
    · rintro q s ⟨i, h6, W1, lf, rest, j3, j4, j5, j6, j7, j9, j12, j13, j15, j16, j17, j18, j19, j20, j21, j22, j23, j24, j26, j27, j28, j29, j30, j31, j32, j33, j34, j36, j40, j41, j45, rfl, hi, he6, hl6, oC4, oW4, hW1, hWb1, hlf, hlf1, hlf2, hr1, hr2, rfl⟩
      refine W_seq ?_
      (refine W_opsM ?_; simp only [go_sem])
      refine W_seq ?_
      refine W_cndP rfl (fun hc2 => ?_) (fun hc2 => ?_)
      · (refine W_nop ?_; simp only [go_sem])
        have hi' : i < c.length - 1 := by omega
        have hi2 : i < c.length := by omega
        refine W_seq ?_
        refine W_blk ?_
        refine W_seq ?_
        (refine W_opsM ?_; simp only [go_sem])
        refine W_seq ?_
        have hrm : Int.tmod rest 16 = rest % 16 := Int.tmod_eq_emod_of_nonneg hr1
        have hrq : Int.tdiv rest 16 = rest / 16 := Int.tdiv_eq_ediv_of_nonneg hr1
        (refine W_opsM ?_; simp (disch := omega) only [wrap_i64, go_sem, bin_rem, hrm, ixs_msl hi2, fun y => oW4.store (i := i) (by omega) y])
        have oW5 := oW4.put (W1.set i (least + rest % 16))
        have hld := oW5.load (i := i) (by simp; omega)
        rw [List.getElem_set_self] at hld
        refine W_seq ?_
        (refine W_opsM ?_; simp (disch := omega) only [wrap_i64, go_sem, ixs_msl hi2, hld])
        (refine W_opsM ?_; simp (disch := omega) only [wrap_i64, go_sem, bin_quo, hrq])
        (refine W_opsM ?_; simp (disch := omega) only [wrap_i64, go_sem])
        have htk : ((W1.set i (least + rest % 16)).take (i + 1)).sum = (W1.take i).sum + (least + rest % 16) := by
          rw [sum_take (by simp; omega), List.getElem_set_self, List.take_set_of_le (Nat.le_refl i)]
        refine ⟨_, by omega, i + 1, _, _, _, _, _, _, _, _, _, _, _, _, _, _, _, _, _, _, _, _, _, _, _, _, _, _, _, _, _, _, _, _, _, _, _, rfl, by omega, he6.put (by rw [ent_next]; omega), by rw [low_put]; omega, oC4.putO (by omega), oW5, by simpa using hW1, ?_, ?_, ?_, ?_, ?_, ?_, rfl⟩
        · intro y hy
          rcases List.mem_or_eq_of_mem_set hy with hy | rfl
          · exact hWb1 y hy
          · omega
        · rw [htk, hlf]; omega
        · omega
        · omega
        · omega
        · omega
      · (refine W_exit ?_; simp only [go_sem, Nat.reduceEqDiff, reduceIte])
        have hil : i = c.length - 1 := by omega
        refine W_seq ?_
        have hcl2 : (c.length : Int) - 1 = ((c.length - 1 : Nat) : Int) := hcl.symm
        have hlast : c.length - 1 < c.length := by omega
        (refine W_opsM ?_; simp (disch := omega) only [wrap_i64, go_sem, hcl2, ixs_msl hlast, fun y => oW4.store (i := c.length - 1) (by omega) y])
        have oW5 := oW4.put (W1.set (c.length - 1) lf)
        have hWs : (W1.set (c.length - 1) lf).sum = grain := by
          have h1 := sum_take (l := W1.set (c.length - 1) lf) (i := c.length - 1) (by simp; omega)
          rw [List.getElem_set_self, List.take_set_of_le (Nat.le_refl _), List.take_of_length_le (by simp; omega)] at h1
          rw [h1, hlf, hil]; omega
        have hWl : (W1.set (c.length - 1) lf).length = c.length := by simpa using hW1
        have hWb2 : ∀ y ∈ W1.set (c.length - 1) lf, -100 ≤ y ∧ y ≤ 100 := by
          intro y hy
          rcases List.mem_or_eq_of_mem_set hy with hy | rfl
          · exact hWb1 y hy
          · omega
        have he7 := he6.put (b := bW) (x := .row ((W1.set (c.length - 1) lf).map (.int .i64 ·)) 3) (by rw [ent_next]; omega)
        have hl7 : h.next ≤ (h6.put bW (.row ((W1.set (c.length - 1) lf).map (.int .i64 ·)) 3)).low := by rw [low_put]; omega
        have oC5 := oC4.putO (b' := bW) (x := .row ((W1.set (c.length - 1) lf).map (.int .i64 ·)) 3) (by omega)
        generalize h6.put bW _ = h7 at *
        generalize W1.set (c.length - 1) lf = W2 at *
        have oWi := oW5.ints
        rw [hWl] at oWi
        have hbest := shares_best hsh hc0 ht hct hWl hWs
        refine W_seq ?_
        generalize hQ : seqQ F Ko6_137 _ = Q
        have hk : ∀ (j3 j4 j5 j6 j7 j9 j12 j13 j15 j16 j17 j18 j19 j20 j21 j22 j23 j24 j26 j27 j28 j29 j30 j31 j32 j33 j34 j36 j38 j39 j40 j41 j42 j43 : AV), Q .normal ⟨[v, .int .u8 g, .int .u8 k, j3, j4, j5, j6, j7, .msl 3 bC 0 c.length, j9, .int .i64 grain, .int .i64 least, j12, j13, .msl 3 b 0 c.length, j15, j16, j17, j18, j19, j20, j21, j22, j23, j24, .int .i64 grain, j26, j27, j28, j29, j30, j31, j32, j33, j34, .int .i64 (x : Int), j36, .msl 3 bW 0 c.length, j38, j39, j40, j41, j42, j43, .int .i64 (dist c out grain least), .bool false, .bool false], h7, []⟩ := by
          intro j3 j4 j5 j6 j7 j9 j12 j13 j15 j16 j17 j18 j19 j20 j21 j22 j23 j24 j26 j27 j28 j29 j30 j31 j32 j33 j34 j36 j38 j39 j40 j41 j42 j43
          subst hQ
          simp only [go_sem]
          refine W_cnd rfl (fun h => by cases h) (fun _ => ?_)
          (refine W_nop ?_; simp only [go_sem])
          (refine W_opsM ?_; simp (disch := omega) only [wrap_i64, go_sem])
          exact ⟨_, by omega, x + 1, h7, W2, _, _, _, _, _, _, _, _, _, _, _, _, _, _, _, _, _, _, _, _, _, _, _, _, _, _, _, _, _, _, _, _, _, _, _, rfl, by omega, he7, hl7, oC5, oW5, hWl, hWb2, rfl⟩
        by_cases d1 : lf ≥ least
        · by_cases d2 : rest = 0
          · (refine W_opsM ?_; simp (disch := omega) only [wrap_i64, go_sem, d1, d2])
            refine WO_call rfl rfl ?_
            refine (dist_ok hF oC5.ints oWi hWl.symm (by omega) hc hWb2 hgr2 hle2).mono ?_
            rintro _ h7 ⟨rfl, rfl⟩
            have d3 : ¬ dist c W2 grain least < dist c out grain least := by omega
            simp only [go_sem, d1, d2, d3]
            exact hk _ _ _ _ _ _ _ _ _ _ _ _ _ _ _ _ _ _ _ _ _ _ _ _ _ _ _ _ _ _ _ _ _ _
          · (refine W_opsM ?_; simp (disch := omega) only [wrap_i64, go_sem, d1, d2])
            exact hk _ _ _ _ _ _ _ _ _ _ _ _ _ _ _ _ _ _ _ _ _ _ _ _ _ _ _ _ _ _ _ _ _ _
        · (refine W_opsM ?_; simp (disch := omega) only [wrap_i64, go_sem, d1])
          exact hk _ _ _ _ _ _ _ _ _ _ _ _ _ _ _ _ _ _ _ _ _ _ _ _ _ _ _ _ _ _ _ _ _ _
    · omega
    · omega
  · (refine W_exit ?_; simp only [go_sem, Nat.reduceEqDiff, reduceIte])
    refine W_seq ?_
    (refine W_opsM ?_; simp (disch := omega) only [wrap_i64, go_sem])
    refine W_ret ?_
    exact fin_out hl5 rfl rfl rfl (by simp; rfl)
end
end Go.Proofs.YtnkcimeebobjaaaDoor.fitNearest
namespace Go.Proofs.YtnkcimeebobjaaaDoor.fitNearest
open Hx Go
set_option maxRecDepth 100000
attribute [local irreducible] cSeq cOps cPre cCnd cBlk cLoop cScope cExit cRet cNop cRng Heap.ent Heap.setLow
section
variable {F : Nat → Nat → CallFn} (hF : IsEv KC Kt F)
include hF
theorem near2 {h h3 : Heap} {cv out : List Int} {v : AV} {g k grain least : Int} {bC b : Nat} {j3 j4 j5 j6 j7 j9 j12 j13 j15 j16 j17 j18 j19 j20 j21 j22 j23 j24 j25 j26 j27 j28 j29 j30 j31 j32 j33 j34 j35 j36 j37 j38 j39 j40 j41 j42 j43 j44 j45 : AV} (hn1 : 1 ≤ cv.length) (hm4 : cv.length ≤ 4) (hcv0 : ∀ x ∈ cv, 0 ≤ x) (hcs : ∀ x ∈ cs cv, 0 ≤ x ∧ x ≤ 9) (hgr2 : 1 ≤ grain ∧ grain ≤ 14) (hle2 : 0 ≤ least ∧ least ≤ 2)
    (hall : 0 ≤ grain - least * (cv.length : Int)) (hsh : IsShares (cs cv) (ts cv) (grain - least * cv.length) least out) (he3 : Ext h.ent h3) (hl3 : h.next ≤ h3.low) (oC : Own .i64 h3 3 bC (cs cv)) (oS : Own .i64 h3 3 b out) :
    W F Ko6_61 ⟨[v, .int .u8 g, .int .u8 k, j3, j4, j5, j6, j7, .msl 3 bC 0 cv.length, j9, .int .i64 grain, .int .i64 least, j12, j13, .msl 3 b 0 cv.length, j15, j16, j17, j18, j19, j20, j21, j22, j23, j24, j25, j26, j27, j28, j29, j30, j31, j32, j33, j34, j35, j36, j37, j38, j39, j40, j41, j42, j43, j44, j45, .bool false], h3, []⟩ (finQ Ki6 h fun r h' => r = .val (.bool true)) := by
  have hcs0 : ∀ x ∈ cs cv, 0 ≤ x := fun x hx => (hcs x hx).1
  have ht := ts_pos hcv0 hn1
  have hol : out.length = cv.length := by rw [hsh.len, cs_len]
  have hsum : out.sum = grain := by rw [shares_sum hsh, cs_len]; omega
  have hge := shares_ge hsh hcs0 ht hall
  have hge0 : ∀ x ∈ out, 0 ≤ x := fun x hx => by have := hge x hx; omega
  have hleg : ∀ x ∈ out, x ≤ grain := fun x hx => by have := mem_le_sum hge0 x hx; omega
  have hcn : (cs cv).length = cv.length := cs_len cv
  have oCi := oC.ints
  have oSi := oS.ints
  rw [hcn] at oCi
  rw [hol] at oSi
  have hmono := @shares_mono _ _ _ _ _ hsh hcs0 ht hall (cs_sum cv)
  refine W_seq ?_
  (refine W_opsM ?_; simp only [go_sem])
  refine W_seq ?_
  refine W_seq ?_
  (refine W_opsM ?_; simp only [go_sem])
  refine W_blk ?_
  have hxb : ∀ (i : Nat) (hi : i < out.length), least ≤ out[i] ∧ out[i] ≤ grain := fun i hi => ⟨hge _ (List.getElem_mem hi), hleg _ (List.getElem_mem hi)⟩
  refine W_loop (fun q s => ∃ (i : Nat) (m : Int) (j3 j4 j5 j6 j7 j9 j12 j13 j15 j16 j17 j18 j19 j20 j23 j26 j27 j28 j29 j30 j31 j32 j33 j34 j35 j36 j37 j38 j39 j40 j41 j42 j43 j44 j45 : AV), q = cv.length - i ∧ i ≤ cv.length ∧ m = (out.take i).sum ∧
    s = ⟨[v, .int .u8 g, .int .u8 k, j3, j4, j5, j6, j7, .msl 3 bC 0 cv.length, j9, .int .i64 grain, .int .i64 least, j12, j13, .msl 3 b 0 cv.length, j15, j16, j17, j18, j19, j20, .int .i64 (i : Int), .int .i64 (cv.length : Int), j23, .msl 3 b 0 cv.length, .int .i64 m, j26, j27, j28, j29, j30, j31, j32, j33, j34, j35, j36, j37, j38, j39, j40, j41, j42, j43, j44, j45, .bool false], h3, []⟩) ?_ (k := cv.length) ⟨0, _, _, _, _, _, _, _, _, _, _, _, _, _, _, _, _, _, _, _, _, _, _, _, _, _, _, _, _, _, _, _, _, _, _, _, _, rfl, Nat.zero_le _, rfl, rfl⟩
  rintro q s ⟨i, m, j3, j4, j5, j6, j7, j9, j12, j13, j15, j16, j17, j18, j19, j20, j23, j26, j27, j28, j29, j30, j31, j32, j33, j34, j35, j36, j37, j38, j39, j40, j41, j42, j43, j44, j45, rfl, hi, hm, rfl⟩
  refine W_seq ?_
  (refine W_opsM ?_; simp only [go_sem])
  refine W_seq ?_
  refine W_cndP rfl (fun hc1 => ?_) (fun hc1 => ?_)
  · (refine W_nop ?_; simp only [go_sem])
    have hi' : i < cv.length := by omega
    have hio : i < out.length := by omega
    have hlo := oS.load hio
    have hb1 := hxb i hio
    have hs1 := sum_take hio
    have hs2 := sum_take_le hge0 i
    have hs3 := sum_pos (l := out.take i) fun x hx => hge0 x (List.mem_of_mem_take hx)
    have hs4 : (out.take i).sum ≤ grain := by omega
    refine W_seq ?_
    refine W_blk ?_
    refine W_seq ?_
    (refine W_opsM ?_; simp only [go_sem, ixs_msl hi', hlo])
    refine W_seq ?_
    (refine W_opsM ?_; simp (disch := omega) only [wrap_i64, go_sem])
    refine W_seq ?_
    (refine W_opsM ?_; simp only [go_sem])
    refine W_blk ?_
    have hlc := oC.load (i := i) (by omega)
    refine W_loop (fun q s => ∃ (j : Nat) (j3 j4 j5 j6 j7 j9 j12 j13 j15 j16 j17 j18 j19 j20 j23 j29 j32 j33 j34 j35 j36 j37 j38 j39 j40 j41 j42 j43 j44 j45 : AV), q = cv.length - j ∧ j ≤ cv.length ∧
      s = ⟨[v, .int .u8 g, .int .u8 k, j3, j4, j5, j6, j7, .msl 3 bC 0 cv.length, j9, .int .i64 grain, .int .i64 least, j12, j13, .msl 3 b 0 cv.length, j15, j16, j17, j18, j19, j20, .int .i64 (i : Int), .int .i64 (cv.length : Int), j23, .msl 3 b 0 cv.length, .int .i64 (m + out[i]), .int .i64 out[i], .int .i64 (j : Int), .int .i64 (cv.length : Int), j29, .msl 3 b 0 cv.length, .int .i64 (i : Int), j32, j33, j34, j35, j36, j37, j38, j39, j40, j41, j42, j43, j44, j45, .bool false], h3, []⟩) ?_ (k := cv.length) ⟨0, _, _, _, _, _, _, _, _, _, _, _, _, _, _, _, _, _, _, _, _, _, _, _, _, _, _, _, _, _, _, rfl, Nat.zero_le _, rfl⟩
    rintro q s ⟨j, j3, j4, j5, j6, j7, j9, j12, j13, j15, j16, j17, j18, j19, j20, j23, j29, j32, j33, j34, j35, j36, j37, j38, j39, j40, j41, j42, j43, j44, j45, rfl, hj, rfl⟩
    refine W_seq ?_
    (refine W_opsM ?_; simp only [go_sem])
    refine W_seq ?_
    refine W_cndP rfl (fun hc2 => ?_) (fun hc2 => ?_)
    · (refine W_nop ?_; simp only [go_sem])
      have hj' : j < cv.length := by omega
      have hjo : j < out.length := by omega
      have hlo2 := oS.load hjo
      have hlc2 := oC.load (i := j) (by omega)
      refine W_seq ?_
      refine W_blk ?_
      refine W_seq ?_
      (refine W_opsM ?_; simp only [go_sem, ixs_msl hj', hlo2])
      refine W_seq ?_
      have d1 : ¬ out[i] < least := by omega
      have d2 : ¬ out[i] > grain := by omega
      have hmono' := fun h => hmono (i := i) (j := j) hio hjo h
      generalize hQ2 : seqQ F Ko6_92 _ = Q2
      have hk2 : ∀ (j3 j4 j5 j6 j7 j9 j12 j13 j15 j16 j17 j18 j19 j20 j23 j29 j32 j33 j35 j36 j37 j38 j39 j40 j41 j42 j43 j44 j45 : AV), Q2 .normal ⟨[v, .int .u8 g, .int .u8 k, j3, j4, j5, j6, j7, .msl 3 bC 0 cv.length, j9, .int .i64 grain, .int .i64 least, j12, j13, .msl 3 b 0 cv.length, j15, j16, j17, j18, j19, j20, .int .i64 (i : Int), .int .i64 (cv.length : Int), j23, .msl 3 b 0 cv.length, .int .i64 (m + out[i]), .int .i64 out[i], .int .i64 (j : Int), .int .i64 (cv.length : Int), j29, .msl 3 b 0 cv.length, .int .i64 (i : Int), j32, j33, .bool false, j35, j36, j37, j38, j39, j40, j41, j42, j43, j44, j45, .bool false], h3, []⟩ := by
        intro j3 j4 j5 j6 j7 j9 j12 j13 j15 j16 j17 j18 j19 j20 j23 j29 j32 j33 j35 j36 j37 j38 j39 j40 j41 j42 j43 j44 j45
        subst hQ2
        simp only [go_sem]
        refine W_cnd rfl (fun h => by cases h) (fun _ => ?_)
        (refine W_nop ?_; simp only [go_sem])
        (refine W_opsM ?_; simp (disch := omega) only [wrap_i64, go_sem])
        exact ⟨_, by omega, j + 1, _, _, _, _, _, _, _, _, _, _, _, _, _, _, _, _, _, _, _, _, _, _, _, _, _, _, _, _, _, _, rfl, by omega, rfl⟩
      by_cases d3 : (cs cv)[i] > (cs cv)[j]
      · have d4 : ¬ out[i] < out[j] := by have := hmono' d3; omega
        (refine W_pre ?_; simp (disch := omega) only [wrap_i64, go_sem, d1, d2, ixs_msl hi', ixs_msl hj', hlc, hlc2, d3, d4])
        exact hk2 _ _ _ _ _ _ _ _ _ _ _ _ _ _ _ _ _ _ _ _ _ _ _ _ _ _ _ _ _
      · (refine W_pre ?_; simp (disch := omega) only [wrap_i64, go_sem, d1, d2, ixs_msl hi', ixs_msl hj', hlc, hlc2, d3])
        exact hk2 _ _ _ _ _ _ _ _ _ _ _ _ _ _ _ _ _ _ _ _ _ _ _ _ _ _ _ _ _
    · (refine W_exit ?_; simp only [go_sem, Nat.reduceEqDiff, reduceIte])
      (refine W_opsM ?_; simp (disch := omega) only [wrap_i64, go_sem])
      exact ⟨_, by omega, i + 1, _, _, _, _, _, _, _, _, _, _, _, _, _, _, _, _, _, _, _, _, _, _, _, _, _, _, _, _, _, _, _, _, _, _, _, _, rfl, by omega, by rw [hs1, hm], rfl⟩
  (refine W_exit ?_; simp only [go_sem, Nat.reduceEqDiff, reduceIte])
  have : i = cv.length := by omega
  subst this
  rw [List.take_of_length_le (by omega), hsum] at hm
  subst hm
  exact near3 hF hn1 hm4 hcn.symm hcs (cs_sum cv) ht hgr2 hle2 hall (by rw [hcn]; exact hsh) hol hge hleg hsum he3 hl3 oC oS
end
end Go.Proofs.YtnkcimeebobjaaaDoor.fitNearest
namespace Go.Proofs.YtnkcimeebobjaaaDoor.fitNearest
open Hx Go
set_option maxRecDepth 100000
attribute [local irreducible] cSeq cOps cPre cCnd cBlk cLoop cScope cExit cRet cNop cRng Heap.ent Heap.setLow
section
variable {F : Nat → Nat → CallFn} (hF : IsEv KC Kt F)
include hF
theorem nearest_ok {h : Heap} {v : AV} {ls : List Int} {g k : Int} (hv : Ints .u8 h 5 v ls) (hl : ∀ x ∈ ls, 0 ≤ x ∧ x ≤ 255) (hg : 0 ≤ g ∧ g ≤ 255) (hk : 0 ≤ k ∧ k ≤ 255) :
    WV F (.fn (.func 6) [] []) [v, .int .u8 g, .int .u8 k] h (fun r h' => r = .val (.bool true)) := by
  have hv' := hv.ext (Ext.ent h)
  refine Kent6 hF ?_
  refine W_seq ?_
  (refine W_opsM ?_; simp only [go_sem])
  refine W_seq ?_
  refine W_seq ?_
  refine W_opsM ?_
  refine WO_call rfl rfl ?_
  refine WV_mem hF (v := .bool true) rfl ?_
  simp only [go_sem]
  refine W_cnd rfl (fun h => by cases h) (fun _ => ?_)
  (refine W_nop ?_; simp only [go_sem])
  refine W_seq ?_
  (refine W_opsM ?_; simp only [go_sem])
  refine W_seq ?_
  refine W_seq ?_
  have hmin : min (ls.length : Int) 4 = ((min ls.length 4 : Nat) : Int) := by omega
  obtain ⟨w, hw1, hw2⟩ := hv'.slc (a := 0) (u := min ls.length 4) (Nat.zero_le _) (by omega)
  rw [List.drop_zero, Nat.sub_zero] at hw2
  have hml : (ls.take (min ls.length 4)).length = min ls.length 4 := by rw [List.length_take]; omega
  (refine W_opsM ?_; simp only [go_sem, hv.lens, hmin, RdS.lenA hv, hw1, hw2.lens, hml])
  have hms : ∀ x ∈ ls.take (min ls.length 4), 0 ≤ x ∧ x ≤ 255 := fun x hx => hl x (List.mem_of_mem_take hx)
  generalize ls.take (min ls.length 4) = ms at *
  have hm4 : ms.length ≤ 4 := by omega
  rw [← hml]
  refine W_blk ?_
  refine W_loop (fun q s => ∃ (i : Nat) (h1 : Heap) (C : AV) (j3 j6 j9 j10 j11 j12 j13 j14 j15 j16 j17 j18 j19 j20 j21 j22 j23 j24 j25 j26 j27 j28 j29 j30 j31 j32 j33 j34 j35 j36 j37 j38 j39 j40 j41 j42 j43 j44 j45 : AV), q = ms.length - i ∧ i ≤ ms.length ∧ Ext h.ent h1 ∧ h.next ≤ h1.low ∧ OwnN .i64 h.ent.next h1 3 C ((ms.take i).map (· % 9)) ∧
    s = ⟨[v, .int .u8 g, .int .u8 k, j3, .int .i64 (i : Int), .int .i64 (ms.length : Int), j6, w, C, j9, j10, j11, j12, j13, j14, j15, j16, j17, j18, j19, j20, j21, j22, j23, j24, j25, j26, j27, j28, j29, j30, j31, j32, j33, j34, j35, j36, j37, j38, j39, j40, j41, j42, j43, j44, j45, .bool false], h1, []⟩) ?_ (k := ms.length) ⟨0, _, _, _, _, _, _, _, _, _, _, _, _, _, _, _, _, _, _, _, _, _, _, _, _, _, _, _, _, _, _, _, _, _, _, _, _, _, _, _, _, _, rfl, Nat.zero_le _, Ext.refl _, ent_low_le, .inl ⟨rfl, rfl⟩, rfl⟩
  rintro q s ⟨i, h1, C, j3, j6, j9, j10, j11, j12, j13, j14, j15, j16, j17, j18, j19, j20, j21, j22, j23, j24, j25, j26, j27, j28, j29, j30, j31, j32, j33, j34, j35, j36, j37, j38, j39, j40, j41, j42, j43, j44, j45, rfl, hi, he1, hl1, hC, rfl⟩
  refine W_seq ?_
  (refine W_opsM ?_; simp only [go_sem])
  refine W_seq ?_
  refine W_cndP rfl (fun hc1 => ?_) (fun hc1 => ?_)
  · (refine W_nop ?_; simp only [go_sem])
    refine W_seq ?_
    refine W_blk ?_
    refine W_seq ?_
    have hi' : i < ms.length := by omega
    obtain ⟨p, g1, g2⟩ := (hw2.ext he1).at hi'
    have bx := hms _ (List.getElem_mem hi')
    have htk : (ms.take (i + 1)).map (· % 9) = (ms.take i).map (· % 9) ++ [ms[i] % 9] := by rw [List.take_succ_eq_append_getElem hi', List.map_append]; rfl
    (refine W_opsM ?_; simp only [go_sem, g1, g2])
    have hcl : ((ms.take i).map (· % 9)).length = i := by simp; omega
    obtain ⟨C', h', x, a1, a2, a3, a4, a5, _⟩ := hC.app1 (ms[i] % 9) 8 he1 (by rw [ent_next]; exact hl1) (by omega) (by omega)
    have hmod : Int.tmod ms[i] 9 = ms[i] % 9 := Int.tmod_eq_emod_of_nonneg bx.1
    (refine W_opsM ?_; simp (disch := omega) only [wrap_i64, go_sem, bin_rem, hmod, a1])
    (refine W_opsM ?_; simp (disch := omega) only [wrap_i64, go_sem])
    refine ⟨_, by omega, i + 1, _, _, _, _, _, _, _, _, _, _, _, _, _, _, _, _, _, _, _, _, _, _, _, _, _, _, _, _, _, _, _, _, _, _, _, _, _, _, _, _, _, rfl, by omega, a3, by rw [ent_next] at a4; exact a4, by rw [htk]; exact a2, rfl⟩
  (refine W_exit ?_; simp only [go_sem, Nat.reduceEqDiff, reduceIte])
  have : i = ms.length := by omega
  subst this
  rw [List.take_length] at hC
  have hcv : ∀ x ∈ ms.map (· % 9), 0 ≤ x ∧ x ≤ 8 := by
    intro x hx
    rw [List.mem_map] at hx
    obtain ⟨y, hy, rfl⟩ := hx
    have := hms y hy
    omega
  have hcn : (ms.map (· % 9)).length = ms.length := by simp
  generalize ms.map (· % 9) = cv at *
  generalize ms.length = n at *
  subst hcn
  refine W_seq ?_
  (refine W_opsM ?_; simp (disch := omega) only [wrap_i64, go_sem, bin_rem, Int.tmod_eq_emod_of_nonneg hk.1])
  obtain ⟨least, hle⟩ : ∃ a, a = k % 3 := ⟨_, rfl⟩
  rw [← hle]
  have hle2 : 0 ≤ least ∧ least ≤ 2 := by omega
  refine W_seq ?_
  (refine W_opsM ?_; simp (disch := omega) only [wrap_i64, go_sem, bin_rem, Int.tmod_eq_emod_of_nonneg hg.1])
  obtain ⟨grain, hgr⟩ : ∃ a, a = 1 + g % 14 := ⟨_, rfl⟩
  rw [← hgr]
  have hgr2 : 1 ≤ grain ∧ grain ≤ 14 := by omega
  rw [ent_next] at hC
  have hll := mul_bd (a := least) (b := (cv.length : Int)) (A := 2) (B := 4) (by omega) hle2.2 (by omega) (by omega)
  have hll0 : 0 ≤ least * (cv.length : Int) := Int.mul_nonneg hle2.1 (by omega)
  have hgood : Good cv grain least ↔ 1 ≤ cv.length ∧ least * cv.length ≤ grain := ⟨fun h => ⟨h.1, h.2.2.2.2.2.2⟩, fun h => ⟨h.1, by omega, fun x hx => by have := hcv x hx; omega, by omega, by omega, by omega, h.2⟩⟩
  have hcv0 : ∀ x ∈ cv, 0 ≤ x := fun x hx => (hcv x hx).1
  clear hv hv' hw2 hms hmin hw1 hml
  refine W_seq ?_
  (refine W_opsM ?_; simp only [go_sem])
  refine WO_call rfl rfl ?_
  refine (round_ok hF (sortOk12 hF) (by omega) hC.ints (fun x hx => by have := hcv x hx; omega) (.inl (by omega)) (by omega) (by omega)).mono ?_
  rintro r h2 (⟨hbad, rfl, rfl⟩ | ⟨hgd, b, out, rfl, hgrow, hbb, hos, hsh⟩)
  · simp only [go_sem]
    refine W_seq ?_
    refine W_seq ?_
    have fin : ∀ (j3 j4 j5 j6 j7 j9 j10 j11 j12 j14 j15 j16 j17 j18 j19 j20 j21 j22 j23 j24 j25 j26 j27 j28 j29 j30 j31 j32 j33 j34 j35 j36 j37 j38 j39 j40 j41 j42 j43 j44 j45 : AV), W F Ko6_35 ⟨[v, .int .u8 g, .int .u8 k, j3, j4, j5, j6, j7, C, j9, j10, j11, j12, .int .i64 2, j14, j15, j16, j17, j18, j19, j20, j21, j22, j23, j24, j25, j26, j27, j28, j29, j30, j31, j32, j33, j34, j35, j36, j37, j38, j39, j40, j41, j42, j43, j44, j45, .bool false], h2, []⟩ (seqQ F Ko6_37 (finQ Ki6 h fun r h' => r = Ret.val (AV.bool true))) := by
      intro j3 j4 j5 j6 j7 j9 j10 j11 j12 j14 j15 j16 j17 j18 j19 j20 j21 j22 j23 j24 j25 j26 j27 j28 j29 j30 j31 j32 j33 j34 j35 j36 j37 j38 j39 j40 j41 j42 j43 j44 j45
      refine W_seq ?_
      (refine W_opsM ?_; simp only [go_sem])
      refine W_ret ?_
      simp only [go_sem]
      exact fin_out hl1 rfl rfl rfl rfl
    rw [hgood] at hbad
    by_cases c1 : (cv.length : Int) = 0
    · (refine W_opsM ?_; simp (disch := omega) only [wrap_i64, go_sem, hC.ints.lens, c1])
      refine W_cnd rfl (fun _ => ?_) (fun h => by cases h)
      exact fin _ _ _ _ _ _ _ _ _ _ _ _ _ _ _ _ _ _ _ _ _ _ _ _ _ _ _ _ _ _ _ _ _ _ _ _ _ _ _ _ _
    · (refine W_opsM ?_; simp (disch := omega) only [wrap_i64, go_sem, hC.ints.lens, c1])
      refine W_cndP rfl (fun _ => ?_) (fun h => ?_)
      · exact fin _ _ _ _ _ _ _ _ _ _ _ _ _ _ _ _ _ _ _ _ _ _ _ _ _ _ _ _ _ _ _ _ _ _ _ _ _ _ _ _ _
      · exfalso; apply hbad; omega
  have hn1 := hgd.1
  have hne : cv ≠ [] := by intro h; subst h; simp at hn1
  obtain ⟨bC, rfl, hoC, hbC⟩ := hC.own hne
  have hgl := hgrow.low
  have hn12 := hgrow.ext.next
  have hn01 := he1.next
  rw [ent_next] at hn01
  have hoC2 := hoC.ext hgrow.ext
  have hbb' : bC < b := Nat.lt_of_lt_of_le hoC.1 hbb
  have he2 := he1.trans hgrow.ext
  have hl2 : h.next ≤ h2.low := by omega
  clear hgrow hC hoC he1 hl1
  have hol : out.length = cv.length := by rw [hsh.len, cs_len]
  have ht := ts_pos hcv0 hn1
  have hcs : ∀ x ∈ cs cv, 0 ≤ x ∧ x ≤ 9 := cs_bd (by omega) (fun x hx => by have := hcv x hx; omega)
  have hcs0 : ∀ x ∈ cs cv, 0 ≤ x := fun x hx => (hcs x hx).1
  have hall : 0 ≤ grain - least * (cv.length : Int) := by have := hgd.2.2.2.2.2.2; omega
  have hsum : out.sum = grain := by rw [shares_sum hsh, cs_len]; omega
  have hge := shares_ge hsh hcs0 ht hall
  have hge0 : ∀ x ∈ out, 0 ≤ x := fun x hx => by have := hge x hx; omega
  have hleg : ∀ x ∈ out, x ≤ grain := fun x hx => by have := mem_le_sum hge0 x hx; omega
  have hob := hos.ints
  rw [hol] at hob
  simp only [go_sem]
  have c1 : ¬ (cv.length : Int) = 0 := by omega
  have c2 : ¬ least * (cv.length : Int) > grain := by omega
  refine W_seq ?_
  refine W_seq ?_
  (refine W_opsM ?_; simp (disch := omega) only [wrap_i64, go_sem, c1, c2])
  refine W_cnd rfl (fun h => by cases h) (fun _ => ?_)
  (refine W_nop ?_; simp only [go_sem])
  refine W_seq ?_
  refine W_seq ?_
  have c3 : ¬ ((0 : Int) ≠ 0) := by simp
  have c4 : ¬ ((cv.length : Int) ≠ (cv.length : Int)) := by simp
  (refine W_opsM ?_; simp (disch := omega) only [wrap_i64, go_sem, c3, c4])
  refine W_cnd rfl (fun h => by cases h) (fun _ => ?_)
  (refine W_nop ?_; simp only [go_sem])
  refine W_seq ?_
  refine W_seq ?_
  (refine W_opsM ?_; simp only [go_sem])
  refine WO_call rfl rfl ?_
  refine (max_ok hF hoC2.ints hne (by omega)).mono ?_
  rintro _ _ ⟨rfl, rfl⟩
  simp only [go_sem]
  generalize hQ : seqQ F Ko6_61 _ = Q
  have hk : ∀ (h3 : Heap) (j3 j4 j5 j6 j7 j9 j12 j13 j15 j16 j17 j18 j19 j20 j21 j22 j23 j24 j25 j26 j27 j28 j29 j30 j31 j32 j33 j34 j35 j36 j37 j38 j39 j40 j41 j42 j43 j44 j45 : AV), Ext h.ent h3 → h.next ≤ h3.low → Own .i64 h3 3 bC (cs cv) → Own .i64 h3 3 b out → Q .normal ⟨[v, .int .u8 g, .int .u8 k, j3, j4, j5, j6, j7, .msl 3 bC 0 cv.length, j9, .int .i64 grain, .int .i64 least, j12, j13, .msl 3 b 0 cv.length, j15, j16, j17, j18, j19, j20, j21, j22, j23, j24, j25, j26, j27, j28, j29, j30, j31, j32, j33, j34, j35, j36, j37, j38, j39, j40, j41, j42, j43, j44, j45, .bool false], h3, []⟩ := by
    intro h3 j3 j4 j5 j6 j7 j9 j12 j13 j15 j16 j17 j18 j19 j20 j21 j22 j23 j24 j25 j26 j27 j28 j29 j30 j31 j32 j33 j34 j35 j36 j37 j38 j39 j40 j41 j42 j43 j44 j45 he3 hl3 oC oS
    subst hQ
    exact near2 hF hn1 hm4 hcv0 hcs hgr2 hle2 hall hsh he3 hl3 oC oS
  have hms0 : maxL cv = 0 ↔ cv.sum = 0 := by
    constructor
    · intro h
      have h1 := (maxL_le hne (B := 0)).1 (by omega)
      have : cv = List.replicate cv.length 0 := List.eq_replicate_iff.2 ⟨rfl, fun x hx => by have := h1 x hx; have := hcv0 x hx; omega⟩
      rw [this]; simp
    · intro h
      have h1 := sum_zero hcv0 h
      have h2 := (maxL_le hne (B := 0)).2 fun x hx => by rw [h1 x hx]; omega
      cases hcc : cv with
      | nil => exact absurd hcc hne
      | cons y l =>
        have h3 := (maxL_le (l := y :: l) (by simp) (B := maxL (y :: l))).1 (Int.le_refl _) y List.mem_cons_self
        have h4 := h1 y (by rw [hcc]; exact List.mem_cons_self)
        rw [hcc] at h2
        omega
  refine W_cndP rfl (fun hc => ?_) (fun hc => ?_)
  · rw [hms0] at hc
    have hcs1 : cs cv = List.replicate cv.length 1 := if_pos hc
    refine W_seq ?_
    (refine W_opsM ?_; simp only [go_sem])
    refine W_blk ?_
    refine W_loop (fun q s => ∃ (i : Nat) (h3 : Heap) (j3 j4 j5 j6 j7 j9 j12 j13 j15 j16 j19 j20 j21 j22 j23 j24 j25 j26 j27 j28 j29 j30 j31 j32 j33 j34 j35 j36 j37 j38 j39 j40 j41 j42 j43 j44 j45 : AV), q = cv.length - i ∧ i ≤ cv.length ∧ Ext h.ent h3 ∧ h.next ≤ h3.low ∧ Own .i64 h3 3 bC (List.replicate i 1 ++ cv.drop i) ∧ Own .i64 h3 3 b out ∧
      s = ⟨[v, .int .u8 g, .int .u8 k, j3, j4, j5, j6, j7, .msl 3 bC 0 cv.length, j9, .int .i64 grain, .int .i64 least, j12, j13, .msl 3 b 0 cv.length, j15, j16, .int .i64 (i : Int), .int .i64 (cv.length : Int), j19, j20, j21, j22, j23, j24, j25, j26, j27, j28, j29, j30, j31, j32, j33, j34, j35, j36, j37, j38, j39, j40, j41, j42, j43, j44, j45, .bool false], h3, []⟩) ?_ (k := cv.length) ⟨0, _, _, _, _, _, _, _, _, _, _, _, _, _, _, _, _, _, _, _, _, _, _, _, _, _, _, _, _, _, _, _, _, _, _, _, _, _, _, rfl, Nat.zero_le _, he2, hl2, by simpa using hoC2, hos, rfl⟩
    rintro q s ⟨i, h3, j3, j4, j5, j6, j7, j9, j12, j13, j15, j16, j19, j20, j21, j22, j23, j24, j25, j26, j27, j28, j29, j30, j31, j32, j33, j34, j35, j36, j37, j38, j39, j40, j41, j42, j43, j44, j45, rfl, hi, he3, hl3, oC, oS, rfl⟩
    refine W_seq ?_
    (refine W_opsM ?_; simp only [go_sem])
    refine W_seq ?_
    refine W_cndP rfl (fun hc1 => ?_) (fun hc1 => ?_)
    · (refine W_nop ?_; simp only [go_sem])
      have hi' : i < cv.length := by omega
      refine W_seq ?_
      refine W_blk ?_
      refine W_seq ?_
      (refine W_opsM ?_; simp only [go_sem])
      (refine W_opsM ?_; simp (disch := omega) only [wrap_i64, go_sem, ixs_msl hi', fun y => oC.store (i := i) (by simp; omega) y])
      (refine W_opsM ?_; simp (disch := omega) only [wrap_i64, go_sem])
      refine ⟨_, by omega, i + 1, _, _, _, _, _, _, _, _, _, _, _, _, _, _, _, _, _, _, _, _, _, _, _, _, _, _, _, _, _, _, _, _, _, _, _, _, _, _, rfl, by omega, he3.put (by rw [ent_next]; exact hbC), by rw [low_put]; omega, ?_, oS.putO (by omega), rfl⟩
      have : (List.replicate i 1 ++ List.drop i cv).set i 1 = List.replicate (i + 1) 1 ++ List.drop (i + 1) cv := by
        rw [List.set_append, if_neg (by simp), List.length_replicate, Nat.sub_self, List.drop_eq_getElem_cons hi', List.set_cons_zero, List.replicate_succ', List.append_assoc]; rfl
      rw [← this]
      exact oC.put _
    · (refine W_exit ?_; simp only [go_sem, Nat.reduceEqDiff, reduceIte])
      have : i = cv.length := by omega
      subst this
      rw [List.drop_length, List.append_nil, ← hcs1] at oC
      exact hk h3 _ _ _ _ _ _ _ _ _ _ _ _ _ _ _ _ _ _ _ _ _ _ _ _ _ _ _ _ _ _ _ _ _ _ _ _ _ _ _ he3 hl3 oC oS
  · refine W_nop ?_
    rw [hms0] at hc
    have hcs1 : cs cv = cv := if_neg hc
    exact hk _ _ _ _ _ _ _ _ _ _ _ _ _ _ _ _ _ _ _ _ _ _ _ _ _ _ _ _ _ _ _ _ _ _ _ _ _ _ _ _ he2 hl2 (by rw [hcs1]; exact hoC2) hos
end
end Go.Proofs.YtnkcimeebobjaaaDoor.fitNearest
