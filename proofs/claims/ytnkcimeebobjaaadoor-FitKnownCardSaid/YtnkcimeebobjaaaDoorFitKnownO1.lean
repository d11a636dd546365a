/- The walk and the plain laws (part 1). -/
import Derived.Test.YtnkcimeebobjaaaDoorFitKnownO0
namespace Go.Proofs.YtnkcimeebobjaaaDoor.fitKnown
open Hx Go
set_option maxRecDepth 100000
attribute [local irreducible] cSeq cOps cPre cCnd cBlk cLoop cScope cExit cRet cNop cRng Heap.ent Heap.setLow
/-- the sort of a part -/
def PdqOk (F : Nat → Nat → CallFn) (g : AV) (h0 : Heap) (b : Nat) (lt : Int → Int → Bool) (D : Int → Prop) (N n : Nat) : Prop :=
  ∀ (h : Heap) (d : Array Int) (a bn lim : Nat), SIn F g h0 h b d lt D → bn - a < n → a ≤ bn → bn ≤ d.size → d.size = N → lim ≤ 16 → Go.Sort.Below lt a bn d →
    WV F (.fn (.func 97) [] []) [.msl 3 b 0 N, .int .i64 (a : Int), .int .i64 (bn : Int), .int .i64 (lim : Int), g] h (fun r h' => r = .val (.tup []) ∧ Updw h h' b ∧ ∃ d', Own .i64 h' 3 b d'.toList ∧ Go.Sort.PermIn a bn d d' ∧ Go.Sort.SortedIn lt a bn d')
section
variable {F : Nat → Nat → CallFn} (hF : IsEv KC Kt F)
open Go.Sort
variable {g : AV} {h0 h h' hE : Heap} {b : Nat} {d d' : Array Int} {lt : Int → Int → Bool} {D : Int → Prop} {a bn lim m N : Nat} {wb wp : Bool} {Q : Ex → St → Prop}
include hF
theorem pdq46 (hsw : SWO lt) (hs : SIn F g h0 h b d lt D) (hu : Updw hE h b) (hB : Below lt a bn d) (hm : a ≤ m) (hm2 : m < bn) (hab : a + 12 < bn) (hb : bn ≤ d.size) (hN : d.size = N) (hlim : lim ≤ 16) (hrec : PdqOk F g h0 b lt D N (bn - a)) {j6 j7 j9 j10 j11 j14 j15 j16 j17 j18 j19 j20 j21 j22 j23 : AV}
    (hq : ∀ (e : Ex) (a' bn' : Nat) (wb' wp' : Bool) (h1 : Heap) (d1 : Array Int) (j5 j6 j7 j9 j10 j11 j12 j14 j15 j16 j17 j18 j19 j20 j21 j22 j23 : AV), (e = .normal ∨ e = .exit 1) → bn' - a' < bn - a → a' ≤ bn' → bn' ≤ bn → SIn F g h0 h1 b d1 lt D → Updw hE h1 b → d1.size = N → Below lt a' bn' d1 → (∀ d2, PermIn a' bn' d1 d2 → SortedIn lt a' bn' d2 → PermIn a bn d d2 ∧ SortedIn lt a bn d2) →
      Q e ⟨[.msl 3 b 0 N, .int .i64 (a' : Int), .int .i64 (bn' : Int), .int .i64 (lim : Int), g, j5, j6, j7, .bool wb', j9, j10, j11, j12, .bool wp', j14, j15, j16, j17, j18, j19, j20, j21, j22, j23], h1, []⟩) :
    W F Ko97_46 ⟨[.msl 3 b 0 N, .int .i64 (a : Int), .int .i64 (bn : Int), .int .i64 (lim : Int), g, .int .i64 ((bn - a : Nat) : Int), j6, j7, .bool wb, j9, j10, j11, .int .i64 (m : Int), .bool wp, j14, j15, j16, j17, j18, j19, j20, j21, j22, j23], h, []⟩ Q := by
  subst hN
  have hz := hs.sz
  have hk : ∀ (c : Bool) (j6 j7 j9 j10 j11 j14 j15 j17 j18 j19 j20 j21 j22 j23 : AV), (c = true → 0 < a ∧ lt d[a - 1]! d[m]! = false) → W F (cCnd (oVar 16) Ko97_50 cNop) ⟨[.msl 3 b 0 d.size, .int .i64 (a : Int), .int .i64 (bn : Int), .int .i64 (lim : Int), g, .int .i64 ((bn - a : Nat) : Int), j6, j7, .bool wb, j9, j10, j11, .int .i64 (m : Int), .bool wp, j14, j15, .bool c, j17, j18, j19, j20, j21, j22, j23], h, []⟩ (seqQ F Ko97_54 Q) := by
    intro c j6 j7 j9 j10 j11 j14 j15 j17 j18 j19 j20 j21 j22 j23 hc
    cases c with
    | true =>
      obtain ⟨ha0, hnl⟩ := hc rfl
      refine W_cnd rfl (fun _ => ?_) (fun h => by cases h)
      refine W_seq ?_
      (refine W_opsM ?_; simp only [go_sem])
      refine WO_call rfl rfl ?_
      refine (partEq_ok hF hs hm hm2 hb (by omega)).mono ?_
      rintro _ h1 ⟨rfl, hu1, ho1⟩
      generalize hx : partitionEqual lt d a bn m = x at *
      obtain ⟨mid, d1⟩ := x
      obtain ⟨r1, r2, r3, r4, r5⟩ := round_eq hsw (partitionEqual_holds lt) ha0 hm hm2 hb hB hnl hx
      have hperm := (partitionEqual_holds lt hsw d a bn m hm hm2 hb (fun i hi hi' => by
        rcases hB with h0 | hB
        · omega
        · exact hsw.ntrans _ _ _ (hB i hi hi') hnl)).2.2.1
      rw [hx] at hperm
      have hs1 := hs.updw hu1.weak ho1 hperm hb
      simp only [go_sem]
      refine W_seq ?_
      (refine W_opsM ?_; simp only [go_sem])
      refine W_exit ?_
      simp only [go_sem]
      exact hq (.exit 1) mid bn wb wp h1 d1 _ _ _ _ _ _ _ _ _ _ _ _ _ _ _ _ _ (.inr rfl) (by omega) r2 (Nat.le_refl _) hs1 (hu.trans hu1.weak) r3 r4 r5
    | false =>
      refine W_cnd rfl (fun h => by cases h) (fun _ => ?_)
      (refine W_nop ?_; simp only [go_sem])
      refine W_seq ?_
      (refine W_opsM ?_; simp only [go_sem])
      refine WO_call rfl rfl ?_
      refine (part_ok hF hs hm hm2 hb (by omega)).mono ?_
      rintro _ h1 ⟨rfl, hu1, ho1⟩
      have hperm := (partition_holds lt hsw d a bn m hm hm2 hb).2.2.1
      generalize hx : partition lt d a bn m = x at *
      obtain ⟨mid, ap, d1⟩ := x
      obtain ⟨r1, r2, r3, r4, r5, r6, r7⟩ := round_part hsw (partition_holds lt) hm hm2 hb hB hx
      have hs1 := hs.updw hu1.weak ho1 hperm hb
      have hz1 : d1.size = d.size := r3
      have hu2 := hu.trans hu1.weak
      simp only [go_sem]
      refine W_seq ?_
      (refine W_opsM ?_; simp only [go_sem])
      refine W_seq ?_
      (refine W_opsM ?_; simp (disch := omega) only [wrap_i64, go_sem])
      have e1 : (mid : Int) - a = ((mid - a : Nat) : Int) := by omega
      have e2 : (bn : Int) - mid = ((bn - mid : Nat) : Int) := by omega
      have hqo : Int.tdiv ((bn - a : Nat) : Int) 8 = (((bn - a) / 8 : Nat) : Int) := by rw [Int.tdiv_eq_ediv_of_nonneg (by omega)]; omega
      rw [e1, e2]
      refine W_seq ?_
      (refine W_opsM ?_; simp (disch := omega) only [wrap_i64, go_sem, bin_quo, hqo])
      refine W_seq ?_
      (refine W_opsM ?_; simp only [go_sem])
      refine W_cndP rfl (fun hc1 => ?_) (fun hc1 => ?_)
      · refine W_seq ?_
        (refine W_opsM ?_; simp only [go_sem])
        refine W_seq ?_
        (refine W_opsM ?_; simp only [go_sem])
        refine WO_call rfl rfl ?_
        refine (hrec h1 d1 a mid lim hs1 (by omega) r1 (by omega) r3 hlim r4).mono ?_
        rintro _ h2 ⟨rfl, hu3, d2, ho2, hp2, hso2⟩
        obtain ⟨s1, s2⟩ := r6 d2 hp2 hso2
        simp only [go_sem]
        (refine W_opsM ?_; simp (disch := omega) only [wrap_i64, go_sem])
        have e3 : (mid : Int) + 1 = ((mid + 1 : Nat) : Int) := by omega
        rw [e3]
        exact hq .normal (mid + 1) bn _ ap h2 d2 _ _ _ _ _ _ _ _ _ _ _ _ _ _ _ _ _ (.inl rfl) (by omega) (by omega) (Nat.le_refl _) (hs1.updw hu3 ho2 hp2 (hz1.symm ▸ by omega)) (hu2.trans hu3) (hp2.1.trans r3) s1 s2
      · refine W_seq ?_
        (refine W_opsM ?_; simp only [go_sem])
        refine W_seq ?_
        (refine W_opsM ?_; simp (disch := omega) only [wrap_i64, go_sem])
        have e3 : (mid : Int) + 1 = ((mid + 1 : Nat) : Int) := by omega
        rw [e3]
        refine WO_call rfl rfl ?_
        refine (hrec h1 d1 (mid + 1) bn lim hs1 (by omega) (by omega) (by omega) r3 hlim r5).mono ?_
        rintro _ h2 ⟨rfl, hu3, d2, ho2, hp2, hso2⟩
        obtain ⟨s1, s2⟩ := r7 d2 hp2 hso2
        simp only [go_sem]
        (refine W_opsM ?_; simp only [go_sem])
        exact hq .normal a mid _ ap h2 d2 _ _ _ _ _ _ _ _ _ _ _ _ _ _ _ _ _ (.inl rfl) (by omega) (by omega) (by omega) (hs1.updw hu3 ho2 hp2 (hz1.symm ▸ by omega)) (hu2.trans hu3) (hp2.1.trans r3) s1 s2
  refine W_seq ?_
  refine W_seq ?_
  have x2 : m < d.size := by omega
  by_cases hp : (a : Int) > 0
  · have e1 : (a : Int) - 1 = ((a - 1 : Nat) : Int) := by omega
    have x1 : a - 1 < d.size := by omega
    (refine W_pre ?_; simp (disch := omega) only [wrap_i64, go_sem, hp, e1, ixs_msl x1, ixs_msl x2, hs.own.loadA x1, hs.own.loadA x2])
    refine WT_call rfl rfl ?_
    refine (hs.call x1 x2).mono ?_
    rintro _ _ ⟨rfl, v, rfl, hv⟩
    by_cases h5 : v < 0
    · simp (disch := omega) only [go_sem, h5]
      exact hk false _ _ _ _ _ _ _ _ _ _ _ _ _ _ (fun h => by cases h)
    · simp (disch := omega) only [go_sem, h5]
      exact hk true _ _ _ _ _ _ _ _ _ _ _ _ _ _ (fun _ => ⟨by omega, Bool.eq_false_iff.2 fun h6 => h5 (hv.2 h6)⟩)
  · (refine W_pre ?_; simp (disch := omega) only [go_sem, hp])
    exact hk false _ _ _ _ _ _ _ _ _ _ _ _ _ _ (fun h => by cases h)
end
end Go.Proofs.YtnkcimeebobjaaaDoor.fitKnown
namespace Go.Proofs.YtnkcimeebobjaaaDoor.fitKnown
open Hx Go
set_option maxRecDepth 100000
attribute [local irreducible] cSeq cOps cPre cCnd cBlk cLoop cScope cExit cRet cNop cRng Heap.ent Heap.setLow
section
variable {F : Nat → Nat → CallFn} (hF : IsEv KC Kt F)
open Go.Sort
variable {g : AV} {h0 h h' hE : Heap} {b : Nat} {d d' : Array Int} {lt : Int → Int → Bool} {D : Int → Prop} {a bn lim m N : Nat} {wb wp : Bool} {Q : Ex → St → Prop}
include hF
theorem pdq39 {hint : Int} (hsw : SWO lt) (hs : SIn F g h0 h b d lt D) (hu : Updw hE h b) (hB : Below lt a bn d) (hm : a ≤ m) (hm2 : m < bn) (hab : a + 12 < bn) (hb : bn ≤ d.size) (hN : d.size = N) (hlim : lim ≤ 16) (hrec : PdqOk F g h0 b lt D N (bn - a)) {j6 j7 j9 j11 j14 j15 j16 j17 j18 j19 j20 j21 j22 j23 : AV}
    (hq : ∀ (e : Ex) (a' bn' : Nat) (wb' wp' : Bool) (h1 : Heap) (d1 : Array Int) (j5 j6 j7 j9 j10 j11 j12 j14 j15 j16 j17 j18 j19 j20 j21 j22 j23 : AV), (e = .normal ∨ e = .exit 1) → bn' - a' < bn - a → a' ≤ bn' → bn' ≤ bn → SIn F g h0 h1 b d1 lt D → Updw hE h1 b → d1.size = N → Below lt a' bn' d1 → (∀ d2, PermIn a' bn' d1 d2 → SortedIn lt a' bn' d2 → PermIn a bn d d2 ∧ SortedIn lt a bn d2) →
      Q e ⟨[.msl 3 b 0 N, .int .i64 (a' : Int), .int .i64 (bn' : Int), .int .i64 (lim : Int), g, j5, j6, j7, .bool wb', j9, j10, j11, j12, .bool wp', j14, j15, j16, j17, j18, j19, j20, j21, j22, j23], h1, []⟩)
    (hret : ∀ (vs : List AV) (h1 : Heap) (d1 : Array Int), Updw hE h1 b → Own .i64 h1 3 b d1.toList → PermIn a bn d d1 → SortedIn lt a bn d1 → Q .ret ⟨vs, h1, []⟩) :
    W F Ko97_39 ⟨[.msl 3 b 0 N, .int .i64 (a : Int), .int .i64 (bn : Int), .int .i64 (lim : Int), g, .int .i64 ((bn - a : Nat) : Int), j6, j7, .bool wb, j9, .int .i64 hint, j11, .int .i64 (m : Int), .bool wp, j14, j15, j16, j17, j18, j19, j20, j21, j22, j23], h, []⟩ Q := by
  have key : ∀ (c : Bool) (j6 j7 j9 j11 j15 j16 j17 j18 j19 j20 j21 j22 j23 : AV), W F (cCnd (oVar 14) Ko97_43 cNop) ⟨[.msl 3 b 0 N, .int .i64 (a : Int), .int .i64 (bn : Int), .int .i64 (lim : Int), g, .int .i64 ((bn - a : Nat) : Int), j6, j7, .bool wb, j9, .int .i64 hint, j11, .int .i64 (m : Int), .bool wp, .bool c, j15, j16, j17, j18, j19, j20, j21, j22, j23], h, []⟩ (seqQ F Ko97_46 Q) := by
    intro c j6 j7 j9 j11 j15 j16 j17 j18 j19 j20 j21 j22 j23
    cases c with
    | false =>
      refine W_cnd rfl (fun h => by cases h) (fun _ => ?_)
      (refine W_nop ?_; simp only [go_sem])
      exact pdq46 hF hsw hs hu hB hm hm2 hab hb hN hlim hrec hq
    | true =>
      refine W_cnd rfl (fun _ => ?_) (fun h => by cases h)
      refine W_seq ?_
      (refine W_opsM ?_; simp only [go_sem])
      refine WO_call rfl rfl ?_
      have hpi := pis_ok hF hs (a := a) (bn := bn) (by omega) hb
      rw [hN] at hpi
      refine hpi.mono ?_
      rintro _ h1 ⟨rfl, hu1, ho1⟩
      obtain ⟨p1, p2⟩ := partialInsertionSort_holds hsw d a bn (by omega) hb hB
      generalize partialInsertionSort lt d a bn = x at *
      obtain ⟨d1, ok⟩ := x
      simp only [go_sem]
      cases ok with
      | true =>
        refine W_cnd rfl (fun _ => ?_) (fun h => by cases h)
        refine W_ret ?_
        simp only [go_sem]
        exact hret _ h1 d1 (hu.trans hu1.weak) ho1 p1 (p2 rfl)
      | false =>
        refine W_cnd rfl (fun h => by cases h) (fun _ => ?_)
        (refine W_nop ?_; simp only [go_sem])
        have p1' : PermIn a bn d d1 := p1
        refine pdq46 hF hsw (hs.updw hu1.weak ho1 p1 hb) (hu.trans hu1.weak) (hB.perm hb p1) hm hm2 hab (by rw [p1'.1]; exact hb) (by rw [p1'.1]; exact hN) hlim hrec ?_
        intro e a' bn' wb' wp' h2 d2 j5 j6 j7 j9 j10 j11 j12 j14 j15 j16 j17 j18 j19 j20 j21 j22 j23 he k1 k2 k3 k4 k5 k6 k7 k8
        exact hq e a' bn' wb' wp' h2 d2 _ _ _ _ _ _ _ _ _ _ _ _ _ _ _ _ _ he k1 k2 k3 k4 k5 k6 k7 (fun d3 q1 q2 => ⟨permIn_trans _ _ _ _ _ p1' (k8 d3 q1 q2).1, (k8 d3 q1 q2).2⟩)
  refine W_seq ?_
  refine W_seq ?_
  cases wb with
  | false =>
    (refine W_opsM ?_; simp only [go_sem])
    exact key false _ _ _ _ _ _ _ _ _ _ _ _ _
  | true =>
    cases wp with
    | false =>
      (refine W_opsM ?_; simp only [go_sem])
      exact key false _ _ _ _ _ _ _ _ _ _ _ _ _
    | true =>
      (refine W_opsM ?_; simp only [go_sem])
      exact key _ _ _ _ _ _ _ _ _ _ _ _ _ _
theorem pdq28 (hsw : SWO lt) (hs : SIn F g h0 h b d lt D) (hu : Updw hE h b) (hB : Below lt a bn d) (hab : a + 12 < bn) (hb : bn ≤ d.size) (hN : d.size = N) (hlim : lim ≤ 16) (hrec : PdqOk F g h0 b lt D N (bn - a)) {j6 j7 j9 j10 j11 j12 j14 j15 j16 j17 j18 j19 j20 j21 j22 j23 : AV}
    (hq : ∀ (e : Ex) (a' bn' : Nat) (wb' wp' : Bool) (h1 : Heap) (d1 : Array Int) (j5 j6 j7 j9 j10 j11 j12 j14 j15 j16 j17 j18 j19 j20 j21 j22 j23 : AV), (e = .normal ∨ e = .exit 1) → bn' - a' < bn - a → a' ≤ bn' → bn' ≤ bn → SIn F g h0 h1 b d1 lt D → Updw hE h1 b → d1.size = N → Below lt a' bn' d1 → (∀ d2, PermIn a' bn' d1 d2 → SortedIn lt a' bn' d2 → PermIn a bn d d2 ∧ SortedIn lt a bn d2) →
      Q e ⟨[.msl 3 b 0 N, .int .i64 (a' : Int), .int .i64 (bn' : Int), .int .i64 (lim : Int), g, j5, j6, j7, .bool wb', j9, j10, j11, j12, .bool wp', j14, j15, j16, j17, j18, j19, j20, j21, j22, j23], h1, []⟩)
    (hret : ∀ (vs : List AV) (h1 : Heap) (d1 : Array Int), Updw hE h1 b → Own .i64 h1 3 b d1.toList → PermIn a bn d d1 → SortedIn lt a bn d1 → Q .ret ⟨vs, h1, []⟩) :
    W F Ko97_28 ⟨[.msl 3 b 0 N, .int .i64 (a : Int), .int .i64 (bn : Int), .int .i64 (lim : Int), g, .int .i64 ((bn - a : Nat) : Int), j6, j7, .bool wb, j9, j10, j11, j12, .bool wp, j14, j15, j16, j17, j18, j19, j20, j21, j22, j23], h, []⟩ Q := by
  have hz := hs.sz
  refine W_seq ?_
  (refine W_opsM ?_; simp only [go_sem])
  refine WO_call rfl rfl ?_
  have hpi := pivot_ok hF hs (a := a) (bn := bn) (by omega) hb
  rw [hN] at hpi
  refine hpi.mono ?_
  rintro _ h ⟨rfl, m, hint, rfl, hm, hm2⟩
  simp only [go_sem]
  refine W_seq ?_
  refine W_seq ?_
  (refine W_opsM ?_; simp only [go_sem])
  refine W_cndP rfl (fun hc => ?_) (fun hc => ?_)
  · refine W_seq ?_
    (refine W_opsM ?_; simp only [go_sem])
    refine WO_call rfl rfl ?_
    have hrv := rev_ok hF hs (a := a) (bn := bn) (by omega) hb
    rw [hN] at hrv
    refine hrv.mono ?_
    rintro _ h1 ⟨rfl, hu1, d1, ho1, p1⟩
    simp only [go_sem]
    refine W_seq ?_
    (refine W_opsM ?_; simp (disch := omega) only [wrap_i64, go_sem])
    have e1 : (bn : Int) - 1 - ((m : Int) - a) = ((bn - 1 - (m - a) : Nat) : Int) := by omega
    rw [e1]
    (refine W_opsM ?_; simp only [go_sem])
    refine pdq39 hF hsw (hs.updw hu1.weak ho1 p1 hb) (hu.trans hu1.weak) (hB.perm hb p1) (m := bn - 1 - (m - a)) (by omega) (by omega) hab (by rw [p1.1]; exact hb) (by rw [p1.1]; exact hN) hlim hrec ?_ ?_
    · intro e a' bn' wb' wp' h2 d2 j5 j6 j7 j9 j10 j11 j12 j14 j15 j16 j17 j18 j19 j20 j21 j22 j23 he k1 k2 k3 k4 k5 k6 k7 k8
      exact hq e a' bn' wb' wp' h2 d2 _ _ _ _ _ _ _ _ _ _ _ _ _ _ _ _ _ he k1 k2 k3 k4 k5 k6 k7 (fun d3 q1 q2 => ⟨permIn_trans _ _ _ _ _ p1 (k8 d3 q1 q2).1, (k8 d3 q1 q2).2⟩)
    · intro vs h2 d2 k1 k2 k3 k4
      exact hret vs h2 d2 k1 k2 (permIn_trans _ _ _ _ _ p1 k3) k4
  · (refine W_nop ?_; simp only [go_sem])
    exact pdq39 hF hsw hs hu hB hm hm2 hab hb hN hlim hrec hq hret
end
end Go.Proofs.YtnkcimeebobjaaaDoor.fitKnown
namespace Go.Proofs.YtnkcimeebobjaaaDoor.fitKnown
open Hx Go
set_option maxRecDepth 100000
attribute [local irreducible] cSeq cOps cPre cCnd cBlk cLoop cScope cExit cRet cNop cRng Heap.ent Heap.setLow
/-- what is asked of the sort of lists of at most n numbers -/
def SortOk (F : Nat → Nat → CallFn) (n : Nat) : Prop := ∀ (h : Heap) (b : Nat) (d : Array Int) (g : AV) (lt : Int → Int → Bool) (D : Int → Prop), Own .i64 h 3 b d.toList → CmpOk F g h b lt D → (∀ i : Nat, i < d.size → D d[i]!) → Go.Sort.SWO lt → d.size ≤ n →
  WV F (.fn (.func 76) [] []) [.msl 3 b 0 d.size, g] h (fun r h' => r = .val (.tup []) ∧ Updw h h' b ∧ ∃ d' : Array Int, Own .i64 h' 3 b d'.toList ∧ Go.Sort.PermIn 0 d.size d d' ∧ Go.Sort.SortedIn lt 0 d.size d')
section
variable {F : Nat → Nat → CallFn} (hF : IsEv KC Kt F)
include hF
theorem sortOk12 : SortOk F 12 := fun _h _b d _g _lt _D ho hc hd hs hz => (sortS_ok hF ho hc hd hz).mono fun _r _h' ⟨h1, h2, h3⟩ =>
  ⟨h1, h2.weak, _, h3, Go.Sort.insertionSort_holds hs d 0 d.size (Nat.zero_le _) (Nat.le_refl _)⟩
theorem shares_ok {N : Nat} (hs : SortOk F N) (hN : N ≤ 1024) {h : Heap} {v : AV} {l : List Int} {grain least : Int} (hv : Ints .i64 h 3 v l) (hl : ∀ x ∈ l, 0 ≤ x ∧ x ≤ 1099511627776) (hn : 0 < l.length) (hn' : l.length ≤ N) (hg : 1 ≤ grain ∧ grain ≤ 720) (hle : 0 ≤ least) (hal : least * l.length ≤ grain) :
    WV F (.fn (.func 47) [] []) [v, .int .i64 grain, .int .i64 least] h (fun r h' => ∃ b out, r = .val (.msl 3 b 0 l.length) ∧ Grow h h' ∧ h.next ≤ b ∧ Own .i64 h' 3 b out ∧ IsShares (cs l) (ts l) (grain - least * l.length) least out) := by
  have hv' := hv.ext (Ext.ent h)
  have hlen : (l.length : Int) ≤ 1024 := by omega
  have hsum := sum_le hl
  have hl0 : ∀ x ∈ l, 0 ≤ x := fun x hx => (hl x hx).1
  refine Kent47 hF ?_
  refine W_seq ?_
  (refine W_opsM ?_; simp only [go_sem])
  refine W_seq ?_
  (refine W_opsM ?_; simp only [go_sem])
  refine W_seq ?_
  refine W_seq ?_
  (refine W_opsM ?_; simp only [go_sem, hv.lens])
  refine W_blk ?_
  refine W_loop (fun k s => ∃ (i : Nat) (m : Int) (j1 j2 : AV), k = l.length - i ∧ i ≤ l.length ∧ m = (l.take i).sum ∧ s = ⟨[v, .int .i64 grain, .int .i64 least, .int .i64 (i : Int), .int .i64 (l.length : Int), j1, v, .int .i64 m, j2, undefA, undefA, undefA, undefA, undefA, undefA, undefA, undefA, undefA, undefA, undefA, undefA, undefA, undefA, undefA, undefA, undefA, undefA, .nils], h.ent, []⟩) ?_ (k := l.length) ⟨0, 0, _, _, rfl, Nat.zero_le _, rfl, rfl⟩
  rintro k s ⟨i, m, j1, j2, rfl, hi, hm, rfl⟩
  refine W_seq ?_
  (refine W_opsM ?_; simp only [go_sem])
  refine W_seq ?_
  refine W_cndP rfl (fun hc => ?_) (fun hc => ?_)
  · (refine W_nop ?_; simp only [go_sem])
    refine W_seq ?_
    refine W_blk ?_
    refine W_seq ?_
    have hi' : i < l.length := by omega
    obtain ⟨p, h1, h2⟩ := hv'.at hi'
    have b1 := hl _ (List.getElem_mem hi')
    have b2 := sum_take hi'
    have b3 := sum_take_le hl0 i
    have b4 := sum_pos (l := l.take i) fun x hx => hl0 x (List.mem_of_mem_take hx)
    (refine W_opsM ?_; simp only [go_sem, h1, h2])
    (refine W_opsM ?_; simp (disch := omega) only [wrap_i64, go_sem])
    (refine W_opsM ?_; simp (disch := omega) only [wrap_i64, go_sem])
    exact ⟨_, by omega, i + 1, _, _, _, rfl, by omega, by rw [b2, hm], rfl⟩
  · (refine W_exit ?_; simp only [go_sem])
    have : i = l.length := by omega
    subst this
    rw [List.take_length] at hm
    subst hm
    refine W_seq ?_
    refine W_seq ?_
    (refine W_opsM ?_; simp only [go_sem])
    generalize hQ : seqQ F Ko47_24 _ = Q
    -- behind the first part
    have hk : ∀ (h1 : Heap) (v1 : AV) (j1 j2 j3 : AV), Ext h.ent h1 → h.next ≤ h1.low → Ints .i64 h1 3 v1 (cs l) → Q .normal ⟨[v1, .int .i64 grain, .int .i64 least, j3, .int .i64 (l.length : Int), j1, v, .int .i64 (ts l), j2, .bool (decide (l.sum = 0)), undefA, undefA, undefA, undefA, undefA, undefA, undefA, undefA, undefA, undefA, undefA, undefA, undefA, undefA, undefA, undefA, undefA, .nils], h1, []⟩ := by
      intro h1 v1 j1 j2 j3 he1 hl1 hv1
      subst hQ
      simp only [go_sem]
      have hcl : ∀ x ∈ cs l, 0 ≤ x ∧ x ≤ 1099511627776 := cs_bd (by omega) hl
      have ht := ts_pos hl0 hn
      have htb : ts l ≤ 1099511627776 * 1024 := by unfold ts; split <;> omega
      have hm0 : 0 ≤ least * (l.length : Int) := Int.mul_nonneg hle (by omega)
      have hl8 : least ≤ 720 := by
        have := Int.mul_le_mul_of_nonneg_left (show (1 : Int) ≤ l.length by omega) hle
        omega
      refine W_seq ?_
      (refine W_opsM ?_; simp (disch := omega) only [wrap_i64, go_sem, hv1.lens, cs_len])
      obtain ⟨all, hall⟩ : ∃ a, a = grain - least * (l.length : Int) := ⟨_, rfl⟩
      rw [← hall]
      have hA : 0 ≤ all ∧ all ≤ 720 := by omega
      refine W_seq ?_
      (refine W_pre ?_; simp (disch := omega) only [go_sem, hv1.lens, cs_len, mksE, next_push])
      have o1 := (Own.mkZ (k := .i64) h1 3 l.length 0)
      have o2 := (Own.mkZ (k := .i64) (h1.push (.row (List.replicate l.length [AV.int .i64 0]).flatten 3)) 3 l.length 0)
      have o3 := (Own.mkZ (k := .i64) ((h1.push (.row (List.replicate l.length [AV.int .i64 0]).flatten 3)).push (.row (List.replicate l.length [AV.int .i64 0]).flatten 3)) 3 l.length 0)
      have o1 := (o1.pushO (x := .row (List.replicate l.length [AV.int .i64 0]).flatten 3)).pushO (x := .row (List.replicate l.length [AV.int .i64 0]).flatten 3)
      have o2 := o2.pushO (x := .row (List.replicate l.length [AV.int .i64 0]).flatten 3)
      have he2 := ((he1.push (x := .row (List.replicate l.length [AV.int .i64 0]).flatten 3)).push (x := .row (List.replicate l.length [AV.int .i64 0]).flatten 3)).push (x := .row (List.replicate l.length [AV.int .i64 0]).flatten 3)
      have hv2 := (((hv1.ext (Ext.refl h1).push).ext (Ext.refl _).push).ext (Ext.refl _).push : Ints .i64 (((h1.push (.row (List.replicate l.length [AV.int .i64 0]).flatten 3)).push (.row (List.replicate l.length [AV.int .i64 0]).flatten 3)).push (.row (List.replicate l.length [AV.int .i64 0]).flatten 3)) 3 v1 (cs l))
      have hl2 : h.next ≤ (((h1.push (.row (List.replicate l.length [AV.int .i64 0]).flatten 3)).push (.row (List.replicate l.length [AV.int .i64 0]).flatten 3)).push (.row (List.replicate l.length [AV.int .i64 0]).flatten 3)).low := by rw [low_push, low_push, low_push]; exact hl1
      generalize hh2 : Heap.push (Heap.push (Heap.push h1 _) _) _ = h2 at *
      simp only [next_push] at o1 o2 o3
      have hb1 : h.next ≤ h1.next := by have := he1.next; rw [ent_next] at this; exact this
      generalize hb1e : h1.next = b1 at *
      have he12 : Ext h1 h2 := by rw [← hh2]; exact (Ext.refl h1).push.push.push
      clear hh2
      refine W_seq ?_
      (refine W_opsM ?_; simp only [go_sem])
      refine W_seq ?_
      refine W_seq ?_
      (refine W_opsM ?_; simp only [go_sem, hv2.lens, cs_len])
      refine W_blk ?_
      have hol : ((cs l).map fun c => least + all * c / ts l).length = l.length := by simp [cs_len]
      have hrl : (rts l all).length = l.length := by simp [rts, cs_len]
      have hql : (qs l all).length = l.length := by simp [qs, cs_len]
      have hil := idxs_len l.length
      have hq0 : ∀ x ∈ qs l all, 0 ≤ x := by
        intro x hx
        unfold qs at hx
        rw [List.mem_map] at hx
        obtain ⟨c, hc, rfl⟩ := hx
        exact Int.ediv_nonneg (Int.mul_nonneg hA.1 (hcl c hc).1) (by omega)
      have hleft := left_bd (all := all) hl0 hn
      refine W_loop (fun k s => ∃ (i : Nat) (lf : Int) (h3 : Heap) (j12 j13 j15 j17 j20 : AV), k = l.length - i ∧ i ≤ l.length ∧ lf = all - ((qs l all).take i).sum ∧ Ext h1 h3 ∧ h.next ≤ h3.low ∧
        Own .i64 h3 3 b1 (((cs l).map fun c => least + all * c / ts l).take i ++ List.replicate (l.length - i) 0) ∧
        Own .i64 h3 3 (b1 + 1) ((rts l all).take i ++ List.replicate (l.length - i) 0) ∧
        Own .i64 h3 3 (b1 + 1 + 1) ((idxs l.length).take i ++ List.replicate (l.length - i) 0) ∧
        s = ⟨[v1, .int .i64 grain, .int .i64 least, j3, .int .i64 (l.length : Int), j1, v, .int .i64 (ts l), j2, .bool (decide (l.sum = 0)), .int .i64 all, .int .i64 (i : Int), .int .i64 (l.length : Int), j13, v1, j15, .msl 3 b1 0 l.length, j17, .msl 3 (b1 + 1) 0 l.length, .msl 3 (b1 + 1 + 1) 0 l.length, j20, .int .i64 lf, undefA, undefA, undefA, undefA, undefA, .nils], h3, []⟩) ?_ (k := l.length) ⟨0, all, _, undefA, _, _, _, _, rfl, Nat.zero_le _, by simp, he12, hl2, by simpa using o1, by simpa using o2, by simpa using o3, rfl⟩
      rintro k s ⟨i, lf, h3, j12, j13, j15, j17, j20, rfl, hi, hlf, he3, hl3, p1, p2, p3, rfl⟩
      refine W_seq ?_
      (refine W_opsM ?_; simp only [go_sem])
      refine W_seq ?_
      refine W_cndP rfl (fun hc => ?_) (fun hc => ?_)
      · (refine W_nop ?_; simp only [go_sem])
        refine W_seq ?_
        refine W_blk ?_
        refine W_seq ?_
        have hi' : i < l.length := by omega
        have hi2 : i < (cs l).length := by rw [cs_len]; exact hi'
        obtain ⟨p, g1, g2⟩ := (hv1.ext he3).at hi2
        have bc := hcl _ (List.getElem_mem hi2)
        generalize hcc : (cs l)[i] = c at *
        have bm := mul_bd (A := 720) (B := 1099511627776) (show -720 ≤ all by omega) hA.2 (show -1099511627776 ≤ c by omega) bc.2
        have bm0 : 0 ≤ all * c := Int.mul_nonneg hA.1 bc.1
        have e1 := Int.emod_add_mul_ediv (all * c) (ts l)
        have e2 := Int.emod_nonneg (all * c) (show ts l ≠ 0 by omega)
        have e3 := Int.emod_lt_of_pos (all * c) ht
        have e4 : 0 ≤ all * c / ts l := Int.ediv_nonneg bm0 (by omega)
        rw [Int.mul_comm (ts l)] at e1
        have e5 : (qs l all)[i]'(by omega) = all * c / ts l := by simp [qs, hcc]
        have e6 : (rts l all)[i]'(by omega) = all * c - all * c / ts l * ts l := by simp [rts, hcc]
        have e7 : ((cs l).map fun c => least + all * c / ts l)[i]'(by omega) = least + all * c / ts l := by simp [hcc]
        have e8 := sum_take (l := qs l all) (i := i) (by omega)
        have e9 := sum_take_le hq0 (i + 1)
        have e10 := sum_pos (l := (qs l all).take i) fun x hx => hq0 x (List.mem_of_mem_take hx)
        have e11 := hleft.1
        unfold leftS at e11
        rw [e5] at e8
        (refine W_opsM ?_; simp only [go_sem, g1, g2])
        refine W_seq ?_
        (refine W_opsM ?_; simp (disch := omega) only [wrap_i64, go_sem, bin_quo, Int.tdiv_eq_ediv_of_nonneg bm0])
        generalize all * c / ts l = q at *
        refine W_seq ?_
        have n1 : b1 + 1 ≠ b1 := by omega
        have n2 : b1 + 1 + 1 ≠ b1 := by omega
        have n3 : b1 + 1 + 1 ≠ b1 + 1 := by omega
        have s1 := fun x => p1.store (i := i) (by rw [fill_len hol hi]; exact hi') x
        have s2 := fun (B : Blk) x => (p2.putO (x := B) n1).store (i := i) (by rw [fill_len hrl hi]; exact hi') x
        have s3 := fun (B B' : Blk) x => ((p3.putO (x := B) n2).putO (x := B') n3).store (i := i) (by rw [fill_len hil hi]; exact hi') x
        (refine W_opsM ?_; simp (disch := omega) only [wrap_i64, go_sem, ixs_msl hi', s1, s2, s3])
        (refine W_opsM ?_; simp (disch := omega) only [wrap_i64, go_sem])
        (refine W_opsM ?_; simp (disch := omega) only [wrap_i64, go_sem])
        refine ⟨_, by omega, i + 1, _, _, undefA, _, _, _, _, rfl, by omega, ?_, ((he3.put (by omega)).put (by omega)).put (by omega), ?_, ?_, ?_, ?_, rfl⟩
        · omega
        · rw [low_put, low_put, low_put]; omega
        · rw [← fill_set hol hi', e7]
          exact ((p1.put _).putO n1.symm).putO n2.symm
        · rw [← fill_set hrl hi', e6]
          exact ((p2.putO n1).put _).putO n3.symm
        · rw [← fill_set hil hi', idxs_get]
          exact ((p3.putO n2).putO n3).put _
      · (refine W_exit ?_; simp only [go_sem])
        have : i = l.length := by omega
        subst this
        rw [List.take_of_length_le (by omega), Nat.sub_self, List.replicate_zero, List.append_nil] at p1 p2 p3
        rw [List.take_of_length_le (by omega)] at hlf
        have hlf : lf = leftS l all := hlf
        refine W_seq ?_
        (refine W_opsM ?_; simp only [go_sem])
        refine WO_call rfl rfl ?_
        have hds : (idxs l.length).toArray.size = l.length := by simp [idxs_len]
        have hcmp := cmpG_ok hF (h := h3) (v := .msl 3 (b1 + 1) 0 l.length) (rs := rts l all) (b := b1 + 1 + 1) (fun h' e1 e2 => by
          have := (p2.sameL e1 (e2 _ (by omega) p2.1)).ints
          rwa [hrl] at this) (fun x hx => by have := rts_bd (all := all) ht x hx; omega) (by rw [hrl]; omega)
        have hsort := hs h3 (b1 + 1 + 1) (idxs l.length).toArray _ _ _ p3 hcmp (fun i hi => by
          rw [hds] at hi
          rw [getElem!_pos _ i (by rw [hds]; exact hi), List.getElem_toArray, idxs_get, hrl]
          omega) (ltG_swo _) (by rw [hds]; exact hn')
        rw [hds] at hsort
        refine hsort.mono ?_
        rintro _ h4 ⟨rfl, hu4, d, p3', hperm, hsd⟩
        obtain ⟨hd1, o, ho1, ho2⟩ := ord_facts hperm
        simp only [go_sem]
        have hol2 : o.length = l.length := by rw [ho1.length_eq]; simp
        have hndo : o.Nodup := ho1.nodup_iff.2 List.nodup_range
        have homem : ∀ i, i ∈ o ↔ i < l.length := fun i => by rw [ho1.mem_iff]; simp
        have q1 := p1.sameL hu4.next (hu4.get b1 (by omega) p1.1)
        have he4 := he3.updw hu4 (by omega)
        have hl4 := hu4.low
        have hn3 := he3.next
        rw [hb1e] at hn3
        obtain ⟨lk, hlk⟩ := Int.eq_ofNat_of_zero_le hleft.1
        rw [hlk] at hlf hleft
        subst hlf
        rw [ho2] at p3'
        refine W_seq ?_
        refine W_seq ?_
        (refine W_opsM ?_; simp (disch := omega) only [go_sem, slc_msl, Nat.zero_mul, Nat.add_zero, Nat.sub_zero])
        refine W_blk ?_
        refine W_loop (fun k s => ∃ (i : Nat) (h5 : Heap) (O : List Int) (j11 j12 j13 j14 j15 j17 j20 j24 j26 : AV), k = lk - i ∧ i ≤ lk ∧ Ext h1 h5 ∧ h.next ≤ h5.low ∧ Own .i64 h5 3 b1 O ∧ O.length = l.length ∧
          (∀ (j : Nat) (hj : j < O.length) (hc : j < (cs l).length), O[j] = least + all * (cs l)[j] / ts l + if j ∈ o.take i then 1 else 0) ∧
          Own .i64 h5 3 (b1 + 1 + 1) (o.map fun i : Nat => (i : Int)) ∧
          s = ⟨[v1, .int .i64 grain, .int .i64 least, j3, .int .i64 (l.length : Int), j1, v, .int .i64 (ts l), j2, .bool (decide (l.sum = 0)), .int .i64 all, j11, j12, j13, j14, j15, .msl 3 b1 0 l.length, j17, .msl 3 (b1 + 1) 0 l.length, .msl 3 (b1 + 1 + 1) 0 l.length, j20, .int .i64 lk, .int .i64 (i : Int), .int .i64 (lk : Int), j24, .msl 3 (b1 + 1 + 1) 0 lk, j26, .nils], h5, []⟩) ?_ (k := lk) ⟨0, h4, _, _, _, _, _, _, _, _, _, _, rfl, Nat.zero_le _, he4, by omega, q1, hol, by intro j hj hc; simp, p3', rfl⟩
        rintro k s ⟨i, h5, O, j11, j12, j13, j14, j15, j17, j20, j24, j26, rfl, hi, he5, hl5, q1, hO, hOv, q3, rfl⟩
        refine W_seq ?_
        (refine W_opsM ?_; simp only [go_sem])
        refine W_seq ?_
        refine W_cndP rfl (fun hc => ?_) (fun hc => ?_)
        · (refine W_nop ?_; simp only [go_sem])
          refine W_seq ?_
          refine W_blk ?_
          refine W_seq ?_
          have hi' : i < lk := by omega
          have hio : i < o.length := by omega
          have hld := q3.load (i := i) (by simp; omega)
          rw [List.getElem_map] at hld
          have hxn : o[i] < l.length := (homem _).1 (List.getElem_mem hio)
          have hnew : o[i] ∉ o.take i := fun hm => by
            obtain ⟨p, hp, hp2⟩ := List.getElem_of_mem hm
            rw [List.length_take] at hp
            rw [List.getElem_take] at hp2
            have := (List.getElem_inj hndo).1 hp2
            omega
          generalize hx : o[i] = x at *
          (refine W_opsM ?_; simp only [go_sem, ixs_msl hi', hld])
          have hxc : x < (cs l).length := by rw [cs_len]; exact hxn
          have hOx := hOv x (by omega) hxc
          rw [if_neg hnew] at hOx
          have hq1 : 0 ≤ all * (cs l)[x] / ts l := Int.ediv_nonneg (Int.mul_nonneg hA.1 (hcl _ (List.getElem_mem hxc)).1) (by omega)
          have hq2 : all * (cs l)[x] / ts l ≤ all := by
            have h1 := mem_le_sum hq0 (all * (cs l)[x] / ts l) (by unfold qs; exact List.mem_map.2 ⟨_, List.getElem_mem hxc, rfl⟩)
            have h2 : all - (qs l all).sum = lk := hlk
            omega
          have hldx := q1.load (i := x) (by omega)
          (refine W_opsM ?_; simp (disch := omega) only [wrap_i64, go_sem, ixs_msl hxn, hldx, fun y => q1.store (i := x) (by omega) y])
          (refine W_opsM ?_; simp (disch := omega) only [wrap_i64, go_sem])
          refine ⟨_, by omega, i + 1, _, _, _, _, _, _, _, _, _, _, _, rfl, by omega, he5.put (by omega), by rw [low_put]; omega, q1.put _, by simpa using hO, ?_, q3.putO (by omega), rfl⟩
          intro j hj hc
          rw [List.getElem_set]
          rw [List.take_succ_eq_append_getElem hio, hx]
          by_cases hjx : x = j
          · subst hjx
            rw [if_pos rfl, hOx, if_pos (by simp)]; omega
          · rw [if_neg hjx, hOv j (by simpa using hj) hc]
            congr 1
            have : (j ∈ List.take i o ++ [x]) ↔ j ∈ List.take i o := by
              rw [List.mem_append, List.mem_singleton]
              exact ⟨fun h => h.elim id fun h => absurd h.symm hjx, .inl⟩
            simp only [this]
        · (refine W_exit ?_; simp only [go_sem])
          have : i = lk := by omega
          subst this
          refine W_seq ?_
          (refine W_opsM ?_; simp only [go_sem])
          refine W_ret ?_
          refine fin_new (l := [.msl 3 b1 0 l.length]) (he1.trans he5) hl5 rfl rfl (fun hg => ⟨b1, O, rfl, hg, hb1, q1.lower, ?_⟩) (fun h => by cases h)
          refine shares_of (o := o) (d := d) (k := i) (by rw [hO, cs_len]) (by rw [cs_len]; exact ho1) ho2 (by rw [cs_len]; omega) (by rw [cs_len]; exact hsd) hlk.symm hOv
    refine W_cndP rfl (fun hc => ?_) (fun hc => ?_)
    · refine W_opsM ?_
      simp (disch := omega) only [go_sem, ent_next, hv.lens]
      refine WO_call rfl rfl ?_
      have ho := Own.one (k := .i64) h.ent 3 1
      have hi1 := ho.ints
      simp only [ent_next] at hi1
      refine (rep_ok hF (n := l.length) hi1 hn (by omega) (by omega)).mono ?_
      rintro _ h1 ⟨b, rfl, hg1, hb, ho1⟩
      simp only [go_sem, hv.lens]
      have h5 : ts l = l.length := if_pos hc
      have h6 : cs l = List.replicate l.length 1 := if_pos hc
      have hg2 := hg1.low
      rw [low_push, ent_low, next_push, ent_next] at hg2
      have := hk h1 (.msl 3 b 0 l.length) (.bool (decide (((l.length : Nat) : Int) < (l.length : Int)))) j2 (.int .i64 (l.length : Int)) ((Ext.refl _).push.trans hg1.ext) (by omega) (by rw [h6]; have := ho1.ints; rw [List.length_replicate] at this; exact this)
      rw [h5] at this
      exact this
    · refine W_nop ?_
      have h5 : ts l = l.sum := if_neg hc
      have h6 : cs l = l := if_neg hc
      have := hk h.ent v (.bool (decide (((l.length : Nat) : Int) < (l.length : Int)))) j2 (.int .i64 (l.length : Int)) (Ext.refl _) ent_low_le (by rw [h6]; exact hv')
      rw [h5] at this
      exact this
theorem round_ok {N : Nat} (hs : SortOk F N) (hN : N ≤ 1024) {h : Heap} {v : AV} {l : List Int} {grain least : Int} (hv : Ints .i64 h 3 v l) (hl : ∀ x ∈ l, -9223372036854775808 ≤ x ∧ x ≤ 9223372036854775807) (hn : l.length ≤ N ∨ N = 1024) (hn' : l.length < 65536) (hg : -9223372036854775808 ≤ grain ∧ grain ≤ 9223372036854775807) :
    WV F (.fn (.func 10) [] []) [v, .int .i64 grain, .int .i64 least] h (fun r h' => ¬ Good l grain least ∧ r = .val (.tup [.nils, .int .i64 2]) ∧ h' = h ∨
      Good l grain least ∧ ∃ b out, r = .val (.tup [.msl 3 b 0 l.length, .int .i64 0]) ∧ Grow h h' ∧ h.next ≤ b ∧ Own .i64 h' 3 b out ∧ IsShares (cs l) (ts l) (grain - least * l.length) least out) := by
  have hv' := hv.ext (Ext.ent h)
  refine Kent10 hF ?_
  refine W_seq ?_
  (refine W_opsM ?_; simp only [go_sem])
  refine W_seq ?_
  refine W_seq ?_
  generalize hQ : seqQ F Ko10_5 _ = Q
  have hk : ∀ t : Bool, (t = true ↔ ¬ (1 ≤ l.length ∧ l.length ≤ 1024 ∧ ∀ x ∈ l, 0 ≤ x ∧ x ≤ 1099511627776)) → Q .normal ⟨[v, .int .i64 grain, .int .i64 least, .bool t, undefA, .nils, .int .i64 0], h.ent, []⟩ := by
    intro t ht
    subst hQ
    simp only [go_sem]
    refine W_cnd (t := t) rfl (fun hb => ?_) (fun hb => ?_)
    · refine W_seq ?_
      (refine W_opsM ?_; simp only [go_sem])
      refine W_ret ?_
      simp only [go_sem]
      exact fin_out ent_low_le rfl rfl rfl (.inl ⟨fun hg => ht.1 hb ⟨hg.1, hg.2.1, hg.2.2.1⟩, rfl, rfl⟩)
    (refine W_nop ?_; simp only [go_sem])
    have ha : 1 ≤ l.length ∧ l.length ≤ 1024 ∧ ∀ x ∈ l, 0 ≤ x ∧ x ≤ 1099511627776 := Decidable.byContradiction fun h => by rw [ht.2 h] at hb; cases hb
    refine W_seq ?_
    refine W_seq ?_
    generalize hQ : seqQ F Ko10_11 _ = Q
    have hk2 : ∀ t : Bool, (t = true ↔ ¬ (1 ≤ grain ∧ grain ≤ 720 ∧ 0 ≤ least ∧ least * l.length ≤ grain)) → Q .normal ⟨[v, .int .i64 grain, .int .i64 least, .bool false, .bool t, .nils, .int .i64 0], h.ent, []⟩ := by
      intro t ht2
      subst hQ
      simp only [go_sem]
      refine W_cnd (t := t) rfl (fun hb => ?_) (fun hb => ?_)
      · refine W_seq ?_
        (refine W_opsM ?_; simp only [go_sem])
        refine W_ret ?_
        simp only [go_sem]
        exact fin_out ent_low_le rfl rfl rfl (.inl ⟨fun hg => ht2.1 hb hg.2.2.2, rfl, rfl⟩)
      (refine W_nop ?_; simp only [go_sem])
      have hb2 : 1 ≤ grain ∧ grain ≤ 720 ∧ 0 ≤ least ∧ least * l.length ≤ grain := Decidable.byContradiction fun h => by rw [ht2.2 h] at hb; cases hb
      refine W_seq ?_
      (refine W_opsM ?_; simp only [go_sem])
      refine WO_call rfl rfl ?_
      refine (shares_ok hF hs hN hv' ha.2.2 ha.1 (by omega) ⟨hb2.1, hb2.2.1⟩ hb2.2.2.1 hb2.2.2.2).mono ?_
      rintro _ h1 ⟨b, out, rfl, hg1, hb1, ho1, hsh⟩
      simp only [go_sem]
      refine W_ret ?_
      have hl1 := hg1.low
      rw [ent_low, ent_next] at hl1
      exact fin_new (l := [.msl 3 b 0 l.length, .int .i64 0]) hg1.ext (by omega) rfl rfl (fun hg => .inr ⟨⟨ha.1, ha.2.1, ha.2.2, hb2⟩, b, out, rfl, hg, by rw [ent_next] at hb1; exact hb1, ho1.lower, hsh⟩) (fun h => by cases h)
    rw [hb]
    by_cases g1 : grain < 1
    · (refine W_opsM ?_; simp only [go_sem, g1])
      exact hk2 true (by simp; omega)
    by_cases g2 : grain > 720
    · (refine W_opsM ?_; simp only [go_sem, g1, g2])
      exact hk2 true (by simp; omega)
    by_cases g3 : least < 0
    · (refine W_opsM ?_; simp only [go_sem, g1, g2, g3])
      exact hk2 true (by simp; omega)
    have e1 : (l.length : Int) ≠ 0 := by omega
    have e2 : least > grain / (l.length : Int) ↔ ¬ least * l.length ≤ grain := by
      rw [Int.not_le]
      exact Int.ediv_lt_iff_lt_mul (by omega)
    have e3 : 0 ≤ grain / (l.length : Int) := Int.ediv_nonneg (by omega) (by omega)
    have e4 : grain / (l.length : Int) ≤ grain := Int.ediv_le_self _ (by omega)
    (refine W_opsM ?_; simp (disch := omega) only [wrap_i64, go_sem, g1, g2, g3, hv.lens, bin_quo, Int.tdiv_eq_ediv_of_nonneg (show 0 ≤ grain by omega)])
    refine hk2 _ ?_
    rw [decide_eq_true_eq, e2]
    constructor
    · intro h5 h6; exact h5 h6.2.2.2
    · intro h5 h6; exact h5 ⟨by omega, by omega, by omega, h6⟩
  by_cases g1 : (l.length : Int) < 1
  · (refine W_opsM ?_; simp only [go_sem, hv.lens, g1])
    exact hk true (by simp; omega)
  by_cases g2 : (l.length : Int) > 1024
  · (refine W_opsM ?_; simp only [go_sem, hv.lens, g1, g2])
    exact hk true (by simp; omega)
  have hne : l ≠ [] := by intro h; subst h; simp at g1
  (refine W_opsM ?_; simp only [go_sem, hv.lens, g1, g2])
  refine WO_call rfl rfl ?_
  refine (min_ok hF hv' hne (by omega)).mono ?_
  rintro _ _ ⟨rfl, rfl⟩
  simp only [go_sem]
  by_cases g3 : minL l < 0
  · simp only [go_sem, g3]
    exact hk true (by
      simp only [true_iff]
      intro h5
      have := (minL_le hne (B := 0)).2 fun x hx => (h5.2.2 x hx).1
      omega)
  simp only [go_sem, g3]
  refine WO_call rfl rfl ?_
  refine (max_ok hF hv' hne (by omega)).mono ?_
  rintro _ _ ⟨rfl, rfl⟩
  simp only [go_sem]
  refine hk _ ?_
  rw [decide_eq_true_eq]
  constructor
  · intro h5 h6
    have := (maxL_le hne (B := 1099511627776)).2 fun x hx => (h6.2.2 x hx).2
    omega
  · intro h5
    refine Int.not_le.1 fun h6 => h5 ⟨by omega, by omega, fun x hx => ⟨(minL_le hne (B := 0)).1 (by omega) x hx, (maxL_le hne).1 h6 x hx⟩⟩
end
end Go.Proofs.YtnkcimeebobjaaaDoor.fitKnown
namespace Go.Proofs.YtnkcimeebobjaaaDoor.fitKnown
open Hx Go
set_option maxRecDepth 100000
attribute [local irreducible] cSeq cOps cPre cCnd cBlk cLoop cScope cExit cRet cNop cRng Heap.ent Heap.setLow
section
variable {F : Nat → Nat → CallFn} (hF : IsEv KC Kt F)
open Go.Sort
variable {g : AV} {h0 h h' hE : Heap} {b : Nat} {d d' : Array Int} {lt : Int → Int → Bool} {D : Int → Prop} {a bn lim m N : Nat} {wb wp : Bool} {Q : Ex → St → Prop}
include hF
theorem pdq_ok (hsw : SWO lt) (hN2 : N < 65536) : ∀ n, PdqOk F g h0 b lt D N n := by
  intro n
  induction n with
  | zero => intro h d a bn lim _ h1; omega
  | succ n ih =>
  intro h d a bn lim hs hn hab hb hN hlim hB
  have hz := hs.sz
  have hbl := hs.own.1
  refine Kent97 hF ?_
  refine W_seq ?_
  (refine W_opsM ?_; simp only [go_sem])
  refine W_seq ?_
  (refine W_opsM ?_; simp only [go_sem])
  refine W_blk ?_
  generalize hQ : blkQ 0 _ = Q
  have hret : ∀ (vs : List AV) (h1 : Heap) (d1 : Array Int), Updw h.ent h1 b → Own .i64 h1 3 b d1.toList → PermIn a bn d d1 → SortedIn lt a bn d1 → Q .ret ⟨vs, h1, []⟩ := by
    intro vs h1 d1 hu ho hp hso
    subst hQ
    simp only [go_sem]
    exact (fin_updw hu hbl ho rfl).mono fun r h' ⟨q1, q2, q3⟩ => ⟨q1, q2, d1, q3, hp, hso⟩
  clear hQ
  refine W_loop (fun k st => ∃ (a' bn' lim' : Nat) (wb wp : Bool) (h1 : Heap) (d1 : Array Int) (j5 j6 j7 j9 j10 j11 j12 j14 j15 j16 j17 j18 j19 j20 j21 j22 j23 : AV), k = bn' - a' ∧ bn' - a' < n + 1 ∧ a' ≤ bn' ∧ bn' ≤ d.size ∧ lim' ≤ 16 ∧ SIn F g h0 h1 b d1 lt D ∧ Updw h.ent h1 b ∧ d1.size = N ∧ Below lt a' bn' d1 ∧ (∀ d2, PermIn a' bn' d1 d2 → SortedIn lt a' bn' d2 → PermIn a bn d d2 ∧ SortedIn lt a bn d2) ∧
    st = ⟨[.msl 3 b 0 N, .int .i64 (a' : Int), .int .i64 (bn' : Int), .int .i64 (lim' : Int), g, j5, j6, j7, .bool wb, j9, j10, j11, j12, .bool wp, j14, j15, j16, j17, j18, j19, j20, j21, j22, j23], h1, []⟩) ?_ (k := bn - a) ⟨a, bn, lim, true, true, h.ent, d, _, _, _, _, _, _, _, _, _, _, _, _, _, _, _, _, _, rfl, hn, hab, hb, hlim, hs.ent, Updw.refl _ _, hN, hB, fun d2 q1 q2 => ⟨q1, q2⟩, rfl⟩
  rintro k st ⟨a', bn', lim', wb, wp, h1, d1, j5, j6, j7, j9, j10, j11, j12, j14, j15, j16, j17, j18, j19, j20, j21, j22, j23, rfl, hn1, hab1, hb1, hlim1, hs1, hu1, hN1, hB1, hfin, rfl⟩
  have hb1' : bn' ≤ d1.size := by omega
  refine W_blk ?_
  refine W_seq ?_
  (refine W_opsM ?_; simp (disch := omega) only [wrap_i64, go_sem])
  have e0 : (bn' : Int) - a' = ((bn' - a' : Nat) : Int) := by omega
  rw [e0]
  refine W_seq ?_
  refine W_seq ?_
  (refine W_opsM ?_; simp only [go_sem])
  refine W_cndP rfl (fun hc1 => ?_) (fun hc1 => ?_)
  · refine W_seq ?_
    (refine W_opsM ?_; simp only [go_sem])
    refine WO_call rfl rfl ?_
    have hi := ins_ok hF (a := a') (bn := bn') hs1.own hs1.cmpAt hs1.dom hab1 hb1' (by omega)
    rw [hN1] at hi
    refine hi.mono ?_
    rintro _ h2 ⟨rfl, hu2, ho2⟩
    simp only [go_sem]
    refine W_ret ?_
    simp only [go_sem]
    obtain ⟨q1, q2⟩ := insertionSort_holds hsw d1 a' bn' hab1 hb1'
    exact hret _ h2 _ (hu1.trans hu2.weak) ho2 (hfin _ q1 q2).1 (hfin _ q1 q2).2
  (refine W_nop ?_; simp only [go_sem])
  refine W_seq ?_
  refine W_seq ?_
  (refine W_opsM ?_; simp only [go_sem])
  refine W_cndP rfl (fun hc2 => ?_) (fun hc2 => ?_)
  · refine W_seq ?_
    (refine W_opsM ?_; simp only [go_sem])
    refine WO_call rfl rfl ?_
    have hi := heap_ok hF hs1 (a := a') (bn := bn') (by omega) hb1'
    rw [hN1] at hi
    refine hi.mono ?_
    rintro _ h2 ⟨rfl, hu2, ho2⟩
    simp only [go_sem]
    refine W_ret ?_
    simp only [go_sem]
    obtain ⟨q1, q2⟩ := heapSort_holds hsw d1 a' bn' hab1 hb1'
    exact hret _ h2 _ (hu1.trans hu2.weak) ho2 (hfin _ q1 q2).1 (hfin _ q1 q2).2
  (refine W_nop ?_; simp only [go_sem])
  have hab2 : a' + 12 < bn' := by omega
  have hrec : PdqOk F g h0 b lt D N (bn' - a') := fun h d a bn lim k1 k2 => ih h d a bn lim k1 (by omega)
  refine W_seq ?_
  refine W_seq ?_
  (refine W_opsM ?_; simp only [go_sem])
  generalize hQ3 : blkQ 1 _ = Q3
  have hq3 : ∀ (e : Ex) (a2 bn2 lim2 : Nat) (wb' wp' : Bool) (h2 : Heap) (d2 : Array Int) (j5 j6 j7 j9 j10 j11 j12 j14 j15 j16 j17 j18 j19 j20 j21 j22 j23 : AV), (e = .normal ∨ e = .exit 1) → bn2 - a2 < bn' - a' → a2 ≤ bn2 → bn2 ≤ bn' → SIn F g h0 h2 b d2 lt D → Updw h.ent h2 b → d2.size = N → lim2 ≤ 16 → Below lt a2 bn2 d2 → (∀ d3, PermIn a2 bn2 d2 d3 → SortedIn lt a2 bn2 d3 → PermIn a' bn' d1 d3 ∧ SortedIn lt a' bn' d3) →
      Q3 e ⟨[.msl 3 b 0 N, .int .i64 (a2 : Int), .int .i64 (bn2 : Int), .int .i64 (lim2 : Int), g, j5, j6, j7, .bool wb', j9, j10, j11, j12, .bool wp', j14, j15, j16, j17, j18, j19, j20, j21, j22, j23], h2, []⟩ := by
    intro e a2 bn2 lim2 wb' wp' h2 d2 j5 j6 j7 j9 j10 j11 j12 j14 j15 j16 j17 j18 j19 j20 j21 j22 j23 he k1 k2 k3 k4 k5 k6 k7 k8 k9
    subst hQ3
    rcases he with rfl | rfl
    · simp only [go_sem]
      exact ⟨_, by omega, a2, bn2, lim2, wb', wp', h2, d2, _, _, _, _, _, _, _, _, _, _, _, _, _, _, _, _, _, rfl, by omega, k2, by omega, k7, k4, k5, k6, k8, fun d3 q1 q2 => hfin d3 (k9 d3 q1 q2).1 (k9 d3 q1 q2).2, rfl⟩
    · simp only [go_sem]
      exact ⟨_, by omega, a2, bn2, lim2, wb', wp', h2, d2, _, _, _, _, _, _, _, _, _, _, _, _, _, _, _, _, _, rfl, by omega, k2, by omega, k7, k4, k5, k6, k8, fun d3 q1 q2 => hfin d3 (k9 d3 q1 q2).1 (k9 d3 q1 q2).2, rfl⟩
  have hret3 : ∀ (vs : List AV) (h2 : Heap) (d2 : Array Int), Updw h.ent h2 b → Own .i64 h2 3 b d2.toList → PermIn a' bn' d1 d2 → SortedIn lt a' bn' d2 → Q3 .ret ⟨vs, h2, []⟩ := by
    intro vs h2 d2 k1 k2 k3 k4
    subst hQ3
    simp only [go_sem]
    exact hret vs h2 d2 k1 k2 (hfin d2 k3 k4).1 (hfin d2 k3 k4).2
  clear hQ3
  cases wb with
  | true =>
    refine W_cnd rfl (fun h => by cases h) (fun _ => ?_)
    (refine W_nop ?_; simp only [go_sem])
    refine pdq28 hF hsw hs1 hu1 hB1 hab2 hb1' hN1 hlim1 hrec ?_ hret3
    intro e a2 bn2 wb' wp' h2 d2 j5 j6 j7 j9 j10 j11 j12 j14 j15 j16 j17 j18 j19 j20 j21 j22 j23 he k1 k2 k3 k4 k5 k6 k7 k8
    exact hq3 e a2 bn2 lim' wb' wp' h2 d2 _ _ _ _ _ _ _ _ _ _ _ _ _ _ _ _ _ he k1 k2 k3 k4 k5 k6 hlim1 k7 k8
  | false =>
    refine W_cnd rfl (fun _ => ?_) (fun h => by cases h)
    refine W_seq ?_
    (refine W_opsM ?_; simp only [go_sem])
    refine WO_call rfl rfl ?_
    have hi := bp_ok hF hs1 (a := a') (bn := bn') (by omega) hb1' (by omega)
    rw [hN1] at hi
    refine hi.mono ?_
    rintro _ h2 ⟨rfl, hu2, d2, ho2, hp2⟩
    simp only [go_sem]
    (refine W_opsM ?_; simp (disch := omega) only [wrap_i64, go_sem])
    have e1 : (lim' : Int) - 1 = ((lim' - 1 : Nat) : Int) := by omega
    rw [e1]
    refine pdq28 hF hsw (hs1.updw hu2 ho2 hp2 hb1') (hu1.trans hu2) (hB1.perm hb1' hp2) hab2 (by rw [hp2.1]; exact hb1') (by rw [hp2.1]; exact hN1) (by omega) hrec ?_ ?_
    · intro e a2 bn2 wb' wp' h3 d3 j5 j6 j7 j9 j10 j11 j12 j14 j15 j16 j17 j18 j19 j20 j21 j22 j23 he k1 k2 k3 k4 k5 k6 k7 k8
      exact hq3 e a2 bn2 (lim' - 1) wb' wp' h3 d3 _ _ _ _ _ _ _ _ _ _ _ _ _ _ _ _ _ he k1 k2 k3 k4 k5 k6 (by omega) k7 (fun d4 q1 q2 => ⟨permIn_trans _ _ _ _ _ hp2 (k8 d4 q1 q2).1, (k8 d4 q1 q2).2⟩)
    · intro vs h3 d3 k1 k2 k3 k4
      exact hret3 vs h3 d3 k1 k2 (permIn_trans _ _ _ _ _ hp2 k3) k4
theorem sortOkN : SortOk F 1024 := by
  intro h b d g lt D ho hc hd hsw hz
  by_cases hz0 : d.size ≤ 12
  · exact sortOk12 hF h b d g lt D ho hc hd hsw hz0
  refine Kent76 hF ?_
  refine W_seq ?_
  (refine W_opsM ?_; simp only [go_sem])
  refine W_opsM ?_
  simp (disch := omega) only [go_sem, wrap_u64]
  refine WO_call rfl rfl ?_
  refine (lenx hF (x := d.size) (by omega) (by omega)).mono ?_
  rintro _ _ ⟨rfl, c, rfl, h1, h2⟩
  simp only [go_sem]
  refine WO_call rfl rfl ?_
  have hs : SIn F g h h.ent b d lt D := ⟨ho.ext (Ext.ent h), hc, hd, by omega, by rw [ent_next]; exact Nat.le_refl _, fun c _ _ => ent_get, ho.1⟩
  refine (pdq_ok hF hsw (show d.size < 65536 by omega) (d.size + 1) h.ent d 0 d.size c hs (by omega) (Nat.zero_le _) (Nat.le_refl _) rfl (by omega) (.inl rfl)).mono ?_
  rintro _ h2 ⟨rfl, hu, d2, ho2, hp, hso⟩
  simp only [go_sem]
  exact (fin_updwN hu ho.1 ho2 rfl).mono fun r h' ⟨q1, q2, q3⟩ => ⟨q1, q2, d2, q3, hp, hso⟩
end
end Go.Proofs.YtnkcimeebobjaaaDoor.fitKnown
namespace Go.Proofs.YtnkcimeebobjaaaDoor.fitKnown
/-! Sums over places. -/
def sm (n : Nat) (f : Nat → Int) : Int := ((List.range n).map f).sum
theorem sm_succ (n : Nat) (f : Nat → Int) : sm (n + 1) f = sm n f + f n := by simp [sm, List.range_succ, List.sum_append]
theorem sm_congr {n : Nat} {f g : Nat → Int} (h : ∀ i, i < n → f i = g i) : sm n f = sm n g := by
  induction n with
  | zero => rfl
  | succ n ih => rw [sm_succ, sm_succ, ih fun i hi => h i (by omega), h n (by omega)]
theorem sm_le {n : Nat} {f g : Nat → Int} (h : ∀ i, i < n → f i ≤ g i) : sm n f ≤ sm n g := by
  induction n with
  | zero => exact Int.le_refl _
  | succ n ih => rw [sm_succ, sm_succ]; have := ih fun i hi => h i (by omega); have := h n (by omega); omega
theorem sm_add (n : Nat) (f g : Nat → Int) : sm n (fun i => f i + g i) = sm n f + sm n g := by
  induction n with
  | zero => rfl
  | succ n ih => rw [sm_succ, sm_succ, sm_succ, ih]; omega
theorem sm_mul (n : Nat) (c : Int) (f : Nat → Int) : sm n (fun i => c * f i) = c * sm n f := by
  induction n with
  | zero => simp [sm]
  | succ n ih => rw [sm_succ, sm_succ, ih, Int.mul_add]
theorem sm_const (n : Nat) (c : Int) : sm n (fun _ => c) = c * n := by
  induction n with
  | zero => simp [sm]
  | succ n ih => rw [sm_succ, ih, Int.natCast_add, Int.mul_add]; simp
theorem sm_list (l : List Int) : l.sum = sm l.length (fun i => l.getD i 0) := by
  have : (List.range l.length).map (fun i => l.getD i 0) = l := by
    apply List.ext_getElem
    · simp
    · intro i h1 h2; simp [h2]
  rw [sm, this]
theorem sm_one {n a : Nat} (h : a < n) : sm n (fun i => if i = a then 1 else 0) = 1 := by
  induction n with
  | zero => omega
  | succ n ih =>
    rw [sm_succ]
    by_cases e : n = a
    · subst e
      have : sm n (fun i => if i = n then 1 else 0) = sm n (fun _ => 0) := sm_congr fun i hi => by rw [if_neg (by omega)]
      rw [this, sm_const, if_pos rfl]; simp
    · rw [ih (by omega), if_neg e]; rfl
theorem sm_ind : ∀ (T : List Nat) (n : Nat), T.Nodup → (∀ i ∈ T, i < n) → sm n (fun i => if i ∈ T then 1 else 0) = T.length
  | [], n, _, _ => by
    have : sm n (fun i => if i ∈ ([] : List Nat) then 1 else 0) = sm n (fun _ => 0) := sm_congr fun i _ => by simp
    rw [this, sm_const]; simp
  | a :: T, n, hn, hm => by
    rw [List.nodup_cons] at hn
    have h1 := sm_ind T n hn.2 fun i hi => hm i (List.mem_cons_of_mem _ hi)
    have h2 := sm_one (hm a List.mem_cons_self)
    have : sm n (fun i => if i ∈ a :: T then 1 else 0) = sm n (fun i => (if i = a then 1 else 0) + if i ∈ T then 1 else 0) := sm_congr fun i _ => by
      by_cases e : i = a
      · subst e; simp [hn.1]
      · simp [e]
    rw [this, sm_add, h1, h2, List.length_cons]; omega
theorem getD_eq {l : List Int} {i : Nat} (h : i < l.length) : l.getD i 0 = l[i] := by simp [h]
theorem map_sm (c : List Int) (f : Int → Int) : (c.map f).sum = sm c.length (fun i => f (c.getD i 0)) := by
  rw [sm_list, List.length_map]
  exact sm_congr fun i hi => by rw [getD_eq (by simpa using hi), getD_eq hi]; simp
section
variable {c : List Int} {t all least : Int} {out : List Int}
theorem shares_sum (hI : IsShares c t all least out) : out.sum = least * c.length + all := by
  obtain ⟨hl, T, h1, h2, h3, h4, h5⟩ := hI
  have e : out.sum = sm c.length (fun i => (least + all * c.getD i 0 / t) + if i ∈ T then 1 else 0) := by
    rw [sm_list, hl]
    exact sm_congr fun i hi => by rw [getD_eq (by omega), getD_eq hi, h4 i (by omega) hi]
  rw [e, sm_add, sm_add, sm_ind T _ h1 h2, sm_const, h3, map_sm]
  omega
theorem shares_ge (hI : IsShares c t all least out) (hc : ∀ x ∈ c, 0 ≤ x) (ht : 0 < t) (ha : 0 ≤ all) : ∀ x ∈ out, least ≤ x := by
  obtain ⟨hl, T, h1, h2, h3, h4, h5⟩ := hI
  intro x hx
  obtain ⟨i, hi, rfl⟩ := List.getElem_of_mem hx
  rw [h4 i hi (by omega)]
  have := Int.ediv_nonneg (Int.mul_nonneg ha (hc _ (List.getElem_mem (show i < c.length by omega)))) (Int.le_of_lt ht)
  split <;> omega
theorem shares_mono (hI : IsShares c t all least out) (hc : ∀ x ∈ c, 0 ≤ x) (ht : 0 < t) (ha : 0 ≤ all) (_hsum : c.sum = t) {i j : Nat} (hi : i < out.length) (hj : j < out.length) (hij : c[j]'(by have := hI.len; omega) < c[i]'(by have := hI.len; omega)) : out[j] ≤ out[i] := by
  obtain ⟨hl, T, h1, h2, h3, h4, h5⟩ := hI
  rw [h4 i hi (by omega), h4 j hj (by omega)]
  have hci := hc _ (List.getElem_mem (show i < c.length by omega))
  have hcj := hc _ (List.getElem_mem (show j < c.length by omega))
  have h6 : all * c[j] ≤ all * c[i] := Int.mul_le_mul_of_nonneg_left (Int.le_of_lt hij) ha
  have h7 : all * c[j] / t ≤ all * c[i] / t := Int.ediv_le_ediv ht h6
  by_cases hjT : j ∈ T
  · by_cases hiT : i ∈ T
    · rw [if_pos hjT, if_pos hiT]; omega
    · rw [if_pos hjT, if_neg hiT]
      have h8 := h5 j i hjT (by omega) hiT
      rw [ltG_iff] at h8
      simp only [Int.toNat_natCast] at h8
      rw [getD_eq (by simp; omega), getD_eq (by simp; omega)] at h8
      simp only [List.getElem_map] at h8
      rcases Int.lt_or_le (all * c[j] / t) (all * c[i] / t) with h9 | h9
      · omega
      · exfalso
        have h10 : all * c[i] / t = all * c[j] / t := by omega
        rw [h10] at h8
        have h11 : all * c[i] = all * c[j] := by omega
        have h12 : all * (c[i] - c[j]) = 0 := by rw [Int.mul_sub]; omega
        rcases Int.mul_eq_zero.1 h12 with h13 | h13
        · subst h13
          have : (c.map fun c => 0 * c / t).sum = 0 := by
            rw [map_sm]
            have : sm c.length (fun i => 0 * c.getD i 0 / t) = sm c.length (fun _ => 0) := sm_congr fun i _ => by simp
            rw [this, sm_const]; simp
          rw [this] at h3
          have : T.length = 0 := by omega
          rw [List.length_eq_zero_iff] at this
          rw [this] at hjT; cases hjT
        · omega
  · rw [if_neg hjT]
    split <;> omega
end
/-- one place -/
theorem point_out {t ρ lam y : Int} (h0 : 0 ≤ ρ) (h1 : -t ≤ lam) (h2 : lam ≤ t - 2 * ρ) : ρ + lam * y ≤ max (t * y - ρ) (0 - (t * y - ρ)) := by
  rcases Int.lt_or_le 0 y with hy | hy
  · have : (t - lam) * 1 ≤ (t - lam) * y := Int.mul_le_mul_of_nonneg_left hy (by omega)
    simp only [Int.sub_mul, Int.mul_one] at this
    omega
  · have : 0 ≤ (t + lam) * (-y) := Int.mul_nonneg (by omega) (by omega)
    rw [Int.mul_neg, Int.add_mul] at this
    omega
theorem point_in {t ρ lam y : Int} (h1 : t - 2 * ρ ≤ lam) (h2 : lam ≤ t) (h3 : -t ≤ lam) : (t - ρ) + lam * (y - 1) ≤ max (t * y - ρ) (0 - (t * y - ρ)) := by
  rcases Int.lt_or_le 0 y with hy | hy
  · have : 0 ≤ (t - lam) * (y - 1) := Int.mul_nonneg (by omega) (by omega)
    rw [Int.sub_mul, Int.mul_sub, Int.mul_sub] at this
    rw [Int.mul_sub]
    omega
  · have : 0 ≤ (t + lam) * (-y) := Int.mul_nonneg (by omega) (by omega)
    rw [Int.mul_neg, Int.add_mul] at this
    rw [Int.mul_sub]
    omega
theorem exists_lam (t : Int) (r : Nat → Int) (n : Nat) (T : List Nat) (hr : ∀ i, i < n → 0 ≤ r i ∧ r i < t) (hT : ∀ i ∈ T, i < n) (ho : ∀ i j, i ∈ T → j < n → j ∉ T → r j ≤ r i) (ht : 0 < t) :
    ∃ lam, -t ≤ lam ∧ lam ≤ t ∧ (∀ i ∈ T, t - 2 * r i ≤ lam) ∧ ∀ j, j < n → j ∉ T → lam ≤ t - 2 * r j := by
  have key : ∀ T : List Nat, (∀ i ∈ T, i < n) → T ≠ [] → ∃ m ∈ T, ∀ i ∈ T, r m ≤ r i := by
    intro T
    induction T with
    | nil => intro _ h; exact absurd rfl h
    | cons a T ih =>
      intro hT _
      by_cases hT0 : T = []
      · subst hT0; exact ⟨a, List.mem_cons_self, fun i hi => by rw [List.mem_singleton] at hi; subst hi; exact Int.le_refl _⟩
      · obtain ⟨m, hm, h⟩ := ih (fun i hi => hT i (List.mem_cons_of_mem _ hi)) hT0
        rcases Int.le_total (r a) (r m) with h1 | h1
        · exact ⟨a, List.mem_cons_self, fun i hi => by
            rcases List.mem_cons.1 hi with rfl | hi
            · exact Int.le_refl _
            · exact Int.le_trans h1 (h i hi)⟩
        · exact ⟨m, List.mem_cons_of_mem _ hm, fun i hi => by
            rcases List.mem_cons.1 hi with rfl | hi
            · exact h1
            · exact h i hi⟩
  by_cases hT0 : T = []
  · subst hT0
    exact ⟨-t, Int.le_refl _, by omega, (fun i hi => by cases hi), fun j hj _ => by have := hr j hj; omega⟩
  · obtain ⟨m, hm, h⟩ := key T hT hT0
    have hrm := hr m (hT m hm)
    exact ⟨t - 2 * r m, by omega, by omega, fun i hi => by have := h i hi; omega, fun j hj hn => by have := ho m j hm hj hn; omega⟩
/-- THE STAGE'S THEOREM: the shares are nearest to what is due -/
theorem shares_best {c : List Int} {t least grain : Int} {out w : List Int} (hI : IsShares c t (grain - least * c.length) least out) (_hc : ∀ x ∈ c, 0 ≤ x) (ht : 0 < t) (hsum : c.sum = t) (hw : w.length = c.length) (hws : w.sum = grain) : dist c out grain least ≤ dist c w grain least := by
  have hos := shares_sum hI
  obtain ⟨hl, T, h1, h2, h3, h4, h5⟩ := hI
  generalize hA : grain - least * (c.length : Int) = all at *
  have hd : ∀ u : List Int, u.length = c.length → dist c u grain least = sm c.length (fun i => dst t all least (c.getD i 0) (u.getD i 0)) := by
    intro u hu
    unfold dist
    rw [sm_list, hsum, hA]
    have : (dists c u t all least).length = c.length := by simp [dists, hu]
    rw [this]
    exact sm_congr fun i hi => by rw [getD_eq (by omega), getD_eq hi, getD_eq (by omega)]; simp [dists]
  rw [hd out hl, hd w hw]
  obtain ⟨lam, l1, l2, l3, l4⟩ := exists_lam t (fun i => all * c.getD i 0 - all * c.getD i 0 / t * t) c.length T (fun i hi => by
      have h1 := Int.emod_add_mul_ediv (all * c.getD i 0) t
      have h2 := Int.emod_nonneg (all * c.getD i 0) (show t ≠ 0 by omega)
      have h3 := Int.emod_lt_of_pos (all * c.getD i 0) ht
      rw [Int.mul_comm t] at h1
      omega) h2 (fun i j hi hj hn => by
      have h6 := h5 i j hi hj hn
      rw [ltG_iff] at h6
      simp only [Int.toNat_natCast] at h6
      have hi' := h2 i hi
      rw [getD_eq (by simp; omega), getD_eq (by simp; omega)] at h6
      simp only [List.getElem_map] at h6
      rw [getD_eq hi', getD_eq hj]
      omega) ht
  have key : sm c.length (fun i => dst t all least (c.getD i 0) (out.getD i 0) + lam * (w.getD i 0 - out.getD i 0)) ≤ sm c.length (fun i => dst t all least (c.getD i 0) (w.getD i 0)) := by
    refine sm_le fun i hi => ?_
    have h6 := h4 i (by omega) hi
    rw [getD_eq (show i < out.length by omega), getD_eq (show i < w.length by omega)]
    have l3 := l3 i
    have l4 := l4 i hi
    rw [getD_eq hi] at *
    generalize out[i] = s at *
    generalize c[i] = x at *
    generalize w[i]'(by omega) = u at *
    have e1 := Int.emod_add_mul_ediv (all * x) t
    have e2 := Int.emod_nonneg (all * x) (show t ≠ 0 by omega)
    have e3 := Int.emod_lt_of_pos (all * x) ht
    rw [Int.mul_comm t] at e1
    have hu : t * (u - least) - all * x = t * (u - least - all * x / t) - (all * x - all * x / t * t) := by
      rw [Int.mul_sub t (u - least), Int.mul_comm t (all * x / t)]; omega
    generalize hρ : all * x - all * x / t * t = ρ at *
    generalize hq : all * x / t = q at *
    by_cases hiT : i ∈ T
    · rw [if_pos hiT] at h6
      have hs : t * (s - least) - all * x = t - ρ := by
        rw [h6, show least + q + 1 - least = q + 1 by omega, Int.mul_add, Int.mul_one, Int.mul_comm t q]; omega
      have := point_in (t := t) (ρ := ρ) (lam := lam) (y := u - least - q) (l3 hiT) l2 l1
      unfold dst
      rw [hs, hu, show u - s = u - least - q - 1 by omega]
      omega
    · rw [if_neg hiT] at h6
      have hs : t * (s - least) - all * x = -ρ := by
        rw [h6, show least + q + 0 - least = q by omega, Int.mul_comm t q]; omega
      have := point_out (t := t) (ρ := ρ) (lam := lam) (y := u - least - q) (by omega) l1 (l4 hiT)
      unfold dst
      rw [hs, hu, show u - s = u - least - q by omega]
      omega
  rw [sm_add, sm_mul] at key
  have e : sm c.length (fun i => w.getD i 0 - out.getD i 0) = 0 := by
    have h6 := sm_list w
    have h7 := sm_list out
    rw [hw] at h6
    rw [hl] at h7
    have : sm c.length (fun i => w.getD i 0 - out.getD i 0) = sm c.length (fun i => w.getD i 0 + (-1) * out.getD i 0) := sm_congr fun i _ => by omega
    rw [this, sm_add, sm_mul, ← h6, ← h7]
    omega
  rw [e, Int.mul_zero] at key
  omega
end Go.Proofs.YtnkcimeebobjaaaDoor.fitKnown
namespace Go.Proofs.YtnkcimeebobjaaaDoor.fitKnown
open Hx Go
set_option maxRecDepth 100000
attribute [local irreducible] cSeq cOps cPre cCnd cBlk cLoop cScope cExit cRet cNop cRng Heap.ent Heap.setLow
/-- what is given out is given once -/
theorem shares_uniq {c out out' : List Int} {t all least : Int} (h1 : IsShares c t all least out) (h2 : IsShares c t all least out') : out = out' := by
  obtain ⟨T, n1, b1, l1, o1, s1⟩ := h1.pick
  obtain ⟨S, n2, b2, l2, o2, s2⟩ := h2.pick
  have hsw := ltG_swo (c.map fun c => all * c - all * c / t * t)
  have hsub : ∀ (T S : List Nat), T.Nodup → S.Nodup → (∀ i ∈ T, i < c.length) → (∀ i ∈ S, i < c.length) → T.length = S.length →
      (∀ i j, i ∈ T → j < c.length → j ∉ T → ltG (c.map fun c => all * c - all * c / t * t) i j = true) → (∀ i j, i ∈ S → j < c.length → j ∉ S → ltG (c.map fun c => all * c - all * c / t * t) i j = true) → ∀ i, i ∈ T → i ∈ S := by
    intro T S n1 n2 b1 b2 hl s1 s2 i hi
    refine Classical.byContradiction fun hni => ?_
    have hall : ∀ j, j ∈ S → j ∈ T := by
      intro j hj
      refine Classical.byContradiction fun hnj => ?_
      have a1 := s1 i j hi (b2 j hj) hnj
      have a2 := s2 j i hj (b1 i hi) hni
      have a3 := hsw.trans _ _ _ a1 a2
      rw [hsw.irrefl] at a3
      cases a3
    have e1 := sm_ind T c.length n1 b1
    have e2 := sm_ind (i :: S) c.length (List.nodup_cons.2 ⟨hni, n2⟩) (fun j hj => by
      rcases List.mem_cons.1 hj with rfl | hj
      · exact b1 _ hi
      · exact b2 _ hj)
    have e3 : sm c.length (fun j => if j ∈ i :: S then 1 else 0) ≤ sm c.length (fun j => if j ∈ T then (1 : Int) else 0) := sm_le fun j _ => by
      by_cases hj : j ∈ i :: S
      · rw [if_pos hj, if_pos]
        · exact Int.le_refl _
        · rcases List.mem_cons.1 hj with rfl | hj
          · exact hi
          · exact hall j hj
      · rw [if_neg hj]; split <;> omega
    rw [e1, e2, List.length_cons] at e3
    omega
  have hl : T.length = S.length := by omega
  have hTS : ∀ i, i ∈ T ↔ i ∈ S := fun i => ⟨hsub T S n1 n2 b1 b2 hl s1 s2 i, hsub S T n2 n1 b2 b1 hl.symm s2 s1 i⟩
  refine List.ext_getElem (by rw [h1.len, h2.len]) fun i hi hi' => ?_
  have hic : i < c.length := by rw [← h1.len]; exact hi
  rw [o1 i hi hic, o2 i hi' hic]
  by_cases hT : i ∈ T
  · rw [if_pos hT, if_pos ((hTS i).1 hT)]
  · rw [if_neg hT, if_neg (fun h => hT ((hTS i).2 h))]
end Go.Proofs.YtnkcimeebobjaaaDoor.fitKnown
namespace Go.Proofs.YtnkcimeebobjaaaDoor.fitKnown
open Hx Go
set_option maxRecDepth 100000
attribute [local irreducible] cSeq cOps cPre cCnd cBlk cLoop cScope cExit cRet cNop cRng Heap.ent Heap.setLow
theorem samF_int (h : Heap) (d : Nat) (k : IntKind) (n : Int) : samF h (d + 1) (.int k n) (.int k n) = true := by
  show bif_ (kEq k k) (eqI n n) false = true
  rw [kEqE, bifT, eqIE, decide_eq_true rfl]
theorem sameL_ints (h : Heap) (d : Nat) (k : IntKind) : ∀ l : List Int, sameL (samF h (d + 1)) (l.map (.int k ·)) (l.map (.int k ·)) = true
  | [] => rfl
  | x :: l => by
    show bif_ (samF h (d + 1) (.int k x) (.int k x)) (sameL (samF h (d + 1)) (l.map (.int k ·)) (l.map (.int k ·))) false = true
    rw [samF_int, bifT]
    exact sameL_ints h d k l
theorem samF_own {k : IntKind} {h : Heap} {e b : Nat} {l : List Int} (ho : Own k h e b l) (d : Nat) (hl : 1 ≤ l.length) : samF h (d + 2) (.isl (l.map (.int k ·)) l.length) (.msl e b 0 l.length) = true := by
  show bif_ (Nat.ble 1 l.length) (bif_ (Nat.beq l.length l.length) (sameR (samF h (d + 1)) h b 0 (l.map (.int k ·))) false) false = true
  rw [Nat.ble_eq_true_of_le hl, bifT, Nat.beq_refl, bifT]
  unfold sameR rowOf
  rw [ho.2]
  exact sameL_ints h d k l
theorem sum_rep (n : Nat) (x : Int) : (List.replicate n x).sum = n * x := by
  induction n with
  | zero => simp
  | succ n ih => rw [List.replicate_succ, List.sum_cons, ih, Int.natCast_add, Int.add_mul]; simp; omega
def bigL : List Int := List.replicate 1024 1099511627776
def bigS : List Int := List.replicate 720 1 ++ List.replicate 304 0
theorem bigS_get {i : Nat} (h : i < bigS.length) : bigS[i] = if i < 720 then 1 else 0 := by
  simp only [bigS] at h ⊢
  rw [List.getElem_append]
  simp only [List.length_replicate]
  split <;> rw [List.getElem_replicate]
theorem big_get {i : Nat} (h : i < bigL.length) : bigL[i] = 1099511627776 := List.eq_of_mem_replicate (List.getElem_mem h)
theorem big_sh : IsShares (cs bigL) (ts bigL) 720 0 bigS := by
  have e0 : bigL.sum = 1125899906842624 := by unfold bigL; rw [sum_rep]; rfl
  have e1 : cs bigL = bigL := by unfold cs; rw [if_neg (by rw [e0]; decide)]
  have e2 : ts bigL = 1125899906842624 := by unfold ts; rw [if_neg (by rw [e0]; decide), e0]
  have e3 : bigL.length = 1024 := by unfold bigL; rw [List.length_replicate]
  have e4 : bigL.map (fun c => 720 * c / 1125899906842624) = List.replicate 1024 0 := by unfold bigL; rw [List.map_replicate]; rfl
  have e5 : bigL.map (fun c => 720 * c - 720 * c / 1125899906842624 * 1125899906842624) = List.replicate 1024 791648371998720 := by unfold bigL; rw [List.map_replicate]; rfl
  rw [e1, e2]
  refine ⟨by rw [e3]; simp [bigS], List.range 720, List.nodup_range, fun i hi => by rw [List.mem_range] at hi; omega, by rw [e4, sum_rep, List.length_range]; rfl, fun i hi hc => ?_, fun i j hi hj hnj => ?_⟩
  · rw [big_get hc]
    rw [bigS_get hi]
    simp only [List.mem_range]
    rw [show 720 * (1099511627776 : Int) / 1125899906842624 = 0 by decide, Int.add_zero, Int.zero_add]
  · rw [List.mem_range] at hi hnj
    rw [e3] at hj
    rw [e5, ltG_iff]
    refine .inr ⟨?_, ?_⟩
    · rw [getD_eq (by rw [List.length_replicate]; simp only [Int.toNat_natCast]; omega), getD_eq (by rw [List.length_replicate]; simp only [Int.toNat_natCast]; omega), List.getElem_replicate, List.getElem_replicate]
    · simp only [Int.toNat_natCast]; omega
section
variable {F : Nat → Nat → CallFn} (hF : IsEv KC Kt F)
include hF
theorem big_ok : WV F (.fn (.func 10) [] []) [.isl (bigL.map (.int .i64 ·)) 1024, .int .i64 720, .int .i64 0] emptyH (fun r h' => ∃ v0, r = .val v0 ∧ samF h' 12 (.tup [.isl (bigS.map (.int .i64 ·)) 1024, .int .i64 0]) v0 = true) := by
  have e3 : bigL.length = 1024 := by unfold bigL; rw [List.length_replicate]
  have hv : Ints .i64 emptyH 3 (.isl (bigL.map (.int .i64 ·)) 1024) bigL := ⟨by rw [e3], by rw [Nat.mul_one, cut_mk (by simp), List.drop_zero, List.take_of_length_le (by simp)]⟩
  have hall : ∀ x ∈ bigL, x = 1099511627776 := fun x hx => (List.mem_replicate.1 hx).2
  have hgd : Good bigL 720 0 := ⟨by omega, by omega, fun x hx => by rw [hall x hx]; decide, by decide, by decide, by decide, by rw [e3]; decide⟩
  refine (round_ok hF (sortOkN hF) (by omega) hv (fun x hx => by rw [hall x hx]; decide) (.inr rfl) (by omega) (by decide)).mono ?_
  rintro r h3 (⟨hbad, _, _⟩ | ⟨_, b1, out, rfl, hgrow, hbb, hos, hsh⟩)
  · exact absurd hgd hbad
  · have hsh' : IsShares (cs bigL) (ts bigL) 720 0 out := by have := hsh; rw [show (720 : Int) - 0 * (bigL.length : Int) = 720 by omega] at this; exact this
    have he : out = bigS := shares_uniq hsh' big_sh
    subst he
    refine ⟨_, rfl, ?_⟩
    have hbl : bigS.length = 1024 := by simp [bigS]
    have hs := samF_own hos 9 (by omega)
    rw [hbl] at hs
    rw [e3]
    show bif_ (samF h3 11 (.isl (bigS.map (.int .i64 ·)) 1024) (.msl 3 b1 0 1024)) (bif_ (samF h3 11 (.int .i64 0) (.int .i64 0)) true false) false = true
    rw [hs, bifT, samF_int]; rfl
end
end Go.Proofs.YtnkcimeebobjaaaDoor.fitKnown
