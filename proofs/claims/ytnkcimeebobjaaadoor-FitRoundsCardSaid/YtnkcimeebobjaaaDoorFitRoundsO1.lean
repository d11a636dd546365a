/- The walk and the plain laws (part 1). -/
import Derived.Test.YtnkcimeebobjaaaDoorFitRoundsO0
namespace Go.Proofs.YtnkcimeebobjaaaDoor.fitRounds
open Hx Go
set_option maxRecDepth 100000
attribute [local irreducible] cSeq cOps cPre cCnd cBlk cLoop cScope cExit cRet cNop cRng Heap.ent Heap.setLow
/-- the sort of a part -/
def PdqOk (F : Nat → Nat → CallFn) (g : AV) (h0 : Heap) (b : Nat) (lt : Int → Int → Bool) (D : Int → Prop) (N n : Nat) : Prop :=
  ∀ (h : Heap) (d : Array Int) (a bn lim : Nat), SIn F g h0 h b d lt D → bn - a < n → a ≤ bn → bn ≤ d.size → d.size = N → lim ≤ 16 → Go.Sort.Below lt a bn d →
    WV F (.fn (.func 97) [] []) [.msl 3 b 0 N, .int .i64 (a : Int), .int .i64 (bn : Int), .int .i64 (lim : Int), g] h (fun r h' => r = .val (.tup []) ∧ Updw h h' b ∧ ∃ d', Own .i64 h' 3 b d'.toList ∧ Go.Sort.PermIn a bn d d' ∧ Go.Sort.SortedIn lt a bn d')
section
variable {F : Nat → Nat → CallFn} (hF : IsEv KC Kt F)
open Go.Sort
variable {g : AV} {h0 h h' hE : Heap} {b : Nat} {d d' : Array Int} {lt : Int → Int → Bool} {D : Int → Prop} {a bn lim m N : Nat} {wb wp : Bool} {Q : Ex → St → Prop}
include hF
theorem pdq46 (hsw : SWO lt) (hs : SIn F g h0 h b d lt D) (hu : Updw hE h b) (hB : Below lt a bn d) (hm : a ≤ m) (hm2 : m < bn) (hab : a + 12 < bn) (hb : bn ≤ d.size) (hN : d.size = N) (hlim : lim ≤ 16) (hrec : PdqOk F g h0 b lt D N (bn - a)) {j6 j7 j9 j10 j11 j14 j15 j16 j17 j18 j19 j20 j21 j22 j23 : AV}
    (hq : ∀ (e : Ex) (a' bn' : Nat) (wb' wp' : Bool) (h1 : Heap) (d1 : Array Int) (j5 j6 j7 j9 j10 j11 j12 j14 j15 j16 j17 j18 j19 j20 j21 j22 j23 : AV), (e = .normal ∨ e = .exit 1) → bn' - a' < bn - a → a' ≤ bn' → bn' ≤ bn → SIn F g h0 h1 b d1 lt D → Updw hE h1 b → d1.size = N → Below lt a' bn' d1 → (∀ d2, PermIn a' bn' d1 d2 → SortedIn lt a' bn' d2 → PermIn a bn d d2 ∧ SortedIn lt a bn d2) →
      Q e ⟨[.msl 3 b 0 N, .int .i64 (a' : Int), .int .i64 (bn' : Int), .int .i64 (lim : Int), g, j5, j6, j7, .bool wb', j9, j10, j11, j12, .bool wp', j14, j15, j16, j17, j18, j19, j20, j21, j22, j23], h1, []⟩) :
    W F Ko97_46 ⟨[.msl 3 b 0 N, .int .i64 (a : Int), .int .i64 (bn : Int), .int .i64 (lim : Int), g, .int .i64 ((bn - a : Nat) : Int), j6, j7, .bool wb, j9, j10, j11, .int .i64 (m : Int), .bool wp, j14, j15, j16, j17, j18, j19, j20, j21, j22, j23], h, []⟩ Q := by
  subst hN
  have hz := hs.sz
  have hk : ∀ (c : Bool) (j6 j7 j9 j10 j11 j14 j15 j17 j18 j19 j20 j21 j22 j23 : AV), (c = true → 0 < a ∧ lt d[a - 1]! d[m]! = false) → W F (cCnd (oVar 16) Ko97_50 cNop) ⟨[.msl 3 b 0 d.size, .int .i64 (a : Int), .int .i64 (bn : Int), .int .i64 (lim : Int), g, .int .i64 ((bn - a : Nat) : Int), j6, j7, .bool wb, j9, j10, j11, .int .i64 (m : Int), .bool wp, j14, j15, .bool c, j17, j18, j19, j20, j21, j22, j23], h, []⟩ (seqQ F Ko97_54 Q) := by
    intro c j6 j7 j9 j10 j11 j14 j15 j17 j18 j19 j20 j21 j22 j23 hc
    cases c with
    | true =>
      obtain ⟨ha0, hnl⟩ := hc rfl
      refine W_cnd rfl (fun _ => ?_) (fun h => by cases h)
      refine W_seq ?_
      (refine W_opsM ?_; simp only [go_sem])
      refine WO_call rfl rfl ?_
      refine (partEq_ok hF hs hm hm2 hb (by omega)).mono ?_
      rintro _ h1 ⟨rfl, hu1, ho1⟩
      generalize hx : partitionEqual lt d a bn m = x at *
      obtain ⟨mid, d1⟩ := x
      obtain ⟨r1, r2, r3, r4, r5⟩ := round_eq hsw (partitionEqual_holds lt) ha0 hm hm2 hb hB hnl hx
      have hperm := (partitionEqual_holds lt hsw d a bn m hm hm2 hb (fun i hi hi' => by
        rcases hB with h0 | hB
        · omega
        · exact hsw.ntrans _ _ _ (hB i hi hi') hnl)).2.2.1
      rw [hx] at hperm
      have hs1 := hs.updw hu1.weak ho1 hperm hb
      simp only [go_sem]
      refine W_seq ?_
      (refine W_opsM ?_; simp only [go_sem])
      refine W_exit ?_
      simp only [go_sem]
      exact hq (.exit 1) mid bn wb wp h1 d1 _ _ _ _ _ _ _ _ _ _ _ _ _ _ _ _ _ (.inr rfl) (by omega) r2 (Nat.le_refl _) hs1 (hu.trans hu1.weak) r3 r4 r5
    | false =>
      refine W_cnd rfl (fun h => by cases h) (fun _ => ?_)
      (refine W_nop ?_; simp only [go_sem])
      refine W_seq ?_
      (refine W_opsM ?_; simp only [go_sem])
      refine WO_call rfl rfl ?_
      refine (part_ok hF hs hm hm2 hb (by omega)).mono ?_
      rintro _ h1 ⟨rfl, hu1, ho1⟩
      have hperm := (partition_holds lt hsw d a bn m hm hm2 hb).2.2.1
      generalize hx : partition lt d a bn m = x at *
      obtain ⟨mid, ap, d1⟩ := x
      obtain ⟨r1, r2, r3, r4, r5, r6, r7⟩ := round_part hsw (partition_holds lt) hm hm2 hb hB hx
      have hs1 := hs.updw hu1.weak ho1 hperm hb
      have hz1 : d1.size = d.size := r3
      have hu2 := hu.trans hu1.weak
      simp only [go_sem]
      refine W_seq ?_
      (refine W_opsM ?_; simp only [go_sem])
      refine W_seq ?_
      (refine W_opsM ?_; simp (disch := omega) only [wrap_i64, go_sem])
      have e1 : (mid : Int) - a = ((mid - a : Nat) : Int) := by omega
      have e2 : (bn : Int) - mid = ((bn - mid : Nat) : Int) := by omega
      have hqo : Int.tdiv ((bn - a : Nat) : Int) 8 = (((bn - a) / 8 : Nat) : Int) := by rw [Int.tdiv_eq_ediv_of_nonneg (by omega)]; omega
      rw [e1, e2]
      refine W_seq ?_
      (refine W_opsM ?_; simp (disch := omega) only [wrap_i64, go_sem, bin_quo, hqo])
      refine W_seq ?_
      (refine W_opsM ?_; simp only [go_sem])
      refine W_cndP rfl (fun hc1 => ?_) (fun hc1 => ?_)
      · refine W_seq ?_
        (refine W_opsM ?_; simp only [go_sem])
        refine W_seq ?_
        (refine W_opsM ?_; simp only [go_sem])
        refine WO_call rfl rfl ?_
        refine (hrec h1 d1 a mid lim hs1 (by omega) r1 (by omega) r3 hlim r4).mono ?_
        rintro _ h2 ⟨rfl, hu3, d2, ho2, hp2, hso2⟩
        obtain ⟨s1, s2⟩ := r6 d2 hp2 hso2
        simp only [go_sem]
        (refine W_opsM ?_; simp (disch := omega) only [wrap_i64, go_sem])
        have e3 : (mid : Int) + 1 = ((mid + 1 : Nat) : Int) := by omega
        rw [e3]
        exact hq .normal (mid + 1) bn _ ap h2 d2 _ _ _ _ _ _ _ _ _ _ _ _ _ _ _ _ _ (.inl rfl) (by omega) (by omega) (Nat.le_refl _) (hs1.updw hu3 ho2 hp2 (hz1.symm ▸ by omega)) (hu2.trans hu3) (hp2.1.trans r3) s1 s2
      · refine W_seq ?_
        (refine W_opsM ?_; simp only [go_sem])
        refine W_seq ?_
        (refine W_opsM ?_; simp (disch := omega) only [wrap_i64, go_sem])
        have e3 : (mid : Int) + 1 = ((mid + 1 : Nat) : Int) := by omega
        rw [e3]
        refine WO_call rfl rfl ?_
        refine (hrec h1 d1 (mid + 1) bn lim hs1 (by omega) (by omega) (by omega) r3 hlim r5).mono ?_
        rintro _ h2 ⟨rfl, hu3, d2, ho2, hp2, hso2⟩
        obtain ⟨s1, s2⟩ := r7 d2 hp2 hso2
        simp only [go_sem]
        (refine W_opsM ?_; simp only [go_sem])
        exact hq .normal a mid _ ap h2 d2 _ _ _ _ _ _ _ _ _ _ _ _ _ _ _ _ _ (.inl rfl) (by omega) (by omega) (by omega) (hs1.updw hu3 ho2 hp2 (hz1.symm ▸ by omega)) (hu2.trans hu3) (hp2.1.trans r3) s1 s2
  refine W_seq ?_
  refine W_seq ?_
  have x2 : m < d.size := by omega
  by_cases hp : (a : Int) > 0
  · have e1 : (a : Int) - 1 = ((a - 1 : Nat) : Int) := by omega
    have x1 : a - 1 < d.size := by omega
    (refine W_pre ?_; simp (disch := omega) only [wrap_i64, go_sem, hp, e1, ixs_msl x1, ixs_msl x2, hs.own.loadA x1, hs.own.loadA x2])
    refine WT_call rfl rfl ?_
    refine (hs.call x1 x2).mono ?_
    rintro _ _ ⟨rfl, v, rfl, hv⟩
    by_cases h5 : v < 0
    · simp (disch := omega) only [go_sem, h5]
      exact hk false _ _ _ _ _ _ _ _ _ _ _ _ _ _ (fun h => by cases h)
    · simp (disch := omega) only [go_sem, h5]
      exact hk true _ _ _ _ _ _ _ _ _ _ _ _ _ _ (fun _ => ⟨by omega, Bool.eq_false_iff.2 fun h6 => h5 (hv.2 h6)⟩)
  · (refine W_pre ?_; simp (disch := omega) only [go_sem, hp])
    exact hk false _ _ _ _ _ _ _ _ _ _ _ _ _ _ (fun h => by cases h)
end
end Go.Proofs.YtnkcimeebobjaaaDoor.fitRounds
namespace Go.Proofs.YtnkcimeebobjaaaDoor.fitRounds
open Hx Go
set_option maxRecDepth 100000
attribute [local irreducible] cSeq cOps cPre cCnd cBlk cLoop cScope cExit cRet cNop cRng Heap.ent Heap.setLow
section
variable {F : Nat → Nat → CallFn} (hF : IsEv KC Kt F)
open Go.Sort
variable {g : AV} {h0 h h' hE : Heap} {b : Nat} {d d' : Array Int} {lt : Int → Int → Bool} {D : Int → Prop} {a bn lim m N : Nat} {wb wp : Bool} {Q : Ex → St → Prop}
include hF
theorem pdq39 {hint : Int} (hsw : SWO lt) (hs : SIn F g h0 h b d lt D) (hu : Updw hE h b) (hB : Below lt a bn d) (hm : a ≤ m) (hm2 : m < bn) (hab : a + 12 < bn) (hb : bn ≤ d.size) (hN : d.size = N) (hlim : lim ≤ 16) (hrec : PdqOk F g h0 b lt D N (bn - a)) {j6 j7 j9 j11 j14 j15 j16 j17 j18 j19 j20 j21 j22 j23 : AV}
    (hq : ∀ (e : Ex) (a' bn' : Nat) (wb' wp' : Bool) (h1 : Heap) (d1 : Array Int) (j5 j6 j7 j9 j10 j11 j12 j14 j15 j16 j17 j18 j19 j20 j21 j22 j23 : AV), (e = .normal ∨ e = .exit 1) → bn' - a' < bn - a → a' ≤ bn' → bn' ≤ bn → SIn F g h0 h1 b d1 lt D → Updw hE h1 b → d1.size = N → Below lt a' bn' d1 → (∀ d2, PermIn a' bn' d1 d2 → SortedIn lt a' bn' d2 → PermIn a bn d d2 ∧ SortedIn lt a bn d2) →
      Q e ⟨[.msl 3 b 0 N, .int .i64 (a' : Int), .int .i64 (bn' : Int), .int .i64 (lim : Int), g, j5, j6, j7, .bool wb', j9, j10, j11, j12, .bool wp', j14, j15, j16, j17, j18, j19, j20, j21, j22, j23], h1, []⟩)
    (hret : ∀ (vs : List AV) (h1 : Heap) (d1 : Array Int), Updw hE h1 b → Own .i64 h1 3 b d1.toList → PermIn a bn d d1 → SortedIn lt a bn d1 → Q .ret ⟨vs, h1, []⟩) :
    W F Ko97_39 ⟨[.msl 3 b 0 N, .int .i64 (a : Int), .int .i64 (bn : Int), .int .i64 (lim : Int), g, .int .i64 ((bn - a : Nat) : Int), j6, j7, .bool wb, j9, .int .i64 hint, j11, .int .i64 (m : Int), .bool wp, j14, j15, j16, j17, j18, j19, j20, j21, j22, j23], h, []⟩ Q := by
  have key : ∀ (c : Bool) (j6 j7 j9 j11 j15 j16 j17 j18 j19 j20 j21 j22 j23 : AV), W F (cCnd (oVar 14) Ko97_43 cNop) ⟨[.msl 3 b 0 N, .int .i64 (a : Int), .int .i64 (bn : Int), .int .i64 (lim : Int), g, .int .i64 ((bn - a : Nat) : Int), j6, j7, .bool wb, j9, .int .i64 hint, j11, .int .i64 (m : Int), .bool wp, .bool c, j15, j16, j17, j18, j19, j20, j21, j22, j23], h, []⟩ (seqQ F Ko97_46 Q) := by
    intro c j6 j7 j9 j11 j15 j16 j17 j18 j19 j20 j21 j22 j23
    cases c with
    | false =>
      refine W_cnd rfl (fun h => by cases h) (fun _ => ?_)
      (refine W_nop ?_; simp only [go_sem])
      exact pdq46 hF hsw hs hu hB hm hm2 hab hb hN hlim hrec hq
    | true =>
      refine W_cnd rfl (fun _ => ?_) (fun h => by cases h)
      refine W_seq ?_
      (refine W_opsM ?_; simp only [go_sem])
      refine WO_call rfl rfl ?_
      have hpi := pis_ok hF hs (a := a) (bn := bn) (by omega) hb
      rw [hN] at hpi
      refine hpi.mono ?_
      rintro _ h1 ⟨rfl, hu1, ho1⟩
      obtain ⟨p1, p2⟩ := partialInsertionSort_holds hsw d a bn (by omega) hb hB
      generalize partialInsertionSort lt d a bn = x at *
      obtain ⟨d1, ok⟩ := x
      simp only [go_sem]
      cases ok with
      | true =>
        refine W_cnd rfl (fun _ => ?_) (fun h => by cases h)
        refine W_ret ?_
        simp only [go_sem]
        exact hret _ h1 d1 (hu.trans hu1.weak) ho1 p1 (p2 rfl)
      | false =>
        refine W_cnd rfl (fun h => by cases h) (fun _ => ?_)
        (refine W_nop ?_; simp only [go_sem])
        have p1' : PermIn a bn d d1 := p1
        refine pdq46 hF hsw (hs.updw hu1.weak ho1 p1 hb) (hu.trans hu1.weak) (hB.perm hb p1) hm hm2 hab (by rw [p1'.1]; exact hb) (by rw [p1'.1]; exact hN) hlim hrec ?_
        intro e a' bn' wb' wp' h2 d2 j5 j6 j7 j9 j10 j11 j12 j14 j15 j16 j17 j18 j19 j20 j21 j22 j23 he k1 k2 k3 k4 k5 k6 k7 k8
        exact hq e a' bn' wb' wp' h2 d2 _ _ _ _ _ _ _ _ _ _ _ _ _ _ _ _ _ he k1 k2 k3 k4 k5 k6 k7 (fun d3 q1 q2 => ⟨permIn_trans _ _ _ _ _ p1' (k8 d3 q1 q2).1, (k8 d3 q1 q2).2⟩)
  refine W_seq ?_
  refine W_seq ?_
  cases wb with
  | false =>
    (refine W_opsM ?_; simp only [go_sem])
    exact key false _ _ _ _ _ _ _ _ _ _ _ _ _
  | true =>
    cases wp with
    | false =>
      (refine W_opsM ?_; simp only [go_sem])
      exact key false _ _ _ _ _ _ _ _ _ _ _ _ _
    | true =>
      (refine W_opsM ?_; simp only [go_sem])
      exact key _ _ _ _ _ _ _ _ _ _ _ _ _ _
theorem pdq28 (hsw : SWO lt) (hs : SIn F g h0 h b d lt D) (hu : Updw hE h b) (hB : Below lt a bn d) (hab : a + 12 < bn) (hb : bn ≤ d.size) (hN : d.size = N) (hlim : lim ≤ 16) (hrec : PdqOk F g h0 b lt D N (bn - a)) {j6 j7 j9 j10 j11 j12 j14 j15 j16 j17 j18 j19 j20 j21 j22 j23 : AV}
    (hq : ∀ (e : Ex) (a' bn' : Nat) (wb' wp' : Bool) (h1 : Heap) (d1 : Array Int) (j5 j6 j7 j9 j10 j11 j12 j14 j15 j16 j17 j18 j19 j20 j21 j22 j23 : AV), (e = .normal ∨ e = .exit 1) → bn' - a' < bn - a → a' ≤ bn' → bn' ≤ bn → SIn F g h0 h1 b d1 lt D → Updw hE h1 b → d1.size = N → Below lt a' bn' d1 → (∀ d2, PermIn a' bn' d1 d2 → SortedIn lt a' bn' d2 → PermIn a bn d d2 ∧ SortedIn lt a bn d2) →
      Q e ⟨[.msl 3 b 0 N, .int .i64 (a' : Int), .int .i64 (bn' : Int), .int .i64 (lim : Int), g, j5, j6, j7, .bool wb', j9, j10, j11, j12, .bool wp', j14, j15, j16, j17, j18, j19, j20, j21, j22, j23], h1, []⟩)
    (hret : ∀ (vs : List AV) (h1 : Heap) (d1 : Array Int), Updw hE h1 b → Own .i64 h1 3 b d1.toList → PermIn a bn d d1 → SortedIn lt a bn d1 → Q .ret ⟨vs, h1, []⟩) :
    W F Ko97_28 ⟨[.msl 3 b 0 N, .int .i64 (a : Int), .int .i64 (bn : Int), .int .i64 (lim : Int), g, .int .i64 ((bn - a : Nat) : Int), j6, j7, .bool wb, j9, j10, j11, j12, .bool wp, j14, j15, j16, j17, j18, j19, j20, j21, j22, j23], h, []⟩ Q := by
  have hz := hs.sz
  refine W_seq ?_
  (refine W_opsM ?_; simp only [go_sem])
  refine WO_call rfl rfl ?_
  have hpi := pivot_ok hF hs (a := a) (bn := bn) (by omega) hb
  rw [hN] at hpi
  refine hpi.mono ?_
  rintro _ h ⟨rfl, m, hint, rfl, hm, hm2⟩
  simp only [go_sem]
  refine W_seq ?_
  refine W_seq ?_
  (refine W_opsM ?_; simp only [go_sem])
  refine W_cndP rfl (fun hc => ?_) (fun hc => ?_)
  · refine W_seq ?_
    (refine W_opsM ?_; simp only [go_sem])
    refine WO_call rfl rfl ?_
    have hrv := rev_ok hF hs (a := a) (bn := bn) (by omega) hb
    rw [hN] at hrv
    refine hrv.mono ?_
    rintro _ h1 ⟨rfl, hu1, d1, ho1, p1⟩
    simp only [go_sem]
    refine W_seq ?_
    (refine W_opsM ?_; simp (disch := omega) only [wrap_i64, go_sem])
    have e1 : (bn : Int) - 1 - ((m : Int) - a) = ((bn - 1 - (m - a) : Nat) : Int) := by omega
    rw [e1]
    (refine W_opsM ?_; simp only [go_sem])
    refine pdq39 hF hsw (hs.updw hu1.weak ho1 p1 hb) (hu.trans hu1.weak) (hB.perm hb p1) (m := bn - 1 - (m - a)) (by omega) (by omega) hab (by rw [p1.1]; exact hb) (by rw [p1.1]; exact hN) hlim hrec ?_ ?_
    · intro e a' bn' wb' wp' h2 d2 j5 j6 j7 j9 j10 j11 j12 j14 j15 j16 j17 j18 j19 j20 j21 j22 j23 he k1 k2 k3 k4 k5 k6 k7 k8
      exact hq e a' bn' wb' wp' h2 d2 _ _ _ _ _ _ _ _ _ _ _ _ _ _ _ _ _ he k1 k2 k3 k4 k5 k6 k7 (fun d3 q1 q2 => ⟨permIn_trans _ _ _ _ _ p1 (k8 d3 q1 q2).1, (k8 d3 q1 q2).2⟩)
    · intro vs h2 d2 k1 k2 k3 k4
      exact hret vs h2 d2 k1 k2 (permIn_trans _ _ _ _ _ p1 k3) k4
  · (refine W_nop ?_; simp only [go_sem])
    exact pdq39 hF hsw hs hu hB hm hm2 hab hb hN hlim hrec hq hret
end
end Go.Proofs.YtnkcimeebobjaaaDoor.fitRounds
namespace Go.Proofs.YtnkcimeebobjaaaDoor.fitRounds
open Hx Go
set_option maxRecDepth 100000
attribute [local irreducible] cSeq cOps cPre cCnd cBlk cLoop cScope cExit cRet cNop cRng Heap.ent Heap.setLow
/-- what is asked of the sort of lists of at most n numbers -/
def SortOk (F : Nat → Nat → CallFn) (n : Nat) : Prop := ∀ (h : Heap) (b : Nat) (d : Array Int) (g : AV) (lt : Int → Int → Bool) (D : Int → Prop), Own .i64 h 3 b d.toList → CmpOk F g h b lt D → (∀ i : Nat, i < d.size → D d[i]!) → Go.Sort.SWO lt → d.size ≤ n →
  WV F (.fn (.func 76) [] []) [.msl 3 b 0 d.size, g] h (fun r h' => r = .val (.tup []) ∧ Updw h h' b ∧ ∃ d' : Array Int, Own .i64 h' 3 b d'.toList ∧ Go.Sort.PermIn 0 d.size d d' ∧ Go.Sort.SortedIn lt 0 d.size d')
section
variable {F : Nat → Nat → CallFn} (hF : IsEv KC Kt F)
include hF
theorem sortOk12 : SortOk F 12 := fun _h _b d _g _lt _D ho hc hd hs hz => (sortS_ok hF ho hc hd hz).mono fun _r _h' ⟨h1, h2, h3⟩ =>
  ⟨h1, h2.weak, _, h3, Go.Sort.insertionSort_holds hs d 0 d.size (Nat.zero_le _) (Nat.le_refl _)⟩
theorem shares_ok {N : Nat} (hs : SortOk F N) (hN : N ≤ 1024) {h : Heap} {v : AV} {l : List Int} {grain least : Int} (hv : Ints .i64 h 3 v l) (hl : ∀ x ∈ l, 0 ≤ x ∧ x ≤ 1099511627776) (hn : 0 < l.length) (hn' : l.length ≤ N) (hg : 1 ≤ grain ∧ grain ≤ 720) (hle : 0 ≤ least) (hal : least * l.length ≤ grain) :
    WV F (.fn (.func 47) [] []) [v, .int .i64 grain, .int .i64 least] h (fun r h' => ∃ b out, r = .val (.msl 3 b 0 l.length) ∧ Grow h h' ∧ h.next ≤ b ∧ Own .i64 h' 3 b out ∧ IsShares (cs l) (ts l) (grain - least * l.length) least out) := by
  have hv' := hv.ext (Ext.ent h)
  have hlen : (l.length : Int) ≤ 1024 := by omega
  have hsum := sum_le hl
  have hl0 : ∀ x ∈ l, 0 ≤ x := fun x hx => (hl x hx).1
  refine Kent47 hF ?_
  refine W_seq ?_
  (refine W_opsM ?_; simp only [go_sem])
  refine W_seq ?_
  (refine W_opsM ?_; simp only [go_sem])
  refine W_seq ?_
  refine W_seq ?_
  (refine W_opsM ?_; simp only [go_sem, hv.lens])
  refine W_blk ?_
  refine W_loop (fun k s => ∃ (i : Nat) (m : Int) (j1 j2 : AV), k = l.length - i ∧ i ≤ l.length ∧ m = (l.take i).sum ∧ s = ⟨[v, .int .i64 grain, .int .i64 least, .int .i64 (i : Int), .int .i64 (l.length : Int), j1, v, .int .i64 m, j2, undefA, undefA, undefA, undefA, undefA, undefA, undefA, undefA, undefA, undefA, undefA, undefA, undefA, undefA, undefA, undefA, undefA, undefA, .nils], h.ent, []⟩) ?_ (k := l.length) ⟨0, 0, _, _, rfl, Nat.zero_le _, rfl, rfl⟩
  rintro k s ⟨i, m, j1, j2, rfl, hi, hm, rfl⟩
  refine W_seq ?_
  (refine W_opsM ?_; simp only [go_sem])
  refine W_seq ?_
  refine W_cndP rfl (fun hc => ?_) (fun hc => ?_)
  · (refine W_nop ?_; simp only [go_sem])
    refine W_seq ?_
    refine W_blk ?_
    refine W_seq ?_
    have hi' : i < l.length := by omega
    obtain ⟨p, h1, h2⟩ := hv'.at hi'
    have b1 := hl _ (List.getElem_mem hi')
    have b2 := sum_take hi'
    have b3 := sum_take_le hl0 i
    have b4 := sum_pos (l := l.take i) fun x hx => hl0 x (List.mem_of_mem_take hx)
    (refine W_opsM ?_; simp only [go_sem, h1, h2])
    (refine W_opsM ?_; simp (disch := omega) only [wrap_i64, go_sem])
    (refine W_opsM ?_; simp (disch := omega) only [wrap_i64, go_sem])
    exact ⟨_, by omega, i + 1, _, _, _, rfl, by omega, by rw [b2, hm], rfl⟩
  · (refine W_exit ?_; simp only [go_sem])
    have : i = l.length := by omega
    subst this
    rw [List.take_length] at hm
    subst hm
    refine W_seq ?_
    refine W_seq ?_
    (refine W_opsM ?_; simp only [go_sem])
    generalize hQ : seqQ F Ko47_24 _ = Q
    -- behind the first part
    have hk : ∀ (h1 : Heap) (v1 : AV) (j1 j2 j3 : AV), Ext h.ent h1 → h.next ≤ h1.low → Ints .i64 h1 3 v1 (cs l) → Q .normal ⟨[v1, .int .i64 grain, .int .i64 least, j3, .int .i64 (l.length : Int), j1, v, .int .i64 (ts l), j2, .bool (decide (l.sum = 0)), undefA, undefA, undefA, undefA, undefA, undefA, undefA, undefA, undefA, undefA, undefA, undefA, undefA, undefA, undefA, undefA, undefA, .nils], h1, []⟩ := by
      intro h1 v1 j1 j2 j3 he1 hl1 hv1
      subst hQ
      simp only [go_sem]
      have hcl : ∀ x ∈ cs l, 0 ≤ x ∧ x ≤ 1099511627776 := cs_bd (by omega) hl
      have ht := ts_pos hl0 hn
      have htb : ts l ≤ 1099511627776 * 1024 := by unfold ts; split <;> omega
      have hm0 : 0 ≤ least * (l.length : Int) := Int.mul_nonneg hle (by omega)
      have hl8 : least ≤ 720 := by
        have := Int.mul_le_mul_of_nonneg_left (show (1 : Int) ≤ l.length by omega) hle
        omega
      refine W_seq ?_
      (refine W_opsM ?_; simp (disch := omega) only [wrap_i64, go_sem, hv1.lens, cs_len])
      obtain ⟨all, hall⟩ : ∃ a, a = grain - least * (l.length : Int) := ⟨_, rfl⟩
      rw [← hall]
      have hA : 0 ≤ all ∧ all ≤ 720 := by omega
      refine W_seq ?_
      (refine W_pre ?_; simp (disch := omega) only [go_sem, hv1.lens, cs_len, mksE, next_push])
      have o1 := (Own.mkZ (k := .i64) h1 3 l.length 0)
      have o2 := (Own.mkZ (k := .i64) (h1.push (.row (List.replicate l.length [AV.int .i64 0]).flatten 3)) 3 l.length 0)
      have o3 := (Own.mkZ (k := .i64) ((h1.push (.row (List.replicate l.length [AV.int .i64 0]).flatten 3)).push (.row (List.replicate l.length [AV.int .i64 0]).flatten 3)) 3 l.length 0)
      have o1 := (o1.pushO (x := .row (List.replicate l.length [AV.int .i64 0]).flatten 3)).pushO (x := .row (List.replicate l.length [AV.int .i64 0]).flatten 3)
      have o2 := o2.pushO (x := .row (List.replicate l.length [AV.int .i64 0]).flatten 3)
      have he2 := ((he1.push (x := .row (List.replicate l.length [AV.int .i64 0]).flatten 3)).push (x := .row (List.replicate l.length [AV.int .i64 0]).flatten 3)).push (x := .row (List.replicate l.length [AV.int .i64 0]).flatten 3)
      have hv2 := (((hv1.ext (Ext.refl h1).push).ext (Ext.refl _).push).ext (Ext.refl _).push : Ints .i64 (((h1.push (.row (List.replicate l.length [AV.int .i64 0]).flatten 3)).push (.row (List.replicate l.length [AV.int .i64 0]).flatten 3)).push (.row (List.replicate l.length [AV.int .i64 0]).flatten 3)) 3 v1 (cs l))
      have hl2 : h.next ≤ (((h1.push (.row (List.replicate l.length [AV.int .i64 0]).flatten 3)).push (.row (List.replicate l.length [AV.int .i64 0]).flatten 3)).push (.row (List.replicate l.length [AV.int .i64 0]).flatten 3)).low := by rw [low_push, low_push, low_push]; exact hl1
      generalize hh2 : Heap.push (Heap.push (Heap.push h1 _) _) _ = h2 at *
      simp only [next_push] at o1 o2 o3
      have hb1 : h.next ≤ h1.next := by have := he1.next; rw [ent_next] at this; exact this
      generalize hb1e : h1.next = b1 at *
      have he12 : Ext h1 h2 := by rw [← hh2]; exact (Ext.refl h1).push.push.push
      clear hh2
      refine W_seq ?_
      (refine W_opsM ?_; simp only [go_sem])
      refine W_seq ?_
      refine W_seq ?_
      (refine W_opsM ?_; simp only [go_sem, hv2.lens, cs_len])
      refine W_blk ?_
      have hol : ((cs l).map fun c => least + all * c / ts l).length = l.length := by simp [cs_len]
      have hrl : (rts l all).length = l.length := by simp [rts, cs_len]
      have hql : (qs l all).length = l.length := by simp [qs, cs_len]
      have hil := idxs_len l.length
      have hq0 : ∀ x ∈ qs l all, 0 ≤ x := by
        intro x hx
        unfold qs at hx
        rw [List.mem_map] at hx
        obtain ⟨c, hc, rfl⟩ := hx
        exact Int.ediv_nonneg (Int.mul_nonneg hA.1 (hcl c hc).1) (by omega)
      have hleft := left_bd (all := all) hl0 hn
      refine W_loop (fun k s => ∃ (i : Nat) (lf : Int) (h3 : Heap) (j12 j13 j15 j17 j20 : AV), k = l.length - i ∧ i ≤ l.length ∧ lf = all - ((qs l all).take i).sum ∧ Ext h1 h3 ∧ h.next ≤ h3.low ∧
        Own .i64 h3 3 b1 (((cs l).map fun c => least + all * c / ts l).take i ++ List.replicate (l.length - i) 0) ∧
        Own .i64 h3 3 (b1 + 1) ((rts l all).take i ++ List.replicate (l.length - i) 0) ∧
        Own .i64 h3 3 (b1 + 1 + 1) ((idxs l.length).take i ++ List.replicate (l.length - i) 0) ∧
        s = ⟨[v1, .int .i64 grain, .int .i64 least, j3, .int .i64 (l.length : Int), j1, v, .int .i64 (ts l), j2, .bool (decide (l.sum = 0)), .int .i64 all, .int .i64 (i : Int), .int .i64 (l.length : Int), j13, v1, j15, .msl 3 b1 0 l.length, j17, .msl 3 (b1 + 1) 0 l.length, .msl 3 (b1 + 1 + 1) 0 l.length, j20, .int .i64 lf, undefA, undefA, undefA, undefA, undefA, .nils], h3, []⟩) ?_ (k := l.length) ⟨0, all, _, undefA, _, _, _, _, rfl, Nat.zero_le _, by simp, he12, hl2, by simpa using o1, by simpa using o2, by simpa using o3, rfl⟩
      rintro k s ⟨i, lf, h3, j12, j13, j15, j17, j20, rfl, hi, hlf, he3, hl3, p1, p2, p3, rfl⟩
      refine W_seq ?_
      (refine W_opsM ?_; simp only [go_sem])
      refine W_seq ?_
      refine W_cndP rfl (fun hc => ?_) (fun hc => ?_)
      · (refine W_nop ?_; simp only [go_sem])
        refine W_seq ?_
        refine W_blk ?_
        refine W_seq ?_
        have hi' : i < l.length := by omega
        have hi2 : i < (cs l).length := by rw [cs_len]; exact hi'
        obtain ⟨p, g1, g2⟩ := (hv1.ext he3).at hi2
        have bc := hcl _ (List.getElem_mem hi2)
        generalize hcc : (cs l)[i] = c at *
        have bm := mul_bd (A := 720) (B := 1099511627776) (show -720 ≤ all by omega) hA.2 (show -1099511627776 ≤ c by omega) bc.2
        have bm0 : 0 ≤ all * c := Int.mul_nonneg hA.1 bc.1
        have e1 := Int.emod_add_mul_ediv (all * c) (ts l)
        have e2 := Int.emod_nonneg (all * c) (show ts l ≠ 0 by omega)
        have e3 := Int.emod_lt_of_pos (all * c) ht
        have e4 : 0 ≤ all * c / ts l := Int.ediv_nonneg bm0 (by omega)
        rw [Int.mul_comm (ts l)] at e1
        have e5 : (qs l all)[i]'(by omega) = all * c / ts l := by simp [qs, hcc]
        have e6 : (rts l all)[i]'(by omega) = all * c - all * c / ts l * ts l := by simp [rts, hcc]
        have e7 : ((cs l).map fun c => least + all * c / ts l)[i]'(by omega) = least + all * c / ts l := by simp [hcc]
        have e8 := sum_take (l := qs l all) (i := i) (by omega)
        have e9 := sum_take_le hq0 (i + 1)
        have e10 := sum_pos (l := (qs l all).take i) fun x hx => hq0 x (List.mem_of_mem_take hx)
        have e11 := hleft.1
        unfold leftS at e11
        rw [e5] at e8
        (refine W_opsM ?_; simp only [go_sem, g1, g2])
        refine W_seq ?_
        (refine W_opsM ?_; simp (disch := omega) only [wrap_i64, go_sem, bin_quo, Int.tdiv_eq_ediv_of_nonneg bm0])
        generalize all * c / ts l = q at *
        refine W_seq ?_
        have n1 : b1 + 1 ≠ b1 := by omega
        have n2 : b1 + 1 + 1 ≠ b1 := by omega
        have n3 : b1 + 1 + 1 ≠ b1 + 1 := by omega
        have s1 := fun x => p1.store (i := i) (by rw [fill_len hol hi]; exact hi') x
        have s2 := fun (B : Blk) x => (p2.putO (x := B) n1).store (i := i) (by rw [fill_len hrl hi]; exact hi') x
        have s3 := fun (B B' : Blk) x => ((p3.putO (x := B) n2).putO (x := B') n3).store (i := i) (by rw [fill_len hil hi]; exact hi') x
        (refine W_opsM ?_; simp (disch := omega) only [wrap_i64, go_sem, ixs_msl hi', s1, s2, s3])
        (refine W_opsM ?_; simp (disch := omega) only [wrap_i64, go_sem])
        (refine W_opsM ?_; simp (disch := omega) only [wrap_i64, go_sem])
        refine ⟨_, by omega, i + 1, _, _, undefA, _, _, _, _, rfl, by omega, ?_, ((he3.put (by omega)).put (by omega)).put (by omega), ?_, ?_, ?_, ?_, rfl⟩
        · omega
        · rw [low_put, low_put, low_put]; omega
        · rw [← fill_set hol hi', e7]
          exact ((p1.put _).putO n1.symm).putO n2.symm
        · rw [← fill_set hrl hi', e6]
          exact ((p2.putO n1).put _).putO n3.symm
        · rw [← fill_set hil hi', idxs_get]
          exact ((p3.putO n2).putO n3).put _
      · (refine W_exit ?_; simp only [go_sem])
        have : i = l.length := by omega
        subst this
        rw [List.take_of_length_le (by omega), Nat.sub_self, List.replicate_zero, List.append_nil] at p1 p2 p3
        rw [List.take_of_length_le (by omega)] at hlf
        have hlf : lf = leftS l all := hlf
        refine W_seq ?_
        (refine W_opsM ?_; simp only [go_sem])
        refine WO_call rfl rfl ?_
        have hds : (idxs l.length).toArray.size = l.length := by simp [idxs_len]
        have hcmp := cmpG_ok hF (h := h3) (v := .msl 3 (b1 + 1) 0 l.length) (rs := rts l all) (b := b1 + 1 + 1) (fun h' e1 e2 => by
          have := (p2.sameL e1 (e2 _ (by omega) p2.1)).ints
          rwa [hrl] at this) (fun x hx => by have := rts_bd (all := all) ht x hx; omega) (by rw [hrl]; omega)
        have hsort := hs h3 (b1 + 1 + 1) (idxs l.length).toArray _ _ _ p3 hcmp (fun i hi => by
          rw [hds] at hi
          rw [getElem!_pos _ i (by rw [hds]; exact hi), List.getElem_toArray, idxs_get, hrl]
          omega) (ltG_swo _) (by rw [hds]; exact hn')
        rw [hds] at hsort
        refine hsort.mono ?_
        rintro _ h4 ⟨rfl, hu4, d, p3', hperm, hsd⟩
        obtain ⟨hd1, o, ho1, ho2⟩ := ord_facts hperm
        simp only [go_sem]
        have hol2 : o.length = l.length := by rw [ho1.length_eq]; simp
        have hndo : o.Nodup := ho1.nodup_iff.2 List.nodup_range
        have homem : ∀ i, i ∈ o ↔ i < l.length := fun i => by rw [ho1.mem_iff]; simp
        have q1 := p1.sameL hu4.next (hu4.get b1 (by omega) p1.1)
        have he4 := he3.updw hu4 (by omega)
        have hl4 := hu4.low
        have hn3 := he3.next
        rw [hb1e] at hn3
        obtain ⟨lk, hlk⟩ := Int.eq_ofNat_of_zero_le hleft.1
        rw [hlk] at hlf hleft
        subst hlf
        rw [ho2] at p3'
        refine W_seq ?_
        refine W_seq ?_
        (refine W_opsM ?_; simp (disch := omega) only [go_sem, slc_msl, Nat.zero_mul, Nat.add_zero, Nat.sub_zero])
        refine W_blk ?_
        refine W_loop (fun k s => ∃ (i : Nat) (h5 : Heap) (O : List Int) (j11 j12 j13 j14 j15 j17 j20 j24 j26 : AV), k = lk - i ∧ i ≤ lk ∧ Ext h1 h5 ∧ h.next ≤ h5.low ∧ Own .i64 h5 3 b1 O ∧ O.length = l.length ∧
          (∀ (j : Nat) (hj : j < O.length) (hc : j < (cs l).length), O[j] = least + all * (cs l)[j] / ts l + if j ∈ o.take i then 1 else 0) ∧
          Own .i64 h5 3 (b1 + 1 + 1) (o.map fun i : Nat => (i : Int)) ∧
          s = ⟨[v1, .int .i64 grain, .int .i64 least, j3, .int .i64 (l.length : Int), j1, v, .int .i64 (ts l), j2, .bool (decide (l.sum = 0)), .int .i64 all, j11, j12, j13, j14, j15, .msl 3 b1 0 l.length, j17, .msl 3 (b1 + 1) 0 l.length, .msl 3 (b1 + 1 + 1) 0 l.length, j20, .int .i64 lk, .int .i64 (i : Int), .int .i64 (lk : Int), j24, .msl 3 (b1 + 1 + 1) 0 lk, j26, .nils], h5, []⟩) ?_ (k := lk) ⟨0, h4, _, _, _, _, _, _, _, _, _, _, rfl, Nat.zero_le _, he4, by omega, q1, hol, by intro j hj hc; simp, p3', rfl⟩
        rintro k s ⟨i, h5, O, j11, j12, j13, j14, j15, j17, j20, j24, j26, rfl, hi, he5, hl5, q1, hO, hOv, q3, rfl⟩
        refine W_seq ?_
        (refine W_opsM ?_; simp only [go_sem])
        refine W_seq ?_
        refine W_cndP rfl (fun hc => ?_) (fun hc => ?_)
        · (refine W_nop ?_; simp only [go_sem])
          refine W_seq ?_
          refine W_blk ?_
          refine W_seq ?_
          have hi' : i < lk := by omega
          have hio : i < o.length := by omega
          have hld := q3.load (i := i) (by simp; omega)
          rw [List.getElem_map] at hld
          have hxn : o[i] < l.length := (homem _).1 (List.getElem_mem hio)
          have hnew : o[i] ∉ o.take i := fun hm => by
            obtain ⟨p, hp, hp2⟩ := List.getElem_of_mem hm
            rw [List.length_take] at hp
            rw [List.getElem_take] at hp2
            have := (List.getElem_inj hndo).1 hp2
            omega
          generalize hx : o[i] = x at *
          (refine W_opsM ?_; simp only [go_sem, ixs_msl hi', hld])
          have hxc : x < (cs l).length := by rw [cs_len]; exact hxn
          have hOx := hOv x (by omega) hxc
          rw [if_neg hnew] at hOx
          have hq1 : 0 ≤ all * (cs l)[x] / ts l := Int.ediv_nonneg (Int.mul_nonneg hA.1 (hcl _ (List.getElem_mem hxc)).1) (by omega)
          have hq2 : all * (cs l)[x] / ts l ≤ all := by
            have h1 := mem_le_sum hq0 (all * (cs l)[x] / ts l) (by unfold qs; exact List.mem_map.2 ⟨_, List.getElem_mem hxc, rfl⟩)
            have h2 : all - (qs l all).sum = lk := hlk
            omega
          have hldx := q1.load (i := x) (by omega)
          (refine W_opsM ?_; simp (disch := omega) only [wrap_i64, go_sem, ixs_msl hxn, hldx, fun y => q1.store (i := x) (by omega) y])
          (refine W_opsM ?_; simp (disch := omega) only [wrap_i64, go_sem])
          refine ⟨_, by omega, i + 1, _, _, _, _, _, _, _, _, _, _, _, rfl, by omega, he5.put (by omega), by rw [low_put]; omega, q1.put _, by simpa using hO, ?_, q3.putO (by omega), rfl⟩
          intro j hj hc
          rw [List.getElem_set]
          rw [List.take_succ_eq_append_getElem hio, hx]
          by_cases hjx : x = j
          · subst hjx
            rw [if_pos rfl, hOx, if_pos (by simp)]; omega
          · rw [if_neg hjx, hOv j (by simpa using hj) hc]
            congr 1
            have : (j ∈ List.take i o ++ [x]) ↔ j ∈ List.take i o := by
              rw [List.mem_append, List.mem_singleton]
              exact ⟨fun h => h.elim id fun h => absurd h.symm hjx, .inl⟩
            simp only [this]
        · (refine W_exit ?_; simp only [go_sem])
          have : i = lk := by omega
          subst this
          refine W_seq ?_
          (refine W_opsM ?_; simp only [go_sem])
          refine W_ret ?_
          refine fin_new (l := [.msl 3 b1 0 l.length]) (he1.trans he5) hl5 rfl rfl (fun hg => ⟨b1, O, rfl, hg, hb1, q1.lower, ?_⟩) (fun h => by cases h)
          refine shares_of (o := o) (d := d) (k := i) (by rw [hO, cs_len]) (by rw [cs_len]; exact ho1) ho2 (by rw [cs_len]; omega) (by rw [cs_len]; exact hsd) hlk.symm hOv
    refine W_cndP rfl (fun hc => ?_) (fun hc => ?_)
    · refine W_opsM ?_
      simp (disch := omega) only [go_sem, ent_next, hv.lens]
      refine WO_call rfl rfl ?_
      have ho := Own.one (k := .i64) h.ent 3 1
      have hi1 := ho.ints
      simp only [ent_next] at hi1
      refine (rep_ok hF (n := l.length) hi1 hn (by omega) (by omega)).mono ?_
      rintro _ h1 ⟨b, rfl, hg1, hb, ho1⟩
      simp only [go_sem, hv.lens]
      have h5 : ts l = l.length := if_pos hc
      have h6 : cs l = List.replicate l.length 1 := if_pos hc
      have hg2 := hg1.low
      rw [low_push, ent_low, next_push, ent_next] at hg2
      have := hk h1 (.msl 3 b 0 l.length) (.bool (decide (((l.length : Nat) : Int) < (l.length : Int)))) j2 (.int .i64 (l.length : Int)) ((Ext.refl _).push.trans hg1.ext) (by omega) (by rw [h6]; have := ho1.ints; rw [List.length_replicate] at this; exact this)
      rw [h5] at this
      exact this
    · refine W_nop ?_
      have h5 : ts l = l.sum := if_neg hc
      have h6 : cs l = l := if_neg hc
      have := hk h.ent v (.bool (decide (((l.length : Nat) : Int) < (l.length : Int)))) j2 (.int .i64 (l.length : Int)) (Ext.refl _) ent_low_le (by rw [h6]; exact hv')
      rw [h5] at this
      exact this
theorem round_ok {N : Nat} (hs : SortOk F N) (hN : N ≤ 1024) {h : Heap} {v : AV} {l : List Int} {grain least : Int} (hv : Ints .i64 h 3 v l) (hl : ∀ x ∈ l, -9223372036854775808 ≤ x ∧ x ≤ 9223372036854775807) (hn : l.length ≤ N ∨ N = 1024) (hn' : l.length < 65536) (hg : -9223372036854775808 ≤ grain ∧ grain ≤ 9223372036854775807) :
    WV F (.fn (.func 10) [] []) [v, .int .i64 grain, .int .i64 least] h (fun r h' => ¬ Good l grain least ∧ r = .val (.tup [.nils, .int .i64 2]) ∧ h' = h ∨
      Good l grain least ∧ ∃ b out, r = .val (.tup [.msl 3 b 0 l.length, .int .i64 0]) ∧ Grow h h' ∧ h.next ≤ b ∧ Own .i64 h' 3 b out ∧ IsShares (cs l) (ts l) (grain - least * l.length) least out) := by
  have hv' := hv.ext (Ext.ent h)
  refine Kent10 hF ?_
  refine W_seq ?_
  (refine W_opsM ?_; simp only [go_sem])
  refine W_seq ?_
  refine W_seq ?_
  generalize hQ : seqQ F Ko10_5 _ = Q
  have hk : ∀ t : Bool, (t = true ↔ ¬ (1 ≤ l.length ∧ l.length ≤ 1024 ∧ ∀ x ∈ l, 0 ≤ x ∧ x ≤ 1099511627776)) → Q .normal ⟨[v, .int .i64 grain, .int .i64 least, .bool t, undefA, .nils, .int .i64 0], h.ent, []⟩ := by
    intro t ht
    subst hQ
    simp only [go_sem]
    refine W_cnd (t := t) rfl (fun hb => ?_) (fun hb => ?_)
    · refine W_seq ?_
      (refine W_opsM ?_; simp only [go_sem])
      refine W_ret ?_
      simp only [go_sem]
      exact fin_out ent_low_le rfl rfl rfl (.inl ⟨fun hg => ht.1 hb ⟨hg.1, hg.2.1, hg.2.2.1⟩, rfl, rfl⟩)
    (refine W_nop ?_; simp only [go_sem])
    have ha : 1 ≤ l.length ∧ l.length ≤ 1024 ∧ ∀ x ∈ l, 0 ≤ x ∧ x ≤ 1099511627776 := Decidable.byContradiction fun h => by rw [ht.2 h] at hb; cases hb
    refine W_seq ?_
    refine W_seq ?_
    generalize hQ : seqQ F Ko10_11 _ = Q
    have hk2 : ∀ t : Bool, (t = true ↔ ¬ (1 ≤ grain ∧ grain ≤ 720 ∧ 0 ≤ least ∧ least * l.length ≤ grain)) → Q .normal ⟨[v, .int .i64 grain, .int .i64 least, .bool false, .bool t, .nils, .int .i64 0], h.ent, []⟩ := by
      intro t ht2
      subst hQ
      simp only [go_sem]
      refine W_cnd (t := t) rfl (fun hb => ?_) (fun hb => ?_)
      · refine W_seq ?_
        (refine W_opsM ?_; simp only [go_sem])
        refine W_ret ?_
        simp only [go_sem]
        exact fin_out ent_low_le rfl rfl rfl (.inl ⟨fun hg => ht2.1 hb hg.2.2.2, rfl, rfl⟩)
      (refine W_nop ?_; simp only [go_sem])
      have hb2 : 1 ≤ grain ∧ grain ≤ 720 ∧ 0 ≤ least ∧ least * l.length ≤ grain := Decidable.byContradiction fun h => by rw [ht2.2 h] at hb; cases hb
      refine W_seq ?_
      (refine W_opsM ?_; simp only [go_sem])
      refine WO_call rfl rfl ?_
      refine (shares_ok hF hs hN hv' ha.2.2 ha.1 (by omega) ⟨hb2.1, hb2.2.1⟩ hb2.2.2.1 hb2.2.2.2).mono ?_
      rintro _ h1 ⟨b, out, rfl, hg1, hb1, ho1, hsh⟩
      simp only [go_sem]
      refine W_ret ?_
      have hl1 := hg1.low
      rw [ent_low, ent_next] at hl1
      exact fin_new (l := [.msl 3 b 0 l.length, .int .i64 0]) hg1.ext (by omega) rfl rfl (fun hg => .inr ⟨⟨ha.1, ha.2.1, ha.2.2, hb2⟩, b, out, rfl, hg, by rw [ent_next] at hb1; exact hb1, ho1.lower, hsh⟩) (fun h => by cases h)
    rw [hb]
    by_cases g1 : grain < 1
    · (refine W_opsM ?_; simp only [go_sem, g1])
      exact hk2 true (by simp; omega)
    by_cases g2 : grain > 720
    · (refine W_opsM ?_; simp only [go_sem, g1, g2])
      exact hk2 true (by simp; omega)
    by_cases g3 : least < 0
    · (refine W_opsM ?_; simp only [go_sem, g1, g2, g3])
      exact hk2 true (by simp; omega)
    have e1 : (l.length : Int) ≠ 0 := by omega
    have e2 : least > grain / (l.length : Int) ↔ ¬ least * l.length ≤ grain := by
      rw [Int.not_le]
      exact Int.ediv_lt_iff_lt_mul (by omega)
    have e3 : 0 ≤ grain / (l.length : Int) := Int.ediv_nonneg (by omega) (by omega)
    have e4 : grain / (l.length : Int) ≤ grain := Int.ediv_le_self _ (by omega)
    (refine W_opsM ?_; simp (disch := omega) only [wrap_i64, go_sem, g1, g2, g3, hv.lens, bin_quo, Int.tdiv_eq_ediv_of_nonneg (show 0 ≤ grain by omega)])
    refine hk2 _ ?_
    rw [decide_eq_true_eq, e2]
    constructor
    · intro h5 h6; exact h5 h6.2.2.2
    · intro h5 h6; exact h5 ⟨by omega, by omega, by omega, h6⟩
  by_cases g1 : (l.length : Int) < 1
  · (refine W_opsM ?_; simp only [go_sem, hv.lens, g1])
    exact hk true (by simp; omega)
  by_cases g2 : (l.length : Int) > 1024
  · (refine W_opsM ?_; simp only [go_sem, hv.lens, g1, g2])
    exact hk true (by simp; omega)
  have hne : l ≠ [] := by intro h; subst h; simp at g1
  (refine W_opsM ?_; simp only [go_sem, hv.lens, g1, g2])
  refine WO_call rfl rfl ?_
  refine (min_ok hF hv' hne (by omega)).mono ?_
  rintro _ _ ⟨rfl, rfl⟩
  simp only [go_sem]
  by_cases g3 : minL l < 0
  · simp only [go_sem, g3]
    exact hk true (by
      simp only [true_iff]
      intro h5
      have := (minL_le hne (B := 0)).2 fun x hx => (h5.2.2 x hx).1
      omega)
  simp only [go_sem, g3]
  refine WO_call rfl rfl ?_
  refine (max_ok hF hv' hne (by omega)).mono ?_
  rintro _ _ ⟨rfl, rfl⟩
  simp only [go_sem]
  refine hk _ ?_
  rw [decide_eq_true_eq]
  constructor
  · intro h5 h6
    have := (maxL_le hne (B := 1099511627776)).2 fun x hx => (h6.2.2 x hx).2
    omega
  · intro h5
    refine Int.not_le.1 fun h6 => h5 ⟨by omega, by omega, fun x hx => ⟨(minL_le hne (B := 0)).1 (by omega) x hx, (maxL_le hne).1 h6 x hx⟩⟩
end
end Go.Proofs.YtnkcimeebobjaaaDoor.fitRounds
namespace Go.Proofs.YtnkcimeebobjaaaDoor.fitRounds
open Hx Go
set_option maxRecDepth 100000
attribute [local irreducible] cSeq cOps cPre cCnd cBlk cLoop cScope cExit cRet cNop cRng Heap.ent Heap.setLow
section
variable {F : Nat → Nat → CallFn} (hF : IsEv KC Kt F)
open Go.Sort
variable {g : AV} {h0 h h' hE : Heap} {b : Nat} {d d' : Array Int} {lt : Int → Int → Bool} {D : Int → Prop} {a bn lim m N : Nat} {wb wp : Bool} {Q : Ex → St → Prop}
include hF
theorem pdq_ok (hsw : SWO lt) (hN2 : N < 65536) : ∀ n, PdqOk F g h0 b lt D N n := by
  intro n
  induction n with
  | zero => intro h d a bn lim _ h1; omega
  | succ n ih =>
  intro h d a bn lim hs hn hab hb hN hlim hB
  have hz := hs.sz
  have hbl := hs.own.1
  refine Kent97 hF ?_
  refine W_seq ?_
  (refine W_opsM ?_; simp only [go_sem])
  refine W_seq ?_
  (refine W_opsM ?_; simp only [go_sem])
  refine W_blk ?_
  generalize hQ : blkQ 0 _ = Q
  have hret : ∀ (vs : List AV) (h1 : Heap) (d1 : Array Int), Updw h.ent h1 b → Own .i64 h1 3 b d1.toList → PermIn a bn d d1 → SortedIn lt a bn d1 → Q .ret ⟨vs, h1, []⟩ := by
    intro vs h1 d1 hu ho hp hso
    subst hQ
    simp only [go_sem]
    exact (fin_updw hu hbl ho rfl).mono fun r h' ⟨q1, q2, q3⟩ => ⟨q1, q2, d1, q3, hp, hso⟩
  clear hQ
  refine W_loop (fun k st => ∃ (a' bn' lim' : Nat) (wb wp : Bool) (h1 : Heap) (d1 : Array Int) (j5 j6 j7 j9 j10 j11 j12 j14 j15 j16 j17 j18 j19 j20 j21 j22 j23 : AV), k = bn' - a' ∧ bn' - a' < n + 1 ∧ a' ≤ bn' ∧ bn' ≤ d.size ∧ lim' ≤ 16 ∧ SIn F g h0 h1 b d1 lt D ∧ Updw h.ent h1 b ∧ d1.size = N ∧ Below lt a' bn' d1 ∧ (∀ d2, PermIn a' bn' d1 d2 → SortedIn lt a' bn' d2 → PermIn a bn d d2 ∧ SortedIn lt a bn d2) ∧
    st = ⟨[.msl 3 b 0 N, .int .i64 (a' : Int), .int .i64 (bn' : Int), .int .i64 (lim' : Int), g, j5, j6, j7, .bool wb, j9, j10, j11, j12, .bool wp, j14, j15, j16, j17, j18, j19, j20, j21, j22, j23], h1, []⟩) ?_ (k := bn - a) ⟨a, bn, lim, true, true, h.ent, d, _, _, _, _, _, _, _, _, _, _, _, _, _, _, _, _, _, rfl, hn, hab, hb, hlim, hs.ent, Updw.refl _ _, hN, hB, fun d2 q1 q2 => ⟨q1, q2⟩, rfl⟩
  rintro k st ⟨a', bn', lim', wb, wp, h1, d1, j5, j6, j7, j9, j10, j11, j12, j14, j15, j16, j17, j18, j19, j20, j21, j22, j23, rfl, hn1, hab1, hb1, hlim1, hs1, hu1, hN1, hB1, hfin, rfl⟩
  have hb1' : bn' ≤ d1.size := by omega
  refine W_blk ?_
  refine W_seq ?_
  (refine W_opsM ?_; simp (disch := omega) only [wrap_i64, go_sem])
  have e0 : (bn' : Int) - a' = ((bn' - a' : Nat) : Int) := by omega
  rw [e0]
  refine W_seq ?_
  refine W_seq ?_
  (refine W_opsM ?_; simp only [go_sem])
  refine W_cndP rfl (fun hc1 => ?_) (fun hc1 => ?_)
  · refine W_seq ?_
    (refine W_opsM ?_; simp only [go_sem])
    refine WO_call rfl rfl ?_
    have hi := ins_ok hF (a := a') (bn := bn') hs1.own hs1.cmpAt hs1.dom hab1 hb1' (by omega)
    rw [hN1] at hi
    refine hi.mono ?_
    rintro _ h2 ⟨rfl, hu2, ho2⟩
    simp only [go_sem]
    refine W_ret ?_
    simp only [go_sem]
    obtain ⟨q1, q2⟩ := insertionSort_holds hsw d1 a' bn' hab1 hb1'
    exact hret _ h2 _ (hu1.trans hu2.weak) ho2 (hfin _ q1 q2).1 (hfin _ q1 q2).2
  (refine W_nop ?_; simp only [go_sem])
  refine W_seq ?_
  refine W_seq ?_
  (refine W_opsM ?_; simp only [go_sem])
  refine W_cndP rfl (fun hc2 => ?_) (fun hc2 => ?_)
  · refine W_seq ?_
    (refine W_opsM ?_; simp only [go_sem])
    refine WO_call rfl rfl ?_
    have hi := heap_ok hF hs1 (a := a') (bn := bn') (by omega) hb1'
    rw [hN1] at hi
    refine hi.mono ?_
    rintro _ h2 ⟨rfl, hu2, ho2⟩
    simp only [go_sem]
    refine W_ret ?_
    simp only [go_sem]
    obtain ⟨q1, q2⟩ := heapSort_holds hsw d1 a' bn' hab1 hb1'
    exact hret _ h2 _ (hu1.trans hu2.weak) ho2 (hfin _ q1 q2).1 (hfin _ q1 q2).2
  (refine W_nop ?_; simp only [go_sem])
  have hab2 : a' + 12 < bn' := by omega
  have hrec : PdqOk F g h0 b lt D N (bn' - a') := fun h d a bn lim k1 k2 => ih h d a bn lim k1 (by omega)
  refine W_seq ?_
  refine W_seq ?_
  (refine W_opsM ?_; simp only [go_sem])
  generalize hQ3 : blkQ 1 _ = Q3
  have hq3 : ∀ (e : Ex) (a2 bn2 lim2 : Nat) (wb' wp' : Bool) (h2 : Heap) (d2 : Array Int) (j5 j6 j7 j9 j10 j11 j12 j14 j15 j16 j17 j18 j19 j20 j21 j22 j23 : AV), (e = .normal ∨ e = .exit 1) → bn2 - a2 < bn' - a' → a2 ≤ bn2 → bn2 ≤ bn' → SIn F g h0 h2 b d2 lt D → Updw h.ent h2 b → d2.size = N → lim2 ≤ 16 → Below lt a2 bn2 d2 → (∀ d3, PermIn a2 bn2 d2 d3 → SortedIn lt a2 bn2 d3 → PermIn a' bn' d1 d3 ∧ SortedIn lt a' bn' d3) →
      Q3 e ⟨[.msl 3 b 0 N, .int .i64 (a2 : Int), .int .i64 (bn2 : Int), .int .i64 (lim2 : Int), g, j5, j6, j7, .bool wb', j9, j10, j11, j12, .bool wp', j14, j15, j16, j17, j18, j19, j20, j21, j22, j23], h2, []⟩ := by
    intro e a2 bn2 lim2 wb' wp' h2 d2 j5 j6 j7 j9 j10 j11 j12 j14 j15 j16 j17 j18 j19 j20 j21 j22 j23 he k1 k2 k3 k4 k5 k6 k7 k8 k9
    subst hQ3
    rcases he with rfl | rfl
    · simp only [go_sem]
      exact ⟨_, by omega, a2, bn2, lim2, wb', wp', h2, d2, _, _, _, _, _, _, _, _, _, _, _, _, _, _, _, _, _, rfl, by omega, k2, by omega, k7, k4, k5, k6, k8, fun d3 q1 q2 => hfin d3 (k9 d3 q1 q2).1 (k9 d3 q1 q2).2, rfl⟩
    · simp only [go_sem]
      exact ⟨_, by omega, a2, bn2, lim2, wb', wp', h2, d2, _, _, _, _, _, _, _, _, _, _, _, _, _, _, _, _, _, rfl, by omega, k2, by omega, k7, k4, k5, k6, k8, fun d3 q1 q2 => hfin d3 (k9 d3 q1 q2).1 (k9 d3 q1 q2).2, rfl⟩
  have hret3 : ∀ (vs : List AV) (h2 : Heap) (d2 : Array Int), Updw h.ent h2 b → Own .i64 h2 3 b d2.toList → PermIn a' bn' d1 d2 → SortedIn lt a' bn' d2 → Q3 .ret ⟨vs, h2, []⟩ := by
    intro vs h2 d2 k1 k2 k3 k4
    subst hQ3
    simp only [go_sem]
    exact hret vs h2 d2 k1 k2 (hfin d2 k3 k4).1 (hfin d2 k3 k4).2
  clear hQ3
  cases wb with
  | true =>
    refine W_cnd rfl (fun h => by cases h) (fun _ => ?_)
    (refine W_nop ?_; simp only [go_sem])
    refine pdq28 hF hsw hs1 hu1 hB1 hab2 hb1' hN1 hlim1 hrec ?_ hret3
    intro e a2 bn2 wb' wp' h2 d2 j5 j6 j7 j9 j10 j11 j12 j14 j15 j16 j17 j18 j19 j20 j21 j22 j23 he k1 k2 k3 k4 k5 k6 k7 k8
    exact hq3 e a2 bn2 lim' wb' wp' h2 d2 _ _ _ _ _ _ _ _ _ _ _ _ _ _ _ _ _ he k1 k2 k3 k4 k5 k6 hlim1 k7 k8
  | false =>
    refine W_cnd rfl (fun _ => ?_) (fun h => by cases h)
    refine W_seq ?_
    (refine W_opsM ?_; simp only [go_sem])
    refine WO_call rfl rfl ?_
    have hi := bp_ok hF hs1 (a := a') (bn := bn') (by omega) hb1' (by omega)
    rw [hN1] at hi
    refine hi.mono ?_
    rintro _ h2 ⟨rfl, hu2, d2, ho2, hp2⟩
    simp only [go_sem]
    (refine W_opsM ?_; simp (disch := omega) only [wrap_i64, go_sem])
    have e1 : (lim' : Int) - 1 = ((lim' - 1 : Nat) : Int) := by omega
    rw [e1]
    refine pdq28 hF hsw (hs1.updw hu2 ho2 hp2 hb1') (hu1.trans hu2) (hB1.perm hb1' hp2) hab2 (by rw [hp2.1]; exact hb1') (by rw [hp2.1]; exact hN1) (by omega) hrec ?_ ?_
    · intro e a2 bn2 wb' wp' h3 d3 j5 j6 j7 j9 j10 j11 j12 j14 j15 j16 j17 j18 j19 j20 j21 j22 j23 he k1 k2 k3 k4 k5 k6 k7 k8
      exact hq3 e a2 bn2 (lim' - 1) wb' wp' h3 d3 _ _ _ _ _ _ _ _ _ _ _ _ _ _ _ _ _ he k1 k2 k3 k4 k5 k6 (by omega) k7 (fun d4 q1 q2 => ⟨permIn_trans _ _ _ _ _ hp2 (k8 d4 q1 q2).1, (k8 d4 q1 q2).2⟩)
    · intro vs h3 d3 k1 k2 k3 k4
      exact hret3 vs h3 d3 k1 k2 (permIn_trans _ _ _ _ _ hp2 k3) k4
theorem sortOkN : SortOk F 1024 := by
  intro h b d g lt D ho hc hd hsw hz
  by_cases hz0 : d.size ≤ 12
  · exact sortOk12 hF h b d g lt D ho hc hd hsw hz0
  refine Kent76 hF ?_
  refine W_seq ?_
  (refine W_opsM ?_; simp only [go_sem])
  refine W_opsM ?_
  simp (disch := omega) only [go_sem, wrap_u64]
  refine WO_call rfl rfl ?_
  refine (lenx hF (x := d.size) (by omega) (by omega)).mono ?_
  rintro _ _ ⟨rfl, c, rfl, h1, h2⟩
  simp only [go_sem]
  refine WO_call rfl rfl ?_
  have hs : SIn F g h h.ent b d lt D := ⟨ho.ext (Ext.ent h), hc, hd, by omega, by rw [ent_next]; exact Nat.le_refl _, fun c _ _ => ent_get, ho.1⟩
  refine (pdq_ok hF hsw (show d.size < 65536 by omega) (d.size + 1) h.ent d 0 d.size c hs (by omega) (Nat.zero_le _) (Nat.le_refl _) rfl (by omega) (.inl rfl)).mono ?_
  rintro _ h2 ⟨rfl, hu, d2, ho2, hp, hso⟩
  simp only [go_sem]
  exact (fin_updwN hu ho.1 ho2 rfl).mono fun r h' ⟨q1, q2, q3⟩ => ⟨q1, q2, d2, q3, hp, hso⟩
end
end Go.Proofs.YtnkcimeebobjaaaDoor.fitRounds
namespace Go.Proofs.YtnkcimeebobjaaaDoor.fitRounds
/-! Sums over places. -/
def sm (n : Nat) (f : Nat → Int) : Int := ((List.range n).map f).sum
theorem sm_succ (n : Nat) (f : Nat → Int) : sm (n + 1) f = sm n f + f n := by simp [sm, List.range_succ, List.sum_append]
theorem sm_congr {n : Nat} {f g : Nat → Int} (h : ∀ i, i < n → f i = g i) : sm n f = sm n g := by
  induction n with
  | zero => rfl
  | succ n ih => rw [sm_succ, sm_succ, ih fun i hi => h i (by omega), h n (by omega)]
theorem sm_le {n : Nat} {f g : Nat → Int} (h : ∀ i, i < n → f i ≤ g i) : sm n f ≤ sm n g := by
  induction n with
  | zero => exact Int.le_refl _
  | succ n ih => rw [sm_succ, sm_succ]; have := ih fun i hi => h i (by omega); have := h n (by omega); omega
theorem sm_add (n : Nat) (f g : Nat → Int) : sm n (fun i => f i + g i) = sm n f + sm n g := by
  induction n with
  | zero => rfl
  | succ n ih => rw [sm_succ, sm_succ, sm_succ, ih]; omega
theorem sm_mul (n : Nat) (c : Int) (f : Nat → Int) : sm n (fun i => c * f i) = c * sm n f := by
  induction n with
  | zero => simp [sm]
  | succ n ih => rw [sm_succ, sm_succ, ih, Int.mul_add]
theorem sm_const (n : Nat) (c : Int) : sm n (fun _ => c) = c * n := by
  induction n with
  | zero => simp [sm]
  | succ n ih => rw [sm_succ, ih, Int.natCast_add, Int.mul_add]; simp
theorem sm_list (l : List Int) : l.sum = sm l.length (fun i => l.getD i 0) := by
  have : (List.range l.length).map (fun i => l.getD i 0) = l := by
    apply List.ext_getElem
    · simp
    · intro i h1 h2; simp [h2]
  rw [sm, this]
theorem sm_one {n a : Nat} (h : a < n) : sm n (fun i => if i = a then 1 else 0) = 1 := by
  induction n with
  | zero => omega
  | succ n ih =>
    rw [sm_succ]
    by_cases e : n = a
    · subst e
      have : sm n (fun i => if i = n then 1 else 0) = sm n (fun _ => 0) := sm_congr fun i hi => by rw [if_neg (by omega)]
      rw [this, sm_const, if_pos rfl]; simp
    · rw [ih (by omega), if_neg e]; rfl
theorem sm_ind : ∀ (T : List Nat) (n : Nat), T.Nodup → (∀ i ∈ T, i < n) → sm n (fun i => if i ∈ T then 1 else 0) = T.length
  | [], n, _, _ => by
    have : sm n (fun i => if i ∈ ([] : List Nat) then 1 else 0) = sm n (fun _ => 0) := sm_congr fun i _ => by simp
    rw [this, sm_const]; simp
  | a :: T, n, hn, hm => by
    rw [List.nodup_cons] at hn
    have h1 := sm_ind T n hn.2 fun i hi => hm i (List.mem_cons_of_mem _ hi)
    have h2 := sm_one (hm a List.mem_cons_self)
    have : sm n (fun i => if i ∈ a :: T then 1 else 0) = sm n (fun i => (if i = a then 1 else 0) + if i ∈ T then 1 else 0) := sm_congr fun i _ => by
      by_cases e : i = a
      · subst e; simp [hn.1]
      · simp [e]
    rw [this, sm_add, h1, h2, List.length_cons]; omega
theorem getD_eq {l : List Int} {i : Nat} (h : i < l.length) : l.getD i 0 = l[i] := by simp [h]
theorem map_sm (c : List Int) (f : Int → Int) : (c.map f).sum = sm c.length (fun i => f (c.getD i 0)) := by
  rw [sm_list, List.length_map]
  exact sm_congr fun i hi => by rw [getD_eq (by simpa using hi), getD_eq hi]; simp
section
variable {c : List Int} {t all least : Int} {out : List Int}
theorem shares_sum (hI : IsShares c t all least out) : out.sum = least * c.length + all := by
  obtain ⟨hl, T, h1, h2, h3, h4, h5⟩ := hI
  have e : out.sum = sm c.length (fun i => (least + all * c.getD i 0 / t) + if i ∈ T then 1 else 0) := by
    rw [sm_list, hl]
    exact sm_congr fun i hi => by rw [getD_eq (by omega), getD_eq hi, h4 i (by omega) hi]
  rw [e, sm_add, sm_add, sm_ind T _ h1 h2, sm_const, h3, map_sm]
  omega
theorem shares_ge (hI : IsShares c t all least out) (hc : ∀ x ∈ c, 0 ≤ x) (ht : 0 < t) (ha : 0 ≤ all) : ∀ x ∈ out, least ≤ x := by
  obtain ⟨hl, T, h1, h2, h3, h4, h5⟩ := hI
  intro x hx
  obtain ⟨i, hi, rfl⟩ := List.getElem_of_mem hx
  rw [h4 i hi (by omega)]
  have := Int.ediv_nonneg (Int.mul_nonneg ha (hc _ (List.getElem_mem (show i < c.length by omega)))) (Int.le_of_lt ht)
  split <;> omega
theorem shares_mono (hI : IsShares c t all least out) (hc : ∀ x ∈ c, 0 ≤ x) (ht : 0 < t) (ha : 0 ≤ all) (_hsum : c.sum = t) {i j : Nat} (hi : i < out.length) (hj : j < out.length) (hij : c[j]'(by have := hI.len; omega) < c[i]'(by have := hI.len; omega)) : out[j] ≤ out[i] := by
  obtain ⟨hl, T, h1, h2, h3, h4, h5⟩ := hI
  rw [h4 i hi (by omega), h4 j hj (by omega)]
  have hci := hc _ (List.getElem_mem (show i < c.length by omega))
  have hcj := hc _ (List.getElem_mem (show j < c.length by omega))
  have h6 : all * c[j] ≤ all * c[i] := Int.mul_le_mul_of_nonneg_left (Int.le_of_lt hij) ha
  have h7 : all * c[j] / t ≤ all * c[i] / t := Int.ediv_le_ediv ht h6
  by_cases hjT : j ∈ T
  · by_cases hiT : i ∈ T
    · rw [if_pos hjT, if_pos hiT]; omega
    · rw [if_pos hjT, if_neg hiT]
      have h8 := h5 j i hjT (by omega) hiT
      rw [ltG_iff] at h8
      simp only [Int.toNat_natCast] at h8
      rw [getD_eq (by simp; omega), getD_eq (by simp; omega)] at h8
      simp only [List.getElem_map] at h8
      rcases Int.lt_or_le (all * c[j] / t) (all * c[i] / t) with h9 | h9
      · omega
      · exfalso
        have h10 : all * c[i] / t = all * c[j] / t := by omega
        rw [h10] at h8
        have h11 : all * c[i] = all * c[j] := by omega
        have h12 : all * (c[i] - c[j]) = 0 := by rw [Int.mul_sub]; omega
        rcases Int.mul_eq_zero.1 h12 with h13 | h13
        · subst h13
          have : (c.map fun c => 0 * c / t).sum = 0 := by
            rw [map_sm]
            have : sm c.length (fun i => 0 * c.getD i 0 / t) = sm c.length (fun _ => 0) := sm_congr fun i _ => by simp
            rw [this, sm_const]; simp
          rw [this] at h3
          have : T.length = 0 := by omega
          rw [List.length_eq_zero_iff] at this
          rw [this] at hjT; cases hjT
        · omega
  · rw [if_neg hjT]
    split <;> omega
end
/-- one place -/
theorem point_out {t ρ lam y : Int} (h0 : 0 ≤ ρ) (h1 : -t ≤ lam) (h2 : lam ≤ t - 2 * ρ) : ρ + lam * y ≤ max (t * y - ρ) (0 - (t * y - ρ)) := by
  rcases Int.lt_or_le 0 y with hy | hy
  · have : (t - lam) * 1 ≤ (t - lam) * y := Int.mul_le_mul_of_nonneg_left hy (by omega)
    simp only [Int.sub_mul, Int.mul_one] at this
    omega
  · have : 0 ≤ (t + lam) * (-y) := Int.mul_nonneg (by omega) (by omega)
    rw [Int.mul_neg, Int.add_mul] at this
    omega
theorem point_in {t ρ lam y : Int} (h1 : t - 2 * ρ ≤ lam) (h2 : lam ≤ t) (h3 : -t ≤ lam) : (t - ρ) + lam * (y - 1) ≤ max (t * y - ρ) (0 - (t * y - ρ)) := by
  rcases Int.lt_or_le 0 y with hy | hy
  · have : 0 ≤ (t - lam) * (y - 1) := Int.mul_nonneg (by omega) (by omega)
    rw [Int.sub_mul, Int.mul_sub, Int.mul_sub] at this
    rw [Int.mul_sub]
    omega
  · have : 0 ≤ (t + lam) * (-y) := Int.mul_nonneg (by omega) (by omega)
    rw [Int.mul_neg, Int.add_mul] at this
    rw [Int.mul_sub]
    omega
theorem exists_lam (t : Int) (r : Nat → Int) (n : Nat) (T : List Nat) (hr : ∀ i, i < n → 0 ≤ r i ∧ r i < t) (hT : ∀ i ∈ T, i < n) (ho : ∀ i j, i ∈ T → j < n → j ∉ T → r j ≤ r i) (ht : 0 < t) :
    ∃ lam, -t ≤ lam ∧ lam ≤ t ∧ (∀ i ∈ T, t - 2 * r i ≤ lam) ∧ ∀ j, j < n → j ∉ T → lam ≤ t - 2 * r j := by
  have key : ∀ T : List Nat, (∀ i ∈ T, i < n) → T ≠ [] → ∃ m ∈ T, ∀ i ∈ T, r m ≤ r i := by
    intro T
    induction T with
    | nil => intro _ h; exact absurd rfl h
    | cons a T ih =>
      intro hT _
      by_cases hT0 : T = []
      · subst hT0; exact ⟨a, List.mem_cons_self, fun i hi => by rw [List.mem_singleton] at hi; subst hi; exact Int.le_refl _⟩
      · obtain ⟨m, hm, h⟩ := ih (fun i hi => hT i (List.mem_cons_of_mem _ hi)) hT0
        rcases Int.le_total (r a) (r m) with h1 | h1
        · exact ⟨a, List.mem_cons_self, fun i hi => by
            rcases List.mem_cons.1 hi with rfl | hi
            · exact Int.le_refl _
            · exact Int.le_trans h1 (h i hi)⟩
        · exact ⟨m, List.mem_cons_of_mem _ hm, fun i hi => by
            rcases List.mem_cons.1 hi with rfl | hi
            · exact h1
            · exact h i hi⟩
  by_cases hT0 : T = []
  · subst hT0
    exact ⟨-t, Int.le_refl _, by omega, (fun i hi => by cases hi), fun j hj _ => by have := hr j hj; omega⟩
  · obtain ⟨m, hm, h⟩ := key T hT hT0
    have hrm := hr m (hT m hm)
    exact ⟨t - 2 * r m, by omega, by omega, fun i hi => by have := h i hi; omega, fun j hj hn => by have := ho m j hm hj hn; omega⟩
/-- THE STAGE'S THEOREM: the shares are nearest to what is due -/
theorem shares_best {c : List Int} {t least grain : Int} {out w : List Int} (hI : IsShares c t (grain - least * c.length) least out) (_hc : ∀ x ∈ c, 0 ≤ x) (ht : 0 < t) (hsum : c.sum = t) (hw : w.length = c.length) (hws : w.sum = grain) : dist c out grain least ≤ dist c w grain least := by
  have hos := shares_sum hI
  obtain ⟨hl, T, h1, h2, h3, h4, h5⟩ := hI
  generalize hA : grain - least * (c.length : Int) = all at *
  have hd : ∀ u : List Int, u.length = c.length → dist c u grain least = sm c.length (fun i => dst t all least (c.getD i 0) (u.getD i 0)) := by
    intro u hu
    unfold dist
    rw [sm_list, hsum, hA]
    have : (dists c u t all least).length = c.length := by simp [dists, hu]
    rw [this]
    exact sm_congr fun i hi => by rw [getD_eq (by omega), getD_eq hi, getD_eq (by omega)]; simp [dists]
  rw [hd out hl, hd w hw]
  obtain ⟨lam, l1, l2, l3, l4⟩ := exists_lam t (fun i => all * c.getD i 0 - all * c.getD i 0 / t * t) c.length T (fun i hi => by
      have h1 := Int.emod_add_mul_ediv (all * c.getD i 0) t
      have h2 := Int.emod_nonneg (all * c.getD i 0) (show t ≠ 0 by omega)
      have h3 := Int.emod_lt_of_pos (all * c.getD i 0) ht
      rw [Int.mul_comm t] at h1
      omega) h2 (fun i j hi hj hn => by
      have h6 := h5 i j hi hj hn
      rw [ltG_iff] at h6
      simp only [Int.toNat_natCast] at h6
      have hi' := h2 i hi
      rw [getD_eq (by simp; omega), getD_eq (by simp; omega)] at h6
      simp only [List.getElem_map] at h6
      rw [getD_eq hi', getD_eq hj]
      omega) ht
  have key : sm c.length (fun i => dst t all least (c.getD i 0) (out.getD i 0) + lam * (w.getD i 0 - out.getD i 0)) ≤ sm c.length (fun i => dst t all least (c.getD i 0) (w.getD i 0)) := by
    refine sm_le fun i hi => ?_
    have h6 := h4 i (by omega) hi
    rw [getD_eq (show i < out.length by omega), getD_eq (show i < w.length by omega)]
    have l3 := l3 i
    have l4 := l4 i hi
    rw [getD_eq hi] at *
    generalize out[i] = s at *
    generalize c[i] = x at *
    generalize w[i]'(by omega) = u at *
    have e1 := Int.emod_add_mul_ediv (all * x) t
    have e2 := Int.emod_nonneg (all * x) (show t ≠ 0 by omega)
    have e3 := Int.emod_lt_of_pos (all * x) ht
    rw [Int.mul_comm t] at e1
    have hu : t * (u - least) - all * x = t * (u - least - all * x / t) - (all * x - all * x / t * t) := by
      rw [Int.mul_sub t (u - least), Int.mul_comm t (all * x / t)]; omega
    generalize hρ : all * x - all * x / t * t = ρ at *
    generalize hq : all * x / t = q at *
    by_cases hiT : i ∈ T
    · rw [if_pos hiT] at h6
      have hs : t * (s - least) - all * x = t - ρ := by
        rw [h6, show least + q + 1 - least = q + 1 by omega, Int.mul_add, Int.mul_one, Int.mul_comm t q]; omega
      have := point_in (t := t) (ρ := ρ) (lam := lam) (y := u - least - q) (l3 hiT) l2 l1
      unfold dst
      rw [hs, hu, show u - s = u - least - q - 1 by omega]
      omega
    · rw [if_neg hiT] at h6
      have hs : t * (s - least) - all * x = -ρ := by
        rw [h6, show least + q + 0 - least = q by omega, Int.mul_comm t q]; omega
      have := point_out (t := t) (ρ := ρ) (lam := lam) (y := u - least - q) (by omega) l1 (l4 hiT)
      unfold dst
      rw [hs, hu, show u - s = u - least - q by omega]
      omega
  rw [sm_add, sm_mul] at key
  have e : sm c.length (fun i => w.getD i 0 - out.getD i 0) = 0 := by
    have h6 := sm_list w
    have h7 := sm_list out
    rw [hw] at h6
    rw [hl] at h7
    have : sm c.length (fun i => w.getD i 0 - out.getD i 0) = sm c.length (fun i => w.getD i 0 + (-1) * out.getD i 0) := sm_congr fun i _ => by omega
    rw [this, sm_add, sm_mul, ← h6, ← h7]
    omega
  rw [e, Int.mul_zero] at key
  omega
end Go.Proofs.YtnkcimeebobjaaaDoor.fitRounds
namespace Go.Proofs.YtnkcimeebobjaaaDoor.fitRounds
open Hx Go
set_option maxRecDepth 100000
attribute [local irreducible] cSeq cOps cPre cCnd cBlk cLoop cScope cExit cRet cNop cRng Heap.ent Heap.setLow
/-- what is given out is given once -/
theorem shares_uniq {c out out' : List Int} {t all least : Int} (h1 : IsShares c t all least out) (h2 : IsShares c t all least out') : out = out' := by
  obtain ⟨T, n1, b1, l1, o1, s1⟩ := h1.pick
  obtain ⟨S, n2, b2, l2, o2, s2⟩ := h2.pick
  have hsw := ltG_swo (c.map fun c => all * c - all * c / t * t)
  have hsub : ∀ (T S : List Nat), T.Nodup → S.Nodup → (∀ i ∈ T, i < c.length) → (∀ i ∈ S, i < c.length) → T.length = S.length →
      (∀ i j, i ∈ T → j < c.length → j ∉ T → ltG (c.map fun c => all * c - all * c / t * t) i j = true) → (∀ i j, i ∈ S → j < c.length → j ∉ S → ltG (c.map fun c => all * c - all * c / t * t) i j = true) → ∀ i, i ∈ T → i ∈ S := by
    intro T S n1 n2 b1 b2 hl s1 s2 i hi
    refine Classical.byContradiction fun hni => ?_
    have hall : ∀ j, j ∈ S → j ∈ T := by
      intro j hj
      refine Classical.byContradiction fun hnj => ?_
      have a1 := s1 i j hi (b2 j hj) hnj
      have a2 := s2 j i hj (b1 i hi) hni
      have a3 := hsw.trans _ _ _ a1 a2
      rw [hsw.irrefl] at a3
      cases a3
    have e1 := sm_ind T c.length n1 b1
    have e2 := sm_ind (i :: S) c.length (List.nodup_cons.2 ⟨hni, n2⟩) (fun j hj => by
      rcases List.mem_cons.1 hj with rfl | hj
      · exact b1 _ hi
      · exact b2 _ hj)
    have e3 : sm c.length (fun j => if j ∈ i :: S then 1 else 0) ≤ sm c.length (fun j => if j ∈ T then (1 : Int) else 0) := sm_le fun j _ => by
      by_cases hj : j ∈ i :: S
      · rw [if_pos hj, if_pos]
        · exact Int.le_refl _
        · rcases List.mem_cons.1 hj with rfl | hj
          · exact hi
          · exact hall j hj
      · rw [if_neg hj]; split <;> omega
    rw [e1, e2, List.length_cons] at e3
    omega
  have hl : T.length = S.length := by omega
  have hTS : ∀ i, i ∈ T ↔ i ∈ S := fun i => ⟨hsub T S n1 n2 b1 b2 hl s1 s2 i, hsub S T n2 n1 b2 b1 hl.symm s2 s1 i⟩
  refine List.ext_getElem (by rw [h1.len, h2.len]) fun i hi hi' => ?_
  have hic : i < c.length := by rw [← h1.len]; exact hi
  rw [o1 i hi hic, o2 i hi' hic]
  by_cases hT : i ∈ T
  · rw [if_pos hT, if_pos ((hTS i).1 hT)]
  · rw [if_neg hT, if_neg (fun h => hT ((hTS i).2 h))]
end Go.Proofs.YtnkcimeebobjaaaDoor.fitRounds
namespace Go.Proofs.YtnkcimeebobjaaaDoor.fitRounds
open Hx Go
set_option maxRecDepth 100000
attribute [local irreducible] cSeq cOps cPre cCnd cBlk cLoop cScope cExit cRet cNop cRng Heap.ent Heap.setLow
section
variable {F : Nat → Nat → CallFn} (hF : IsEv KC Kt F)
include hF
theorem eq_ok {h : Heap} {v w : AV} {l m : List Int} (hv : Ints .i64 h 3 v l) (hw : Ints .i64 h 3 w m) (hlm : l = m) (hn : l.length < 1000000) : WV F (.fn (.func 13) [] []) [v, w] h (fun r h' => h' = h ∧ r = .val (.bool true)) := by
  subst hlm
  have hv' := hv.ext (Ext.ent h)
  have hw' := hw.ext (Ext.ent h)
  refine Kent13 hF ?_
  refine W_seq ?_
  (refine W_opsM ?_; simp only [go_sem])
  refine W_seq ?_
  refine W_seq ?_
  (refine W_opsM ?_; simp only [go_sem, hv'.lens, hw'.lens])
  refine W_cndP rfl (fun hc => absurd rfl hc) (fun hc => ?_)
  (refine W_nop ?_; simp only [go_sem])
  refine W_seq ?_
  refine W_seq ?_
  (refine W_opsM ?_; simp only [go_sem, hv'.lens])
  refine W_blk ?_
  refine W_loop (fun k st => ∃ (i : Nat) (j2 j5 j6 j7 : AV), k = l.length - i ∧ i ≤ l.length ∧ st = ⟨[v, w, j2, .int .i64 (i : Int), .int .i64 (l.length : Int), j5, j6, j7, .bool false], h.ent, []⟩) ?_ (k := l.length) ⟨0, _, _, _, _, rfl, Nat.zero_le _, rfl⟩
  rintro k st ⟨i, j2, j5, j6, j7, rfl, hi, rfl⟩
  refine W_seq ?_
  (refine W_opsM ?_; simp only [go_sem])
  refine W_seq ?_
  refine W_cndP rfl (fun hc1 => ?_) (fun hc1 => ?_)
  · (refine W_nop ?_; simp only [go_sem])
    refine W_seq ?_
    refine W_blk ?_
    refine W_seq ?_
    (refine W_opsM ?_; simp only [go_sem])
    refine W_seq ?_
    have hi' : i < l.length := by omega
    obtain ⟨p, g1, g2⟩ := hv'.at hi'
    obtain ⟨q, g3, g4⟩ := hw'.at hi'
    (refine W_pre ?_; simp (disch := omega) only [go_sem, g1, g2, g3, g4])
    refine W_cndP rfl (fun hc => absurd rfl hc) (fun hc => ?_)
    (refine W_nop ?_; simp only [go_sem])
    (refine W_opsM ?_; simp (disch := omega) only [wrap_i64, go_sem])
    exact ⟨_, by omega, i + 1, _, _, _, _, rfl, by omega, rfl⟩
  · (refine W_exit ?_; simp only [go_sem])
    refine W_seq ?_
    (refine W_opsM ?_; simp only [go_sem])
    refine W_ret ?_
    exact fin_out ent_low_le rfl rfl rfl ⟨rfl, rfl⟩
theorem counts_ok {h : Heap} {v : AV} {l : List Int} (hv : Ints .i64 h 3 v l) (hn : l.length < 1000000) : WV F (.fn (.func 48) [] []) [v] h (fun r h' => h' = h ∧ ∃ c : Bool, r = .val (.bool c) ∧ (c = true ↔ 1 ≤ l.length ∧ l.length ≤ 1024 ∧ ∀ x ∈ l, 0 ≤ x ∧ x ≤ 1099511627776)) := by
  have hv' := hv.ext (Ext.ent h)
  refine Kent48 hF ?_
  refine W_seq ?_
  (refine W_opsM ?_; simp only [go_sem])
  refine W_seq ?_
  refine W_seq ?_
  (refine W_opsM ?_; simp only [go_sem])
  refine W_blk ?_
  refine W_loop (fun k st => ∃ (i : Nat) (j2 j3 : AV), k = l.length - i ∧ i ≤ l.length ∧ (∀ x ∈ l.take i, 0 ≤ x ∧ x ≤ 1099511627776) ∧ st = ⟨[v, .int .i64 (i : Int), j2, j3, .bool false], h.ent, []⟩) ?_ (k := l.length) ⟨0, _, _, rfl, Nat.zero_le _, by simp, rfl⟩
  rintro k st ⟨i, j2, j3, rfl, hi, hall, rfl⟩
  refine W_seq ?_
  refine W_seq ?_
  (refine W_opsM ?_; simp only [go_sem, hv'.lens])
  refine W_cndP rfl (fun hc1 => ?_) (fun hc1 => ?_)
  · (refine W_nop ?_; simp only [go_sem])
    refine W_seq ?_
    refine W_blk ?_
    have hi' : i < l.length := by omega
    obtain ⟨p, g1, g2⟩ := hv'.at hi'
    have hbad : ∀ (j2 : AV), ¬ (0 ≤ l[i] ∧ l[i] ≤ 1099511627776) → W F (cCnd (oVar 3) Ko48_16 cNop) ⟨[v, .int .i64 (i : Int), j2, .bool true, .bool false], h.ent, []⟩ (blkQ 1 (seqQ F Ko48_18 (loopQ (fun k st => ∃ (i : Nat) (j2 j3 : AV), k = l.length - i ∧ i ≤ l.length ∧ (∀ x ∈ l.take i, 0 ≤ x ∧ x ≤ 1099511627776) ∧ st = ⟨[v, .int .i64 (i : Int), j2, j3, .bool false], h.ent, []⟩) (l.length - i) (blkQ 0 (seqQ F Ko48_19 (finQ Ki48 h fun r h' => h' = h ∧ ∃ c : Bool, r = .val (.bool c) ∧ (c = true ↔ 1 ≤ l.length ∧ l.length ≤ 1024 ∧ ∀ x ∈ l, 0 ≤ x ∧ x ≤ 1099511627776))))))) := by
      intro j2 hb
      refine W_cnd rfl (fun _ => ?_) (fun h => by cases h)
      refine W_seq ?_
      (refine W_opsM ?_; simp only [go_sem])
      refine W_ret ?_
      simp only [go_sem]
      exact fin_out ent_low_le rfl rfl rfl ⟨rfl, false, rfl, by simp only [Bool.false_eq_true, false_iff]; exact fun h => hb (h.2.2 _ (List.getElem_mem hi'))⟩
    refine W_seq ?_
    by_cases c1 : l[i] < 0
    · (refine W_opsM ?_; simp only [go_sem, g1, g2, c1, decide_true])
      exact hbad _ (by omega)
    · by_cases c2 : l[i] > 1099511627776
      · (refine W_opsM ?_; simp only [go_sem, g1, g2, c1, c2, decide_true, decide_false])
        exact hbad _ (by omega)
      · (refine W_opsM ?_; simp only [go_sem, g1, g2, c1, c2, decide_false])
        refine W_cnd rfl (fun h => by cases h) (fun _ => ?_)
        (refine W_nop ?_; simp only [go_sem])
        (refine W_opsM ?_; simp (disch := omega) only [wrap_i64, go_sem])
        refine ⟨_, by omega, i + 1, _, _, rfl, by omega, fun x hx => ?_, rfl⟩
        rw [List.take_succ_eq_append_getElem hi', List.mem_append, List.mem_singleton] at hx
        rcases hx with hx | rfl
        · exact hall x hx
        · omega
  · (refine W_exit ?_; simp only [go_sem])
    have : i = l.length := by omega
    subst this
    rw [List.take_length] at hall
    refine W_seq ?_
    by_cases c1 : (l.length : Int) ≥ 1
    · (refine W_opsM ?_; simp only [go_sem, hv'.lens, c1, decide_true])
      refine W_ret ?_
      exact fin_out ent_low_le rfl rfl rfl ⟨rfl, _, rfl, by rw [decide_eq_true_eq]; exact ⟨fun h => ⟨by omega, by omega, hall⟩, fun h => by have := h.2.1; omega⟩⟩
    · (refine W_opsM ?_; simp only [go_sem, hv'.lens, c1, decide_false])
      refine W_ret ?_
      exact fin_out ent_low_le rfl rfl rfl ⟨rfl, _, rfl, by simp only [Bool.false_eq_true, false_iff]; intro h; have := h.1; omega⟩
end
end Go.Proofs.YtnkcimeebobjaaaDoor.fitRounds
namespace Go.Proofs.YtnkcimeebobjaaaDoor.fitRounds
open Hx Go
set_option maxRecDepth 100000
attribute [local irreducible] cSeq cOps cPre cCnd cBlk cLoop cScope cExit cRet cNop cRng Heap.ent Heap.setLow
section
variable {F : Nat → Nat → CallFn} (hF : IsEv KC Kt F)
include hF
theorem due_ok {h : Heap} {v : AV} {l : List Int} {grain least : Int} (hv : Ints .i64 h 3 v l) (hgd : Good l grain least) : WV F (.fn (.func 49) [] []) [v, .int .i64 grain, .int .i64 least] h (fun r h' => ∃ w, r = .val (.tup [w, .int .i64 (ts l), .int .i64 (grain - least * l.length)]) ∧ Grow h h' ∧ Ints .i64 h' 3 w (cs l)) := by
  have hv' := hv.ext (Ext.ent h)
  obtain ⟨hn, hn', hl, hg1, hg2, hle, hal⟩ := hgd
  have hsum := sum_le hl
  have hl0 : ∀ x ∈ l, 0 ≤ x := fun x hx => (hl x hx).1
  have hm0 : 0 ≤ least * (l.length : Int) := Int.mul_nonneg hle (by omega)
  refine Kent49 hF ?_
  refine W_seq ?_
  (refine W_opsM ?_; simp only [go_sem])
  refine W_seq ?_
  (refine W_opsM ?_; simp only [go_sem])
  refine W_seq ?_
  refine W_seq ?_
  (refine W_opsM ?_; simp only [go_sem])
  refine W_blk ?_
  refine W_loop (fun k s => ∃ (i : Nat) (j4 j6 j7 j8 j9 : AV), k = l.length - i ∧ i ≤ l.length ∧ s = ⟨[v, .int .i64 grain, .int .i64 least, .int .i64 (i : Int), j4, .int .i64 (l.take i).sum, j6, j7, j8, j9, .nils, .int .i64 0, .int .i64 0], h.ent, []⟩) ?_ (k := l.length) ⟨0, _, _, _, _, _, rfl, Nat.zero_le _, rfl⟩
  rintro k s ⟨i, j4, j6, j7, j8, j9, rfl, hi, rfl⟩
  refine W_seq ?_
  refine W_seq ?_
  (refine W_opsM ?_; simp only [go_sem, hv'.lens])
  refine W_cndP rfl (fun hc1 => ?_) (fun hc1 => ?_)
  · (refine W_nop ?_; simp only [go_sem])
    refine W_seq ?_
    refine W_blk ?_
    have hi' : i < l.length := by omega
    obtain ⟨p, h1, h2⟩ := hv'.at hi'
    have b1 := hl _ (List.getElem_mem hi')
    have b2 := sum_take hi'
    have b3 := sum_take_le hl0 (i + 1)
    have b4 := sum_pos (l := l.take i) fun x hx => hl0 x (List.mem_of_mem_take hx)
    (refine W_opsM ?_; simp (disch := omega) only [wrap_i64, go_sem, h1, h2])
    (refine W_opsM ?_; simp (disch := omega) only [wrap_i64, go_sem])
    exact ⟨_, by omega, i + 1, _, _, _, _, _, rfl, by omega, by rw [b2]; rfl⟩
  · (refine W_exit ?_; simp only [go_sem])
    have : i = l.length := by omega
    subst this
    rw [List.take_length]
    refine W_seq ?_
    refine W_seq ?_
    (refine W_opsM ?_; simp only [go_sem])
    refine W_cndP rfl (fun hc2 => ?_) (fun hc2 => ?_)
    · refine W_seq ?_
      (refine W_opsM ?_; simp (disch := omega) only [wrap_i64, go_sem, hv'.lens])
      refine W_ret ?_
      simp only [go_sem]
      have e1 : ts l = l.sum := by unfold ts; rw [if_neg (by omega)]
      have e2 : cs l = l := by unfold cs; rw [if_neg (by omega)]
      rw [e1, e2]
      refine fin_new (l := [v, .int .i64 l.sum, .int .i64 (grain - least * l.length)]) (Ext.refl _) ent_low_le rfl rfl (fun hg => ⟨v, rfl, hg, hv.ext hg.ext⟩) (fun _ => ⟨v, rfl, Grow.refl _, hv⟩)
    · (refine W_nop ?_; simp only [go_sem])
      have hz : l.sum = 0 := by omega
      have e1 : ts l = l.length := by unfold ts; rw [if_pos hz]
      have e2 : cs l = List.replicate l.length 1 := by unfold cs; rw [if_pos hz]
      refine W_seq ?_
      (refine W_opsM ?_; simp only [go_sem])
      refine W_seq ?_
      refine W_seq ?_
      (refine W_opsM ?_; simp only [go_sem])
      refine W_blk ?_
      refine W_loop (fun k s => ∃ (i : Nat) (h1 : Heap) (C : AV) (j3 j4 j5 j6 j8 : AV), k = l.length - i ∧ i ≤ l.length ∧ Ext h.ent h1 ∧ h.next ≤ h1.low ∧ OwnN .i64 h.ent.next h1 3 C (List.replicate i 1) ∧ s = ⟨[v, .int .i64 grain, .int .i64 least, j3, j4, j5, j6, .int .i64 (i : Int), j8, C, .nils, .int .i64 0, .int .i64 0], h1, []⟩) ?_ (k := l.length) ⟨0, _, _, _, _, _, _, _, rfl, Nat.zero_le _, Ext.refl _, ent_low_le, .inl ⟨rfl, rfl⟩, rfl⟩
      rintro k s ⟨i, h1, C, j3, j4, j5, j6, j8, rfl, hi, he1, hl1, hC, rfl⟩
      refine W_seq ?_
      refine W_seq ?_
      (refine W_opsM ?_; simp only [go_sem, hv'.lens])
      refine W_cndP rfl (fun hc3 => ?_) (fun hc3 => ?_)
      · (refine W_nop ?_; simp only [go_sem])
        refine W_seq ?_
        refine W_blk ?_
        have hcl : (List.replicate i (1 : Int)).length = i := by simp
        obtain ⟨C', h', x, a1, a2, a3, a4, a5, _⟩ := hC.app1 1 8 he1 (by rw [ent_next]; exact hl1) (by omega) (by omega)
        (refine W_opsM ?_; simp (disch := omega) only [go_sem, a1])
        (refine W_opsM ?_; simp (disch := omega) only [wrap_i64, go_sem])
        exact ⟨_, by omega, i + 1, _, _, _, _, _, _, _, rfl, by omega, a3, by rw [ent_next] at a4; exact a4, by rw [List.replicate_succ']; exact a2, rfl⟩
      · (refine W_exit ?_; simp only [go_sem])
        have : i = l.length := by omega
        subst this
        refine W_seq ?_
        (refine W_opsM ?_; simp (disch := omega) only [wrap_i64, go_sem, hv'.lens])
        refine W_ret ?_
        rw [← e2] at hC
        rw [e1]
        have hne : cs l ≠ [] := fun h => by have := cs_len l; rw [h] at this; simp at this; omega
        obtain ⟨b, rfl, ho, hb⟩ := hC.own hne
        refine fin_new (l := [.msl 3 b 0 (cs l).length, .int .i64 l.length, .int .i64 (grain - least * l.length)]) he1 hl1 rfl rfl (fun hg => ⟨_, rfl, hg, ho.lower.ints⟩) (fun h => by cases h)
end
end Go.Proofs.YtnkcimeebobjaaaDoor.fitRounds
namespace Go.Proofs.YtnkcimeebobjaaaDoor.fitRounds
open Hx Go
set_option maxRecDepth 100000
attribute [local irreducible] cSeq cOps cPre cCnd cBlk cLoop cScope cExit cRet cNop cRng Heap.ent Heap.setLow
section
variable {F : Nat → Nat → CallFn} (hF : IsEv KC Kt F)
include hF
theorem fair_ok {h : Heap} {v : AV} {l : List Int} {grain least : Int} (hv : Ints .i64 h 3 v l) (hn : l.length < 1000000) : WV F (.fn (.func 11) [] []) [v, .int .i64 grain, .int .i64 least] h (fun r h' => h' = h ∧ ∃ c : Bool, r = .val (.bool c) ∧ (c = true ↔ Good l grain least)) := by
  have hv' := hv.ext (Ext.ent h)
  refine Kent11 hF ?_
  refine W_seq ?_
  (refine W_opsM ?_; simp only [go_sem])
  refine W_seq ?_
  (refine W_opsM ?_; simp only [go_sem])
  refine WO_call rfl rfl ?_
  refine (counts_ok hF hv' hn).mono ?_
  rintro _ h1 ⟨rfl, c, rfl, hc⟩
  have bad : ∀ (vs : List AV), ¬ Good l grain least → mapO (resultA vs h.ent) Ki11.res = some [.bool false] → finQ Ki11 h (fun r h' => h' = h ∧ ∃ c : Bool, r = .val (.bool c) ∧ (c = true ↔ Good l grain least)) .ret ⟨vs, h.ent, []⟩ := by
    intro vs hb hr
    exact fin_out ent_low_le hr rfl rfl ⟨rfl, false, rfl, by simp only [Bool.false_eq_true, false_iff]; exact hb⟩
  cases c with
  | false =>
    ((try rw [callQ_val]); repeat ((first | rw [WO_a] | rw [WO_g]); simp (disch := omega) only [guardT, OW_some, bifF, obS, oStkE, oConE, getL0, getLS, aMvE, aPickE, pickB, rOE, putV0, putVS, set10, set1S, killO0, WO_nilE]))
    refine W_ret ?_
    refine bad _ (fun hg => ?_) rfl
    have := hc.2 ⟨hg.1, hg.2.1, hg.2.2.1⟩
    cases this
  | true =>
    obtain ⟨k1, k2, k3⟩ := hc.1 rfl
    by_cases g1 : grain ≥ 1
    · by_cases g2 : grain ≤ 720
      · by_cases g3 : least ≥ 0
        · by_cases g4 : least ≤ grain
          · have hm := mul_bd (a := least) (b := (l.length : Int)) (A := 720) (B := 1024) (by omega) (by omega) (by omega) (by omega)
            have hm0 : 0 ≤ least * (l.length : Int) := Int.mul_nonneg g3 (by omega)
            ((try rw [callQ_val]); repeat ((first | rw [WO_a] | rw [WO_g]); simp (disch := omega) only [g1, g2, g3, g4, decide_true, hv'.lens, wrap_i64, guardT, OW_some, bifT, obS, oStkE, oVarE, oConE, getL0, getLS, aMvE, aBinE, aPickE, pickB, aLensE, rOE, putV0, putVS, set10, set1S, killO0, bin_geq, bin_leq, bin_mul, decide_true, WO_nilE]))
            refine W_ret ?_
            exact fin_out ent_low_le rfl rfl rfl ⟨rfl, _, rfl, by rw [decide_eq_true_eq]; exact ⟨fun h => ⟨k1, k2, k3, g1, g2, g3, h⟩, fun h => h.2.2.2.2.2.2⟩⟩
          · ((try rw [callQ_val]); repeat ((first | rw [WO_a] | rw [WO_g]); simp (disch := omega) only [g1, g2, g3, g4, decide_true, decide_false, guardT, OW_some, bifT, bifF, obS, oStkE, oVarE, oConE, getL0, getLS, aMvE, aBinE, aPickE, pickB, rOE, putV0, putVS, set10, set1S, killO0, bin_geq, bin_leq, decide_true, decide_false, WO_nilE]))
            refine W_ret ?_
            refine bad _ (fun hg => ?_) rfl
            have h1 := hg.2.2.2.2.2.2
            have h2 : least * 1 ≤ least * (l.length : Int) := Int.mul_le_mul_of_nonneg_left (by omega) g3
            omega
        · ((try rw [callQ_val]); repeat ((first | rw [WO_a] | rw [WO_g]); simp (disch := omega) only [g1, g2, g3, decide_true, decide_false, guardT, OW_some, bifT, bifF, obS, oStkE, oVarE, oConE, getL0, getLS, aMvE, aBinE, aPickE, pickB, rOE, putV0, putVS, set10, set1S, killO0, bin_geq, bin_leq, decide_true, decide_false, WO_nilE]))
          refine W_ret ?_
          exact bad _ (fun hg => g3 hg.2.2.2.2.2.1) rfl
      · ((try rw [callQ_val]); repeat ((first | rw [WO_a] | rw [WO_g]); simp (disch := omega) only [g1, g2, decide_true, decide_false, guardT, OW_some, bifT, bifF, obS, oStkE, oVarE, oConE, getL0, getLS, aMvE, aBinE, aPickE, pickB, rOE, putV0, putVS, set10, set1S, killO0, bin_geq, bin_leq, decide_true, decide_false, WO_nilE]))
        refine W_ret ?_
        exact bad _ (fun hg => g2 hg.2.2.2.2.1) rfl
    · ((try rw [callQ_val]); repeat ((first | rw [WO_a] | rw [WO_g]); simp (disch := omega) only [g1, decide_false, guardT, OW_some, bifT, bifF, obS, oStkE, oVarE, oConE, getL0, getLS, aMvE, aBinE, aPickE, pickB, rOE, putV0, putVS, set10, set1S, killO0, bin_geq, decide_false, WO_nilE]))
      refine W_ret ?_
      exact bad _ (fun hg => g1 hg.2.2.2.1) rfl
end
end Go.Proofs.YtnkcimeebobjaaaDoor.fitRounds
namespace Go.Proofs.YtnkcimeebobjaaaDoor.fitRounds
open Hx Go
set_option maxRecDepth 100000
attribute [local irreducible] cSeq cOps cPre cCnd cBlk cLoop cScope cExit cRet cNop cRng Heap.ent Heap.setLow
/-- the first greatest of the first k -/
def Top (l : List Int) (k a : Nat) : Prop := (∀ j, j < k → l.getD j 0 ≤ l.getD a 0) ∧ ∀ j, j < a → l.getD j 0 < l.getD a 0
theorem Top.zero (l : List Int) : Top l 1 0 := ⟨fun j hj => by rw [show j = 0 by omega]; exact Int.le_refl _, fun j hj => by omega⟩
theorem Top.keep {l : List Int} {k a : Nat} (h : Top l k a) (hk : ¬ l.getD k 0 > l.getD a 0) : Top l (k + 1) a := ⟨fun j hj => by
  rcases Nat.lt_or_eq_of_le (Nat.le_of_lt_succ hj) with h1 | rfl
  · exact h.1 j h1
  · omega, h.2⟩
theorem Top.turn {l : List Int} {k a : Nat} (h : Top l k a) (hk : l.getD k 0 > l.getD a 0) : Top l (k + 1) k := ⟨fun j hj => by
  rcases Nat.lt_or_eq_of_le (Nat.le_of_lt_succ hj) with h1 | rfl
  · have := h.1 j h1; omega
  · exact Int.le_refl _, fun j hj => by have := h.1 j hj; omega⟩
section
variable {F : Nat → Nat → CallFn} (hF : IsEv KC Kt F)
theorem rd40 {h : Heap} {Q : Ex → St → Prop} {v7 : AV} {br left : Nat} {rl : List Int} {n : Nat} (hnn : n = rl.length) (ho : Own .i64 h 3 br rl) (hn : 0 < rl.length) (hn2 : rl.length < 1000000) {j0 j1 j2 j3 j4 j5 j6 j8 j11 j13 j15 j16 : AV}
    (hq : ∀ (a : Nat) (j0 j1 j2 j3 j4 j5 j6 j8 j11 j12 j13 j15 j16 : AV), a < rl.length → Top rl rl.length a → Q (.exit 4) ⟨[j0, j1, j2, j3, j4, j5, j6, v7, j8, .msl 3 br 0 n, .int .i64 (left : Int), j11, j12, j13, .int .i64 (a : Int), j15, j16], h, []⟩) :
    W F Ko12_40 ⟨[j0, j1, j2, j3, j4, j5, j6, v7, j8, .msl 3 br 0 n, .int .i64 (left : Int), j11, .int .i64 1, j13, .int .i64 0, j15, j16], h, []⟩ Q := by
  subst hnn
  refine W_loop (fun k st => ∃ (i a : Nat) (j0 j1 j2 j3 j4 j5 j6 j8 j11 j13 j15 j16 : AV), k = rl.length - i ∧ i ≤ rl.length ∧ a < rl.length ∧ Top rl i a ∧ st = ⟨[j0, j1, j2, j3, j4, j5, j6, v7, j8, .msl 3 br 0 rl.length, .int .i64 (left : Int), j11, .int .i64 (i : Int), j13, .int .i64 (a : Int), j15, j16], h, []⟩) ?_ (k := rl.length - 1) ⟨1, 0, _, _, _, _, _, _, _, _, _, _, _, _, rfl, hn, hn, Top.zero rl, rfl⟩
  rintro k st ⟨i, a, j0, j1, j2, j3, j4, j5, j6, j8, j11, j13, j15, j16, rfl, hi, ha, ht, rfl⟩
  refine W_seq ?_
  refine W_seq ?_
  (refine W_opsM ?_; simp only [go_sem])
  refine W_cndP rfl (fun hc => ?_) (fun hc => ?_)
  · (refine W_nop ?_; simp only [go_sem])
    have hi' : i < rl.length := by omega
    refine W_seq ?_
    refine W_blk ?_
    refine W_seq ?_
    (refine W_pre ?_; simp (disch := omega) only [go_sem, ixs_msl hi', ixs_msl ha, ho.load hi', ho.load ha])
    have e1 := getD_eq hi'
    have e2 := getD_eq ha
    refine W_cndP rfl (fun hc2 => ?_) (fun hc2 => ?_)
    · (refine W_opsM ?_; simp only [go_sem])
      (refine W_opsM ?_; simp (disch := omega) only [wrap_i64, go_sem])
      exact ⟨_, by omega, i + 1, i, _, _, _, _, _, _, _, _, _, _, _, _, rfl, by omega, hi', ht.turn (by rw [e1, e2]; exact hc2), rfl⟩
    · (refine W_nop ?_; simp only [go_sem])
      (refine W_opsM ?_; simp (disch := omega) only [wrap_i64, go_sem])
      exact ⟨_, by omega, i + 1, a, _, _, _, _, _, _, _, _, _, _, _, _, rfl, by omega, ha, ht.keep (by rw [e1, e2]; exact hc2), rfl⟩
  · (refine W_exit ?_; simp only [go_sem])
    have : i = rl.length := by omega
    subst this
    exact hq a _ _ _ _ _ _ _ _ _ _ _ _ _ ha ht
end
end Go.Proofs.YtnkcimeebobjaaaDoor.fitRounds
namespace Go.Proofs.YtnkcimeebobjaaaDoor.fitRounds
open Hx Go
set_option maxRecDepth 100000
attribute [local irreducible] cSeq cOps cPre cCnd cBlk cLoop cScope cExit cRet cNop cRng Heap.ent Heap.setLow
/-- what is left of the rests where T has had its share -/
def Struck (r rl : List Int) (T : List Nat) : Prop := rl.length = r.length ∧ ∀ i, i < r.length → rl.getD i 0 = if i ∈ T then -1 else r.getD i 0
theorem give_step {r rl : List Int} {T : List Nat} {a : Nat} (hr : ∀ i, i < r.length → 0 ≤ r.getD i 0) (hT : T.Nodup) (hTb : ∀ i ∈ T, i < r.length) (hl : T.length < r.length) (hs : Struck r rl T) (ha : a < rl.length) (ht : Top rl rl.length a)
    (ho : ∀ i j, i ∈ T → j < r.length → j ∉ T → ltG r i j = true) : a ∉ T ∧ ∀ i j, i ∈ a :: T → j < r.length → j ∉ a :: T → ltG r i j = true := by
  obtain ⟨hs1, hs2⟩ := hs
  have hex : ∃ j, j < r.length ∧ j ∉ T := by
    refine Classical.byContradiction fun hn => ?_
    have e1 := sm_ind T r.length hT hTb
    rw [sm_congr (g := fun _ => 1) fun i hi => if_pos (Classical.byContradiction fun h => hn ⟨i, hi, h⟩), sm_const] at e1
    omega
  obtain ⟨j0, hj0, hj1⟩ := hex
  have e0 := hs2 j0 hj0
  rw [if_neg hj1] at e0
  have e1 := ht.1 j0 (by omega)
  have e2 := hr j0 hj0
  have e3 := hs2 a (by omega)
  have hna : a ∉ T := fun h => by rw [if_pos h] at e3; omega
  rw [if_neg hna] at e3
  refine ⟨hna, fun i j hi hj hnj => ?_⟩
  rw [List.mem_cons, not_or] at hnj
  rcases List.mem_cons.1 hi with rfl | hi
  · rw [ltG_iff]
    have e4 := hs2 j hj
    rw [if_neg hnj.2] at e4
    have e5 := ht.1 j (by omega)
    simp only [Int.toNat_natCast]
    rcases Nat.lt_trichotomy j i with h1 | h1 | h1
    · have := ht.2 j h1; omega
    · exact absurd h1 hnj.1
    · omega
  · exact ho i j hi hj hnj.2
end Go.Proofs.YtnkcimeebobjaaaDoor.fitRounds
namespace Go.Proofs.YtnkcimeebobjaaaDoor.fitRounds
open Hx Go
set_option maxRecDepth 100000
attribute [local irreducible] cSeq cOps cPre cCnd cBlk cLoop cScope cExit cRet cNop cRng Heap.ent Heap.setLow
theorem getD_set {l : List Int} {a i : Nat} {x : Int} (ha : a < l.length) : (l.set a x).getD i 0 = if i = a then x else l.getD i 0 := by
  by_cases h : i = a
  · subst h; rw [if_pos rfl]; simp [ha]
  · rw [if_neg h]; simp [Ne.symm h]
section
variable {F : Nat → Nat → CallFn} (hF : IsEv KC Kt F)
theorem rd27 {h hE : Heap} {Q : Ex → St → Prop} {b7 br left : Nat} {nx0 r : List Int} (hnx : Own .i64 h 3 b7 nx0) (hrl : Own .i64 h 3 br r) (hne : b7 ≠ br) (hlen : nx0.length = r.length) (hn : 0 < r.length) (hn2 : r.length < 1000000) (hr : ∀ i, i < r.length → 0 ≤ r.getD i 0) (hx : ∀ i, i < r.length → 0 ≤ nx0.getD i 0 ∧ nx0.getD i 0 ≤ 1000000) (hleft : left ≤ r.length) (he : Ext hE h) (hb7 : hE.next ≤ b7) (hbr : hE.next ≤ br) (hlow : hE.next ≤ h.low) {j0 j1 j2 j3 j4 j5 j6 j8 j11 j12 j13 j14 j15 j16 : AV}
    (hq : ∀ (nx : List Int) (T : List Nat) (h1 : Heap) (j0 j1 j2 j3 j4 j5 j6 j8 j9 j10 j11 j12 j13 j14 j15 j16 : AV), T.Nodup → (∀ i ∈ T, i < r.length) → T.length = left → Own .i64 h1 3 b7 nx → nx.length = nx0.length → (∀ i, i < r.length → nx.getD i 0 = nx0.getD i 0 + if i ∈ T then 1 else 0) → (∀ i j, i ∈ T → j < r.length → j ∉ T → ltG r i j = true) → Ext hE h1 → hE.next ≤ h1.low → Q (.exit 2) ⟨[j0, j1, j2, j3, j4, j5, j6, .msl 3 b7 0 nx0.length, j8, j9, j10, j11, j12, j13, j14, j15, j16], h1, []⟩) :
    W F Ko12_27 ⟨[j0, j1, j2, j3, j4, j5, j6, .msl 3 b7 0 nx0.length, j8, .msl 3 br 0 r.length, .int .i64 (left : Int), j11, j12, j13, j14, j15, j16], h, []⟩ Q := by
  refine W_loop (fun k st => ∃ (nx rl : List Int) (T : List Nat) (h1 : Heap) (j0 j1 j2 j3 j4 j5 j6 j8 j11 j12 j13 j14 j15 j16 : AV), k = left - T.length ∧ T.Nodup ∧ (∀ i ∈ T, i < r.length) ∧ T.length ≤ left ∧ Own .i64 h1 3 b7 nx ∧ Own .i64 h1 3 br rl ∧ nx.length = nx0.length ∧ (∀ i, i < r.length → nx.getD i 0 = nx0.getD i 0 + if i ∈ T then 1 else 0) ∧ Struck r rl T ∧ (∀ i j, i ∈ T → j < r.length → j ∉ T → ltG r i j = true) ∧ Ext hE h1 ∧ hE.next ≤ h1.low ∧
    st = ⟨[j0, j1, j2, j3, j4, j5, j6, .msl 3 b7 0 nx0.length, j8, .msl 3 br 0 r.length, .int .i64 ((left - T.length : Nat) : Int), j11, j12, j13, j14, j15, j16], h1, []⟩) ?_ (k := left) ⟨nx0, r, [], h, _, _, _, _, _, _, _, _, _, _, _, _, _, _, rfl, List.nodup_nil, by simp, Nat.zero_le _, hnx, hrl, rfl, by simp, ⟨rfl, by simp⟩, by simp, he, hlow, rfl⟩
  rintro k st ⟨nx, rl, T, h1, j0, j1, j2, j3, j4, j5, j6, j8, j11, j12, j13, j14, j15, j16, rfl, hT, hTb, hTl, ho7, hor, hl7, hv7, hstr, hord, he1, hl1, rfl⟩
  refine W_seq ?_
  refine W_seq ?_
  (refine W_opsM ?_; simp only [go_sem])
  refine W_cndP rfl (fun hc => ?_) (fun hc => ?_)
  · (refine W_nop ?_; simp only [go_sem])
    refine W_seq ?_
    refine W_blk ?_
    refine W_seq ?_
    (refine W_opsM ?_; simp only [go_sem])
    refine W_seq ?_
    refine W_seq ?_
    (refine W_opsM ?_; simp only [go_sem])
    refine W_blk ?_
    have hrl2 : rl.length = r.length := hstr.1
    refine rd40 hrl2.symm hor (by omega) (by omega) (fun a j0 j1 j2 j3 j4 j5 j6 j8 j11 j12 j13 j15 j16 ha ht => ?_)
    simp only [go_sem]
    obtain ⟨hna, hord2⟩ := give_step hr hT hTb (by omega) hstr ha ht hord
    have ha7 : a < nx.length := by omega
    have ha0 : a < nx0.length := by omega
    have e1 := hv7 a (by omega)
    rw [if_neg hna, getD_eq ha7] at e1
    have e2 := hx a (by omega)
    refine W_seq ?_
    (refine W_opsM ?_; simp (disch := omega) only [wrap_i64, go_sem, ixs_msl ha0, ho7.load ha7, fun y => ho7.store ha7 y])
    have ho7' := ho7.put (nx.set a (nx[a] + 1))
    have hor' := hor.putO (b' := b7) (x := .row ((nx.set a (nx[a] + 1)).map (.int .i64 ·)) 3) (Ne.symm hne)
    have hu := (Upd.refl h1 b7).put (x := .row ((nx.set a (nx[a] + 1)).map (.int .i64 ·)) 3)
    generalize Heap.put h1 b7 _ = h2 at *
    have har : a < r.length := by omega
    (refine W_opsM ?_; simp (disch := omega) only [go_sem, ixs_msl har, fun y => hor'.store ha y])
    have hor2 := hor'.put (rl.set a (Int.negSucc 0))
    have ho72 := ho7'.putO (b' := br) (x := .row ((rl.set a (Int.negSucc 0)).map (.int .i64 ·)) 3) hne
    have hu2 := (Upd.refl h2 br).put (x := .row ((rl.set a (Int.negSucc 0)).map (.int .i64 ·)) 3)
    generalize Heap.put h2 br _ = h3 at *
    (refine W_opsM ?_; simp (disch := omega) only [wrap_i64, go_sem])
    have l1 := hu.low
    have l2 := hu2.low
    have n1 := hu.next
    have nE := he1.next
    have e7 : ((left - T.length : Nat) : Int) - 1 = ((left - (a :: T).length : Nat) : Int) := by rw [List.length_cons]; omega
    refine ⟨left - (a :: T).length, by rw [List.length_cons]; omega, nx.set a (nx[a] + 1), rl.set a (Int.negSucc 0), a :: T, h3, _, _, _, _, _, _, _, _, _, _, _, _, _, _, rfl, List.nodup_cons.2 ⟨hna, hT⟩, ?_, by rw [List.length_cons]; omega, ho72, hor2, by rw [List.length_set]; exact hl7, ?_, ⟨by rw [List.length_set]; exact hrl2, ?_⟩, hord2, (he1.upd hu hb7).upd hu2 hbr, by omega, by rw [e7]⟩
    · intro i hi
      rcases List.mem_cons.1 hi with rfl | hi
      · omega
      · exact hTb i hi
    · intro i hi
      rw [getD_set ha7]
      by_cases h : i = a
      · subst h; rw [if_pos rfl, if_pos List.mem_cons_self, e1]; omega
      · rw [if_neg h, hv7 i hi]; simp [h]
    · intro i hi
      rw [getD_set ha]
      by_cases h : i = a
      · subst h; rw [if_pos rfl, if_pos List.mem_cons_self]; rfl
      · rw [if_neg h, hstr.2 i hi]; simp [h]
  · (refine W_exit ?_; simp only [go_sem])
    exact hq nx T h1 _ _ _ _ _ _ _ _ _ _ _ _ _ _ _ _ hT hTb (by omega) ho7 hl7 hv7 hord he1 hl1
end
end Go.Proofs.YtnkcimeebobjaaaDoor.fitRounds
namespace Go.Proofs.YtnkcimeebobjaaaDoor.fitRounds
open Hx Go
set_option maxRecDepth 100000
attribute [local irreducible] cSeq cOps cPre cCnd cBlk cLoop cScope cExit cRet cNop cRng Heap.ent Heap.setLow
/-- two lists do not share their block -/
def Apart (v w : AV) : Prop := ∀ b o n b' o' n', v = .msl 3 b o n → w = .msl 3 b' o' n' → b ≠ b'
theorem ownN_keep {base : Nat} {h h' : Heap} {v w : AV} {l : List Int} (ho : OwnN .i64 base h 3 w l) (ha : Apart v w) (hk : ∀ e' b' l', Own .i64 h e' b' l' → (∀ o n, v ≠ .msl 3 b' o n) → Own .i64 h' e' b' l') : OwnN .i64 base h' 3 w l := by
  rcases ho with ⟨rfl, rfl⟩ | ⟨b, rfl, ho, hb⟩
  · exact .inl ⟨rfl, rfl⟩
  · exact .inr ⟨b, rfl, hk _ _ _ ho (fun o n h => ha _ _ _ _ _ _ h rfl rfl), hb⟩
theorem ownN_below {base : Nat} {h : Heap} {w : AV} {l : List Int} (ho : OwnN .i64 base h 3 w l) {b o n : Nat} (h2 : w = .msl 3 b o n) : b < h.next := by
  rcases ho with ⟨_, rfl⟩ | ⟨b', rfl, ho, _⟩
  · cases h2
  · cases h2; exact ho.1
section
variable {F : Nat → Nat → CallFn} (hF : IsEv KC Kt F)
include hF
theorem rdref_ok {h : Heap} {v : AV} {l : List Int} {grain least : Int} (hv : Ints .i64 h 3 v l) (hgd : Good l grain least) :
    WV F (.fn (.func 12) [] []) [v, .int .i64 grain, .int .i64 least] h (fun r h' => ∃ b out, r = .val (.msl 3 b 0 l.length) ∧ Grow h h' ∧ h.next ≤ b ∧ Own .i64 h' 3 b out ∧ IsShares (cs l) (ts l) (grain - least * l.length) least out) := by
  obtain ⟨hn, hn', hl, hg1, hg2, hle, hal⟩ := id hgd
  have hl0 : ∀ x ∈ l, 0 ≤ x := fun x hx => (hl x hx).1
  have hm0 : 0 ≤ least * (l.length : Int) := Int.mul_nonneg hle (by omega)
  have ht := ts_pos hl0 hn
  have hcb := cs_bd (by omega) hl
  have hcl := cs_len l
  have hcs := cs_sum l
  refine Kent12 hF ?_
  refine W_seq ?_
  (refine W_opsM ?_; simp only [go_sem])
  refine W_seq ?_
  (refine W_opsM ?_; simp only [go_sem])
  refine WO_call rfl rfl ?_
  refine (due_ok hF (hv.ext (Ext.ent h)) hgd).mono ?_
  rintro _ h1 ⟨w, rfl, hg, hw⟩
  simp only [go_sem]
  refine W_seq ?_
  (refine W_opsM ?_; simp only [go_sem])
  refine W_seq ?_
  (refine W_opsM ?_; simp only [go_sem])
  refine W_seq ?_
  refine W_seq ?_
  (refine W_opsM ?_; simp only [go_sem])
  refine W_blk ?_
  generalize hc : cs l = c at *
  generalize hS : grain - least * (l.length : Int) = S at *
  generalize htt : ts l = t at *
  have hle2 : least ≤ 720 := by
    have h2 : least * 1 ≤ least * (l.length : Int) := Int.mul_le_mul_of_nonneg_left (by omega) hle
    omega
  have hS2 : 0 ≤ S ∧ S ≤ 720 := by omega
  have hap0 : Apart .nils .nils := by intro b o n b' o' n' h; cases h
  refine W_loop (fun k st => ∃ (i : Nat) (h2 : Heap) (C7 C9 : AV) (j0 j1 j6 j11 j12 j13 j14 j15 j16 : AV), k = c.length - i ∧ i ≤ c.length ∧ Ext h1 h2 ∧ h.next ≤ h2.low ∧ OwnN .i64 h1.next h2 3 C7 ((c.take i).map fun c => least + S * c / t) ∧ OwnN .i64 h1.next h2 3 C9 ((c.take i).map fun c => S * c - S * c / t * t) ∧ Apart C7 C9 ∧
    st = ⟨[j0, j1, .int .i64 least, .int .i64 S, .int .i64 (i : Int), w, j6, C7, .int .i64 t, C9, .int .i64 (S - ((c.take i).map fun c => S * c / t).sum), j11, j12, j13, j14, j15, j16], h2, []⟩) ?_ (k := c.length) ⟨0, h1, .nils, .nils, _, _, _, _, _, _, _, _, _, rfl, Nat.zero_le _, Ext.refl _, by have := hg.low; rw [ent_low, ent_next] at this; omega, .inl ⟨rfl, rfl⟩, .inl ⟨rfl, rfl⟩, hap0, by rw [List.take_zero, List.map_nil, List.sum_nil, Int.sub_zero]; rfl⟩
  rintro k st ⟨i, h2, C7, C9, j0, j1, j6, j11, j12, j13, j14, j15, j16, rfl, hi, he2, hl2, hC7, hC9, hap, rfl⟩
  have hw2 := hw.ext he2
  have hbn : h.next ≤ h1.next := by have := hg.ext.next; rw [ent_next] at this; exact this
  refine W_seq ?_
  refine W_seq ?_
  (refine W_opsM ?_; simp only [go_sem, hw2.lens])
  refine W_cndP rfl (fun hc1 => ?_) (fun hc1 => ?_)
  · (refine W_nop ?_; simp only [go_sem])
    have hi' : i < c.length := by omega
    refine W_seq ?_
    refine W_blk ?_
    obtain ⟨p, g1, g2⟩ := hw2.at hi'
    have bx := hcb _ (List.getElem_mem hi')
    have hm := mul_bd (a := S) (b := c[i]) (A := 720) (B := 1099511627776) (by omega) (by omega) (by omega) (by omega)
    have hm1 : 0 ≤ S * c[i] := Int.mul_nonneg hS2.1 bx.1
    have htk : ∀ f : Int → Int, (c.take (i + 1)).map f = (c.take i).map f ++ [f c[i]] := fun f => by rw [List.take_succ_eq_append_getElem hi', List.map_append]; rfl
    have hl7 : ((c.take i).map fun c => least + S * c / t).length = i := by simp; omega
    have hl9 : ((c.take i).map fun c => S * c - S * c / t * t).length = i := by simp; omega
    have hq : Int.tdiv (S * c[i]) t = S * c[i] / t := Int.tdiv_eq_ediv_of_nonneg hm1
    have hr : Int.tmod (S * c[i]) t = S * c[i] - S * c[i] / t * t := by rw [Int.tmod_eq_emod_of_nonneg hm1, Int.emod_def, Int.mul_comm t]
    have hq0 : 0 ≤ S * c[i] / t := Int.ediv_nonneg hm1 (by omega)
    have hq1 : S * c[i] / t ≤ S * c[i] := Int.ediv_le_self _ hm1
    have ht0 : t ≠ 0 := by omega
    obtain ⟨C7', h3, x3, a1, a2, a3, a4, a5, a6⟩ := hC7.app2 (least + S * c[i] / t) 8 he2 hl2 hbn (by omega) (by omega)
    have b9 := ownN_keep hC9 hap a6
    have hap2 : Apart C9 C7' := by
      intro b o n b' o' n' e1 e2
      have := ownN_below hC9 e1
      rw [a5] at e2
      cases e2
      omega
    have hap2x : Apart C9 C7' := hap2
    obtain ⟨C9', h4, x4, d1, d2, d3, d4, d5, d6⟩ := b9.app2 (S * c[i] - S * c[i] / t * t) 8 a3 a4 hbn (by omega) (by omega)
    have b7 := ownN_keep a2 hap2x d6
    refine W_seq ?_
    (refine W_opsM ?_; simp (disch := omega) only [wrap_i64, go_sem, g1, g2, bin_quo, hq, a1])
    refine W_seq ?_
    obtain ⟨p', g3, g4⟩ := (hw.ext a3).at hi'
    (refine W_opsM ?_; simp (disch := omega) only [wrap_i64, go_sem, g3, g4, bin_rem, hr, d1])
    obtain ⟨p2, g5, g6⟩ := (hw.ext d3).at hi'
    have hs0 : ∀ x ∈ c.map fun c => S * c / t, 0 ≤ x := by
      intro x hx
      rw [List.mem_map] at hx
      obtain ⟨y, hy, rfl⟩ := hx
      exact Int.ediv_nonneg (Int.mul_nonneg hS2.1 (hcb y hy).1) (by omega)
    have hs1 := sum_take_le hs0 (i + 1)
    have hs2 := sum_take_le hs0 i
    have hs3 := sum_pos (l := (c.map fun c => S * c / t).take i) fun x hx => hs0 x (List.mem_of_mem_take hx)
    rw [← List.map_take] at hs1 hs2 hs3
    have hs4 : ((c.take (i + 1)).map fun c => S * c / t).sum = ((c.take i).map fun c => S * c / t).sum + S * c[i] / t := by rw [htk, List.sum_append]; simp
    have hsS : (c.map fun c => S * c / t).sum ≤ S := by
      have := (left_bd (all := S) hl0 hn).1
      unfold leftS qs at this
      rw [hc, htt] at this
      omega
    (refine W_opsM ?_; simp (disch := omega) only [wrap_i64, go_sem, g5, g6, bin_quo, hq])
    (refine W_opsM ?_; simp (disch := omega) only [wrap_i64, go_sem])
    refine ⟨_, by omega, i + 1, _, _, _, _, _, _, _, _, _, _, _, _, rfl, by omega, d3, d4, by rw [htk]; exact b7, by rw [htk]; exact d2, ?_, by rw [hs4, Int.sub_sub]; rfl⟩
    intro b o n b' o' n' e1 e2
    have := ownN_below a2 e1
    rw [d5] at e2
    cases e2
    omega
  · (refine W_exit ?_; simp only [go_sem])
    have : i = c.length := by omega
    subst this
    rw [List.take_length] at hC7 hC9 ⊢
    have hlr := left_bd (all := S) hl0 hn
    unfold leftS qs at hlr
    rw [hc, htt] at hlr
    obtain ⟨left, hleft⟩ : ∃ k : Nat, S - (c.map fun c => S * c / t).sum = (k : Int) := ⟨_, (Int.toNat_of_nonneg hlr.1).symm⟩
    rw [hleft] at hlr ⊢
    have hne7 : (c.map fun c => least + S * c / t) ≠ [] := fun e => by have := congrArg List.length e; rw [List.length_map] at this; simp at this; subst this; simp at hcl; omega
    have hne9 : (c.map fun c => S * c - S * c / t * t) ≠ [] := fun e => by have := congrArg List.length e; rw [List.length_map] at this; simp at this; subst this; simp at hcl; omega
    obtain ⟨b7, rfl, ho7, hb7⟩ := hC7.own hne7
    obtain ⟨b9, rfl, ho9, hb9⟩ := hC9.own hne9
    have hne : b7 ≠ b9 := hap _ _ _ _ _ _ rfl rfl
    have hst : ∀ i (hi : i < c.length), 0 ≤ S * c[i] ∧ 0 ≤ S * c[i] / t ∧ S * c[i] / t ≤ S := by
      intro i hi
      have bx := hcb _ (List.getElem_mem hi)
      have h1 : 0 ≤ S * c[i] := Int.mul_nonneg hS2.1 bx.1
      refine ⟨h1, Int.ediv_nonneg h1 (by omega), ?_⟩
      have h2 : c[i] ≤ t := by rw [← hcs]; exact mem_le_sum (fun x hx => (hcb x hx).1) _ (List.getElem_mem hi)
      have h3 : S * c[i] ≤ S * t := Int.mul_le_mul_of_nonneg_left h2 hS2.1
      have h4 := Int.ediv_le_ediv ht h3
      rw [Int.mul_ediv_cancel _ (by omega)] at h4
      exact h4
    refine W_seq ?_
    refine W_blk ?_
    refine rd27 (hE := h.ent) ho7 ho9 hne (by simp) (by simp; omega) (by simp; omega) (fun i hi => ?_) (fun i hi => ?_) (by simp; omega) (hg.ext.trans he2) (by rw [ent_next]; omega) (by rw [ent_next]; omega) (by rw [ent_next]; omega)
      (fun nx T h3 j0 j1 j2 j3 j4 j5 j6 j8 j9 j10 j11 j12 j13 j14 j15 j16 hT hTb hTl ho3 hnl hnv hord he3 hl3 => ?_)
    · rw [List.length_map] at hi
      rw [getD_eq (by rw [List.length_map]; exact hi), List.getElem_map]
      have := Int.emod_nonneg (S * c[i]) (show t ≠ 0 by omega)
      rw [Int.emod_def, Int.mul_comm t] at this
      exact this
    · rw [List.length_map] at hi
      rw [getD_eq (by rw [List.length_map]; exact hi), List.getElem_map]
      have := hst i hi
      omega
    · simp only [go_sem]
      refine W_seq ?_
      (refine W_opsM ?_; simp only [go_sem])
      refine W_ret ?_
      rw [List.length_map] at *
      rw [ent_next] at hl3
      refine fin_new (l := [.msl 3 b7 0 c.length]) he3 hl3 rfl rfl (fun hg => ⟨b7, nx, by rw [hcl]; rfl, hg, by omega, ho3.lower, ⟨hnl, T, hT, hTb, by rw [hTl, ← hleft], fun i hi hc => ?_, hord⟩⟩) (fun h => by cases h)
      have := hnv i hc
      rw [getD_eq hi, getD_eq (by rw [List.length_map]; exact hc), List.getElem_map] at this
      exact this
end
end Go.Proofs.YtnkcimeebobjaaaDoor.fitRounds
namespace Go.Proofs.YtnkcimeebobjaaaDoor.fitRounds
open Hx Go
set_option maxRecDepth 100000
attribute [local irreducible] cSeq cOps cPre cCnd cBlk cLoop cScope cExit cRet cNop cRng Heap.ent Heap.setLow
theorem aIxE {n sz : Nat} {g : Bool} {x i : OF} {stk vs : List AV} {h : Heap} : aIx n sz g x i stk vs h = ob (x stk vs) fun v => ob (i stk vs) fun i => ob (natOf i) fun i => rO h (ixA n sz g v i) := id rfl
section
variable {F : Nat → Nat → CallFn} (hF : IsEv KC Kt F)
include hF
theorem one_ok {h1 : Heap} {Q : Ex → St → Prop} {w A14 A17 : AV} {l : List Int} {a b : Int} {i j : Nat} (hw : Ints .i64 h1 3 w l) (hl : ∀ x ∈ l, -9223372036854775808 ≤ x ∧ x ≤ 9223372036854775807) (hn : l.length < 65536) (ha : -9223372036854775808 ≤ a ∧ a ≤ 9223372036854775807)
    (hx : ixA 3 2 true A17 j = some (.agg [.int .i64 a, .int .i64 b])) {j0 j1 j2 j3 j4 j5 j6 j7 j8 j9 j10 j11 j13 j16 j19 j20 j21 j22 j23 j24 j25 : AV}
    (hq : ∀ (h2 : Heap) (j6 j7 j8 j9 j10 j11 j13 j16 j19 j20 j21 j22 j23 j24 j25 : AV), Ext h1 h2 → min h1.next h1.low ≤ h2.low → Q .normal ⟨[j0, j1, j2, j3, j4, j5, j6, j7, j8, j9, j10, j11, .int .i64 (i : Int), j13, A14, .int .i64 (j : Int), j16, A17, w, j19, j20, j21, j22, j23, j24, j25, .bool false], h2, []⟩) :
    W F Ko3_42 ⟨[j0, j1, j2, j3, j4, j5, j6, j7, j8, j9, j10, j11, .int .i64 (i : Int), j13, A14, .int .i64 (j : Int), j16, A17, w, j19, j20, j21, j22, j23, j24, j25, .bool false], h1, []⟩ Q := by
  refine W_seq ?_
  have hown : Own .i64 (h1.push (.row [.int .i64 0, .int .i64 0] 25)) 25 h1.next [0, 0] := Own.mk (k := .i64) [0, 0]
  have hst := hown.storeL (o := 0) (src := [a, b]) (by simp)
  have hown2 := hown.put [a, b]
  have hE : Ext h1 ((h1.push (.row [.int .i64 0, .int .i64 0] 25)).put h1.next (.row ([a, b].map (.int .i64 ·)) 25)) := ((Ext.refl h1).push).put (Nat.le_refl _)
  have hL : min h1.next h1.low ≤ ((h1.push (.row [.int .i64 0, .int .i64 0] 25)).put h1.next (.row ([a, b].map (.int .i64 ·)) 25)).low := by rw [low_put, low_push]; exact Nat.le_refl _
  simp only [List.map_cons, List.map_nil, List.take_zero, List.nil_append, List.append_nil, List.length_cons, List.length_nil, Nat.zero_add, List.drop_succ_cons, List.drop_zero] at hst hown2 hE hL
  (refine W_opsM ?_; simp only [go_sem, aIxE, hx, hst])
  generalize Heap.put _ _ _ = h2 at *
  have e0 : ixaA 2 1 (.ptr h1.next 0) 0 = some (.ptr h1.next 0) := rfl
  have e1 : ixaA 2 1 (.ptr h1.next 0) 1 = some (.ptr h1.next 1) := rfl
  have ld0 := hown2.load (i := 0) (by simp)
  have ld1 := hown2.load (i := 1) (by simp)
  simp only [List.getElem_cons_zero, List.getElem_cons_succ] at ld0 ld1
  refine W_seq ?_
  (refine W_opsM ?_; simp only [go_sem, e0, e1, ld0, ld1])
  have hw2 := hw.ext hE
  have hnx := hE.next
  refine WO_call rfl rfl ?_
  refine (round_ok hF (sortOkN hF) (by omega) hw2 hl (.inr rfl) hn ha).mono ?_
  rintro r h3 (⟨hbad, rfl, rfl⟩ | ⟨hgd, b1, out, rfl, hgrow, hbb, hos, hsh⟩)
  · simp only [go_sem]
    refine W_seq ?_
    (refine W_opsM ?_; simp only [go_sem])
    refine W_seq ?_
    (refine W_opsM ?_; simp only [go_sem])
    refine W_seq ?_
    refine W_seq ?_
    (refine W_opsM ?_; simp only [go_sem, e0, e1, ld0, ld1])
    refine WO_call rfl rfl ?_
    refine (fair_ok hF hw2 (by omega)).mono ?_
    rintro _ h4 ⟨rfl, c, rfl, hc⟩
    have hcf : c = false := Bool.eq_false_iff.2 fun h => hbad (hc.1 h)
    subst hcf
    simp only [go_sem]
    refine W_cnd rfl (fun h => by cases h) (fun _ => ?_)
    (refine W_nop ?_; simp only [go_sem])
    refine W_seq ?_
    refine W_opsM ?_
    have c0 : ¬ ((2 : Int) ≠ 2) := by simp
    ((try rw [callQ_val]); repeat ((first | rw [WO_a] | rw [WO_g]); simp (disch := omega) only [c0, decide_false, guardF, OW_some, bifT, obS, oStkE, oVarE, getL0, getLS, aMvE, aBinE, rOE, putV0, killO0, bin_neq, decide_false, Bool.not_false]))
    refine WO_call rfl rfl ?_
    refine (eq_ok hF (h := h4) (v := .nils) (w := .nils) (l := []) (m := []) ⟨rfl, rfl⟩ ⟨rfl, rfl⟩ rfl (by simp)).mono ?_
    rintro _ h5 ⟨rfl, rfl⟩
    ((try rw [callQ_val]); repeat ((first | rw [WO_a] | rw [WO_g]); simp (disch := omega) only [aUnE, un_not, guardF, OW_some, bifT, bifF, obS, oStkE, oConE, getL0, getLS, aPickE, pickB, rOE, putV0, putVS, set10, set1S, killO0, Bool.not_true, Bool.not_false, WO_nilE]))
    refine W_cnd rfl (fun h => by cases h) (fun _ => ?_)
    refine W_nop ?_
    exact hq _ _ _ _ _ _ _ _ _ _ _ _ _ _ _ _ hE hL
  · simp only [go_sem]
    refine W_seq ?_
    (refine W_opsM ?_; simp only [go_sem])
    refine W_seq ?_
    (refine W_opsM ?_; simp only [go_sem])
    refine W_seq ?_
    refine W_seq ?_
    have ld0' := (hown2.ext hgrow.ext).load (i := 0) (by simp)
    have ld1' := (hown2.ext hgrow.ext).load (i := 1) (by simp)
    simp only [List.getElem_cons_zero, List.getElem_cons_succ] at ld0' ld1'
    (refine W_opsM ?_; simp only [go_sem, e0, e1, ld0', ld1'])
    refine WO_call rfl rfl ?_
    have hw3 := hw2.ext hgrow.ext
    refine (fair_ok hF hw3 (by omega)).mono ?_
    rintro _ h4 ⟨rfl, c, rfl, hc⟩
    have hcf : c = true := hc.2 hgd
    subst hcf
    simp only [go_sem]
    refine W_cnd rfl (fun _ => ?_) (fun h => by cases h)
    (refine W_opsM ?_; simp only [go_sem, e0, e1, ld0', ld1'])
    refine WO_call rfl rfl ?_
    refine (rdref_ok hF hw3 hgd).mono ?_
    rintro _ h4 ⟨b2, out2, rfl, hgrow2, hbb2, hos2, hsh2⟩
    simp only [go_sem]
    have heq : out = out2 := shares_uniq hsh hsh2
    have hol : out.length = l.length := by rw [hsh.len, cs_len]
    have hol2 : out2.length = l.length := by rw [hsh2.len, cs_len]
    refine W_seq ?_
    refine W_opsM ?_
    have c0 : ¬ ((0 : Int) ≠ 0) := by simp
    ((try rw [callQ_val]); repeat ((first | rw [WO_a] | rw [WO_g]); simp (disch := omega) only [c0, decide_false, guardF, OW_some, bifT, obS, oStkE, oVarE, getL0, getLS, aMvE, aBinE, rOE, putV0, killO0, bin_neq, decide_false, Bool.not_false]))
    refine WO_call rfl rfl ?_
    have i1 := (hos.ext hgrow2.ext).ints
    have i2 := hos2.ints
    rw [hol] at i1
    rw [hol2] at i2
    refine (eq_ok hF i1 i2 heq (by omega)).mono ?_
    rintro _ h5 ⟨rfl, rfl⟩
    ((try rw [callQ_val]); repeat ((first | rw [WO_a] | rw [WO_g]); simp (disch := omega) only [aUnE, un_not, guardF, OW_some, bifT, bifF, obS, oStkE, oConE, getL0, getLS, aPickE, pickB, rOE, putV0, putVS, set10, set1S, killO0, Bool.not_true, Bool.not_false, WO_nilE]))
    refine W_cnd rfl (fun h => by cases h) (fun _ => ?_)
    refine W_nop ?_
    have g1 := hgrow.low
    have g2 := hgrow2.low
    have g3 := hgrow.ext.next
    have g4 := hgrow2.ext.next
    exact hq _ _ _ _ _ _ _ _ _ _ _ _ _ _ _ _ ((hE.trans hgrow.ext).trans hgrow2.ext) (by omega)
end
end Go.Proofs.YtnkcimeebobjaaaDoor.fitRounds
namespace Go.Proofs.YtnkcimeebobjaaaDoor.fitRounds
open Hx Go
set_option maxRecDepth 100000
attribute [local irreducible] cSeq cOps cPre cCnd cBlk cLoop cScope cExit cRet cNop cRng Heap.ent Heap.setLow
theorem ints_one {k : IntKind} {h : Heap} {e : Nat} {v : AV} {l : List Int} (hv : Ints k h e v l) : v.cells = [v] := by
  cases v <;> first | rfl | exact False.elim hv
section
variable {F : Nat → Nat → CallFn} (hF : IsEv KC Kt F)
include hF
theorem rounds_ok {h : Heap} {v u : AV} {lr ls : List Int} {a b g k : Int} (hv : Ints .i64 h 3 v lr) (hlr : ∀ x ∈ lr, -9223372036854775808 ≤ x ∧ x ≤ 9223372036854775807) (hu : Ints .u8 h 5 u ls) (hl : ∀ x ∈ ls, 0 ≤ x ∧ x ≤ 255) (ha : -9223372036854775808 ≤ a ∧ a ≤ 9223372036854775807) (hg : 0 ≤ g ∧ g ≤ 255) (hk : 0 ≤ k ∧ k ≤ 255) :
    WV F (.fn (.func 3) [] []) [v, u, .int .i64 a, .int .i64 b, .int .u8 g, .int .u8 k] h (fun r _h' => r = .val (.bool true)) := by
  have hv' := hv.ext (Ext.ent h)
  have hu' := hu.ext (Ext.ent h)
  refine Kent3 hF ?_
  refine W_seq ?_
  (refine W_opsM ?_; simp only [go_sem])
  refine W_seq ?_
  (refine W_opsM ?_; simp only [go_sem])
  refine W_seq ?_
  refine W_seq ?_
  have hmin : min (ls.length : Int) 12 = ((min ls.length 12 : Nat) : Int) := by omega
  obtain ⟨w, hw1, hw2⟩ := hu'.slc (a := 0) (u := min ls.length 12) (Nat.zero_le _) (by omega)
  rw [List.drop_zero, Nat.sub_zero] at hw2
  have hml : (ls.take (min ls.length 12)).length = min ls.length 12 := by rw [List.length_take]; omega
  (refine W_opsM ?_; simp only [go_sem, hu.lens, hmin, RdS.lenA hu, hw1, hw2.lens, hml])
  have hms : ∀ x ∈ ls.take (min ls.length 12), 0 ≤ x ∧ x ≤ 255 := fun x hx => hl x (List.mem_of_mem_take hx)
  generalize ls.take (min ls.length 12) = ms at *
  have hm4 : ms.length ≤ 12 := by omega
  rw [← hml]
  refine W_blk ?_
  refine W_loop (fun q s => ∃ (i : Nat) (h1 : Heap) (C : AV) (j8 j11 j12 j13 j14 j15 j16 j17 j18 j19 j20 j21 j22 j23 j24 j25 : AV), q = ms.length - i ∧ i ≤ ms.length ∧ Ext h.ent h1 ∧ h.next ≤ h1.low ∧ OwnN .i64 h.ent.next h1 3 C ((ms.take i).map (· % 16)) ∧
    s = ⟨[v, u, .int .i64 a, .int .i64 b, .int .u8 g, .int .u8 k, .int .i64 (i : Int), .int .i64 (ms.length : Int), j8, w, C, j11, j12, j13, j14, j15, j16, j17, j18, j19, j20, j21, j22, j23, j24, j25, .bool false], h1, []⟩) ?_ (k := ms.length) ⟨0, _, _, _, _, _, _, _, _, _, _, _, _, _, _, _, _, _, _, rfl, Nat.zero_le _, Ext.refl _, ent_low_le, .inl ⟨rfl, rfl⟩, rfl⟩
  rintro q s ⟨i, h1, C, j8, j11, j12, j13, j14, j15, j16, j17, j18, j19, j20, j21, j22, j23, j24, j25, rfl, hi, he1, hl1, hC, rfl⟩
  refine W_seq ?_
  (refine W_opsM ?_; simp only [go_sem])
  refine W_seq ?_
  refine W_cndP rfl (fun hc1 => ?_) (fun hc1 => ?_)
  · (refine W_nop ?_; simp only [go_sem])
    refine W_seq ?_
    refine W_blk ?_
    refine W_seq ?_
    have hi' : i < ms.length := by omega
    obtain ⟨p, g1, g2⟩ := (hw2.ext he1).at hi'
    have bx := hms _ (List.getElem_mem hi')
    have htk : (ms.take (i + 1)).map (· % 16) = (ms.take i).map (· % 16) ++ [ms[i] % 16] := by rw [List.take_succ_eq_append_getElem hi', List.map_append]; rfl
    (refine W_opsM ?_; simp only [go_sem, g1, g2])
    have hcl : ((ms.take i).map (· % 16)).length = i := by simp; omega
    obtain ⟨C', h', x, a1, a2, a3, a4, a5, _⟩ := hC.app1 (ms[i] % 16) 8 he1 (by rw [ent_next]; exact hl1) (by omega) (by omega)
    have hmod : Int.tmod ms[i] 16 = ms[i] % 16 := Int.tmod_eq_emod_of_nonneg bx.1
    (refine W_opsM ?_; simp (disch := omega) only [wrap_i64, go_sem, bin_rem, hmod, a1])
    (refine W_opsM ?_; simp (disch := omega) only [wrap_i64, go_sem])
    refine ⟨_, by omega, i + 1, _, _, _, _, _, _, _, _, _, _, _, _, _, _, _, _, _, _, rfl, by omega, a3, by rw [ent_next] at a4; exact a4, by rw [htk]; exact a2, rfl⟩
  (refine W_exit ?_; simp only [go_sem])
  have : i = ms.length := by omega
  subst this
  rw [List.take_length] at hC
  have hcv : ∀ x ∈ ms.map (· % 16), 0 ≤ x ∧ x ≤ 15 := by
    intro x hx
    rw [List.mem_map] at hx
    obtain ⟨y, hy, rfl⟩ := hx
    have := hms y hy
    omega
  have hcn : (ms.map (· % 16)).length = ms.length := by simp
  generalize ms.map (· % 16) = cv at *
  refine W_seq ?_
  refine W_seq ?_
  have hmin2 : min (lr.length : Int) 1100 = ((min lr.length 1100 : Nat) : Int) := by omega
  obtain ⟨w2, hw3, hw4⟩ := hv'.slc (a := 0) (u := min lr.length 1100) (Nat.zero_le _) (by omega)
  rw [List.drop_zero, Nat.sub_zero] at hw4
  have hml2 : (lr.take (min lr.length 1100)).length = min lr.length 1100 := by rw [List.length_take]; omega
  (refine W_opsM ?_; simp only [go_sem, hv.lens, hmin2, RdS.lenA hv, hw3])
  have hrs : ∀ x ∈ lr.take (min lr.length 1100), -9223372036854775808 ≤ x ∧ x ≤ 9223372036854775807 := fun x hx => hlr x (List.mem_of_mem_take hx)
  generalize lr.take (min lr.length 1100) = rs at *
  have hr4 : rs.length ≤ 1100 := by omega
  have o1 := ints_one hw4
  have o2 := ints_one hC.ints
  simp only [go_sem, o1, o2]
  refine W_blk ?_
  have hC' : Ints .i64 h1 3 C cv := hC.ints
  have hcl : cv.length ≤ 12 := by omega
  have hn01 := he1.next
  rw [ent_next] at hn01
  refine W_loop (fun q s => ∃ (i : Nat) (h2 : Heap) (j6 j7 j8 j9 j10 j11 j13 j15 j16 j17 j18 j19 j20 j21 j22 j23 j24 j25 : AV), q = 2 - i ∧ i ≤ 2 ∧ Ext h1 h2 ∧ h.next ≤ h2.low ∧
    s = ⟨[v, u, .int .i64 a, .int .i64 b, .int .u8 g, .int .u8 k, j6, j7, j8, j9, j10, j11, .int .i64 (i : Int), j13, .agg [w2, C], j15, j16, j17, j18, j19, j20, j21, j22, j23, j24, j25, .bool false], h2, []⟩) ?_ (k := 2) ⟨0, _, _, _, _, _, _, _, _, _, _, _, _, _, _, _, _, _, _, _, rfl, Nat.zero_le _, Ext.refl _, hl1, rfl⟩
  rintro q s ⟨i, h2, j6, j7, j8, j9, j10, j11, j13, j15, j16, j17, j18, j19, j20, j21, j22, j23, j24, j25, rfl, hi, he2, hl2, rfl⟩
  refine W_seq ?_
  (refine W_opsM ?_; simp only [go_sem])
  refine W_seq ?_
  refine W_cndP rfl (fun hc2 => ?_) (fun hc2 => ?_)
  · (refine W_nop ?_; simp only [go_sem])
    refine W_seq ?_
    refine W_blk ?_
    obtain ⟨x, m, hx1, hx2, hx3, hx4⟩ : ∃ (x : AV) (m : List Int), ixA 2 1 false (.agg [w2, C]) i = some x ∧ Ints .i64 h1 3 x m ∧ (∀ y ∈ m, -9223372036854775808 ≤ y ∧ y ≤ 9223372036854775807) ∧ m.length < 65536 := by
      rcases (show i = 0 ∨ i = 1 by omega) with rfl | rfl
      · exact ⟨w2, rs, rfl, hw4.ext he1, hrs, by omega⟩
      · exact ⟨C, cv, rfl, hC', fun y hy => by have := hcv y hy; omega, by omega⟩
    refine W_seq ?_
    (refine W_opsM ?_; simp only [go_sem, aIxE, hx1])
    refine W_seq ?_
    have q4 : Int.tmod g 60 = g % 60 := Int.tmod_eq_emod_of_nonneg hg.1
    have q5 : Int.tmod k 4 = k % 4 := Int.tmod_eq_emod_of_nonneg hk.1
    (refine W_opsM ?_; simp (disch := omega) only [wrap_i64, go_sem, bin_rem, q4, q5])
    refine W_blk ?_
    have hx2' := hx2.ext he2
    refine W_loop (fun q s => ∃ (j : Nat) (h3 : Heap) (j6 j7 j8 j9 j10 j11 j13 j16 j19 j20 j21 j22 j23 j24 j25 : AV), q = 3 - j ∧ j ≤ 3 ∧ Ext h1 h3 ∧ h.next ≤ h3.low ∧
      s = ⟨[v, u, .int .i64 a, .int .i64 b, .int .u8 g, .int .u8 k, j6, j7, j8, j9, j10, j11, .int .i64 (i : Int), j13, .agg [w2, C], .int .i64 (j : Int), j16, .agg [.int .i64 a, .int .i64 b, .int .i64 (1 + g % 60), .int .i64 (k % 4), .int .i64 a, .int .i64 (k % 4)], x, j19, j20, j21, j22, j23, j24, j25, .bool false], h3, []⟩) ?_ (k := 3) ⟨0, _, _, _, _, _, _, _, _, _, _, _, _, _, _, _, _, rfl, Nat.zero_le _, he2, hl2, rfl⟩
    rintro q s ⟨j, h3, j6, j7, j8, j9, j10, j11, j13, j16, j19, j20, j21, j22, j23, j24, j25, rfl, hj, he3, hl3, rfl⟩
    refine W_seq ?_
    (refine W_opsM ?_; simp only [go_sem])
    refine W_seq ?_
    refine W_cndP rfl (fun hc3 => ?_) (fun hc3 => ?_)
    · (refine W_nop ?_; simp only [go_sem])
      refine W_seq ?_
      refine W_blk ?_
      obtain ⟨ga, le, hy1, hy2⟩ : ∃ (ga le : Int), ixA 3 2 true (.agg [.int .i64 a, .int .i64 b, .int .i64 (1 + g % 60), .int .i64 (k % 4), .int .i64 a, .int .i64 (k % 4)]) j = some (.agg [.int .i64 ga, .int .i64 le]) ∧ (-9223372036854775808 ≤ ga ∧ ga ≤ 9223372036854775807) := by
        rcases (show j = 0 ∨ j = 1 ∨ j = 2 by omega) with rfl | rfl | rfl
        · exact ⟨a, b, rfl, ha⟩
        · exact ⟨_, _, rfl, by omega⟩
        · exact ⟨a, _, rfl, ha⟩
      refine one_ok hF (hx2.ext he3) hx3 hx4 hy2 hy1 (fun h4 j6 j7 j8 j9 j10 j11 j13 j16 j19 j20 j21 j22 j23 j24 j25 he4 hl4 => ?_)
      simp only [go_sem]
      (refine W_opsM ?_; simp (disch := omega) only [wrap_i64, go_sem])
      have := he3.next
      exact ⟨_, by omega, j + 1, _, _, _, _, _, _, _, _, _, _, _, _, _, _, _, _, rfl, by omega, he3.trans he4, by omega, rfl⟩
    · (refine W_exit ?_; simp only [go_sem])
      (refine W_opsM ?_; simp (disch := omega) only [wrap_i64, go_sem])
      exact ⟨_, by omega, i + 1, _, _, _, _, _, _, _, _, _, _, _, _, _, _, _, _, _, _, _, rfl, by omega, he3, hl3, rfl⟩
  · (refine W_exit ?_; simp only [go_sem])
    refine W_seq ?_
    refine W_opsM ?_
    refine WO_call rfl rfl ?_
    refine WV_mem hF (v := .bool true) rfl ?_
    simp only [go_sem]
    refine W_ret ?_
    exact fin_out hl2 rfl rfl rfl rfl
end
end Go.Proofs.YtnkcimeebobjaaaDoor.fitRounds
