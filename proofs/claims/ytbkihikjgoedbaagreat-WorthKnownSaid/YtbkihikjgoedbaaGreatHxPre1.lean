/- Regions that draw their order: what the compiler has checked, and the machine's run as a list of steps. -/
import Derived.Test.YtbkihikjgoedbaaGreatHxCall
namespace Hx
open Go

theorem coL_congr {co co' : CoF} : ∀ {l : List Operand}, (∀ x ∈ l, co x = co' x) → coL co l = coL co' l
  | [], _ => rfl
  | x :: l, h => by
    unfold coL
    rw [h x List.mem_cons_self, coL_congr (l := l) fun y hy => h y (List.mem_cons_of_mem _ hy)]
theorem coO_congr {co co' : CoF} {x : Option Operand} (h : ∀ y ∈ x.toList, co y = co' y) : coO co x = coO co' x := by
  cases x with
  | none => rfl
  | some x => show (co x).map some = (co' x).map some; rw [h x (by simp)]
theorem coParts_congr {co co' : CoF} {pl : Nat → Option (Nat × Nat)} : ∀ {l : List (Nat × Operand)}, (∀ x ∈ l.map (·.2), co x = co' x) → coParts co pl l = coParts co' pl l
  | [], _ => rfl
  | x :: l, h => by
    unfold coParts
    rw [h x.2 (by simp), coParts_congr (l := l) fun y hy => h y (by rw [List.map_cons]; exact List.mem_cons_of_mem _ hy)]

/-- only the operands matter -/
theorem compOp_congr {P : Program} {co co' : CoF} {o : Op} (h : ∀ x ∈ o.operands.toList, co x = co' x) : compOp P co o = compOp P co' o := by
  have callL : ∀ c : Call, (o = .call c ∨ o = .defer c) → (∀ x, c.callee = .value x → co x = co' x) ∧ coL co c.args.toList = coL co' c.args.toList := by
    intro c hc
    have hx : ∀ x ∈ c.operands.toList, co x = co' x := by
      rcases hc with rfl | rfl <;> exact h
    refine ⟨fun x hx' => hx x ?_, coL_congr fun x hx' => hx x ?_⟩
    · obtain ⟨cal, args, ts⟩ := c
      simp only at hx'
      subst hx'
      simp [Call.operands]
    · obtain ⟨cal, args, ts⟩ := c
      cases cal <;> simp [Call.operands] <;> simp at hx' <;> simp [hx']
  cases o with
  | build t ps =>
    simp only [compOp, cBuild]
    have : ∀ pl, coParts co pl ps.toList = coParts co' pl ps.toList := fun pl => coParts_congr fun x hx => h x (by simpa [Op.operands] using hx)
    simp only [this]
  | buildSlice t len ps =>
    simp only [compOp, cBuildSlice]
    have : ∀ pl, coParts co pl ps.toList = coParts co' pl ps.toList := fun pl => coParts_congr fun x hx => h x (by simpa [Op.operands] using hx)
    simp only [this]
  | makeFunc f first cap =>
    simp only [compOp]
    rw [coL_congr (l := first.toList) fun x hx => h x (by simp [Op.operands] at hx ⊢; exact .inl hx), coL_congr (l := cap.toList) fun x hx => h x (by simp [Op.operands] at hx ⊢; exact .inr hx)]
  | slice t x lo hi mx =>
    cases mx with
    | some m =>
      cases hi with
      | none => rfl
      | some hi =>
        simp only [compOp, cSlice3]
        rw [h x (by simp [Op.operands]), coO_congr (x := lo) fun y hy => h y (by cases lo <;> simp [Op.operands] at hy ⊢; simp [hy]), h hi (by simp [Op.operands]), h m (by simp [Op.operands])]
    | none =>
      simp only [compOp, cSlice]
      rw [h x (by simp [Op.operands]), coO_congr (x := lo) fun y hy => h y (by cases lo <;> simp [Op.operands] at hy ⊢; simp [hy]), coO_congr (x := hi) fun y hy => h y (by cases hi <;> simp [Op.operands] at hy ⊢; simp [hy])]
  | call c =>
    obtain ⟨h1, h2⟩ := callL c (.inl rfl)
    simp only [compOp]
    cases hcal : c.callee with
    | value x => simp only [h1 x hcal, h2]
    | builtin b => simp only [h2]
    | invoke r n => rfl
  | defer c =>
    obtain ⟨h1, h2⟩ := callL c (.inr rfl)
    simp only [compOp]
    cases hcal : c.callee with
    | value x => simp only [h1 x hcal, h2]
    | builtin b => rfl
    | invoke r n => rfl
  | makeMap t r => cases r <;> rfl
  | _ => first
    | rfl
    | (simp only [compOp, cFieldAddr, cField, cIndexAddr, cIndex, cMakeSlice, cLookup, cTypeAssert, cMapUpdate, cMapEntry]
       simp [Op.operands] at h
       simp [h])

/-- the destinations of the operations before the one at p, the nearest first -/
def dsAt (l : List Oper) (ds : List (Option Nat)) (p : Nat) : List (Option Nat) := ((l.take p).map (·.dst)).reverse ++ ds

theorem compIts_get {P : Program} {V : Vn} {rd : Bool} {all : Array Oper} : ∀ {l : List Oper} {ds : List (Option Nat)} {its : List IT}, compIts P V rd all l ds = some its → its.length = l.length ∧ ∀ p o, l[p]? = some o → ∃ it, its[p]? = some it ∧
    compOpB P (compX V (dsAt l ds p)) o.op = some it.op ∧ compG all (dsAt l ds p) o.guard = some it.grd ∧ it.wr = o.dst.bind (idxN · V.vsl) ∧ dstOk V o.dst = true ∧ (rd && isDfr o.op) = false
  | [], ds, its, h => by cases h; exact ⟨rfl, fun p o h => by simp at h⟩
  | o :: l, ds, its, h => by
    unfold compIts at h
    split at h
    · cases h
    · rename_i hcond
      rw [Bool.not_eq_true, Bool.or_eq_false_iff, Bool.not_eq_false'] at hcond
      split at h
      · rename_i k g its' hk hg hl
        cases h
        obtain ⟨h1, h2⟩ := compIts_get hl
        refine ⟨by simp [h1], fun p o' hp => ?_⟩
        cases p with
        | zero =>
          simp at hp; subst hp
          exact ⟨_, rfl, by simpa [dsAt] using hk, by simpa [dsAt] using hg, rfl, hcond.2, hcond.1⟩
        | succ p =>
          obtain ⟨it, h3, h4⟩ := h2 p o' (by simpa using hp)
          have : dsAt (o :: l) ds (p + 1) = dsAt l (o.dst :: ds) p := by simp [dsAt]
          rw [this]
          exact ⟨it, by simpa using h3, h4⟩
      · cases h

/-! The run. -/
structure PS where
  stk : List AV
  vs : List AV
  h : Heap
  h' : Heap
  v : AV
  kill : Option Nat
  on : Bool

def GrdR (it : IT) (s : PS) : Prop := guardOk it.grd s.stk s.vs = some s.on ∧ (s.on = false → s.v = undefA ∧ s.h' = s.h ∧ s.kill = none)
def HdR (cf : CallFn) (ks : List Nat) (it : IT) (s : PS) : Prop := s.on = true → evAtom cf ks s.stk s.vs s.h it.op = some (s.v, s.h', s.kill)
def TlR (cf : CallFn) (ds : Defs) (it : IT) (s : PS) : Prop := s.kill = none ∧ (s.on = true → evStep cf s.stk s.vs s.h ds it.op = some (.val s.v s.h' ds) ∧ chkOk it.chk s.stk s.vs s.h' = true)

def TrT (cf : CallFn) (ds : Defs) (fin : St) : List IT → List AV → List AV → Heap → List PS → Prop
  | [], _, vs, h, [] => fin = ⟨vs, h, ds⟩
  | it :: r, stk, vs, h, s :: T => s.stk = stk ∧ s.vs = vs ∧ s.h = h ∧ GrdR it s ∧ TlR cf ds it s ∧ TrT cf ds fin r (s.v :: stk) (putV vs it.wr s.v) s.h' T
  | _, _, _, _, _ => False
def TrH (cf : CallFn) (ds : Defs) (fin : St) (cs : List (Nat × AF)) : Nat → List IT → List Nat → List AV → List AV → Heap → List PS → Prop
  | 0, its, ks, stk, vs, h, T => chkOk cs stk vs (h.kills ks) = true ∧ TrT cf ds fin its stk vs (h.kills ks) T
  | k + 1, it :: r, ks, stk, vs, h, s :: T => s.stk = stk ∧ s.vs = vs ∧ s.h = h ∧ GrdR it s ∧ HdR cf ks it s ∧ (∀ b, s.kill = some b → b ∉ ks) ∧ TrH cf ds fin cs k r (s.kill.toList ++ ks) (s.v :: stk) (putV vs it.wr s.v) s.h' T
  | _, _, _, _, _, _, _ => False

theorem evStep_ds {cf : CallFn} {stk vs : List AV} {h h' : Heap} {ds ds' : Defs} {o : OpK} {v : AV} (hd : ∀ f args, o ≠ .dfr f args) (he : evStep cf stk vs h ds o = some (.val v h' ds')) : ds' = ds := by
  cases o with
  | a f =>
    simp only [evStep, ob_some, Option.some.injEq] at he
    obtain ⟨r, _, h1⟩ := he
    unfold aR at h1; cases h1; rfl
  | e f =>
    simp only [evStep, ob_some, Option.some.injEq] at he
    obtain ⟨r, _, h1⟩ := he
    cases h1; rfl
  | call f args =>
    simp only [evStep, ob_some, Option.some.injEq] at he
    obtain ⟨_, _, _, _, ⟨r, h2⟩, _, h1⟩ := he
    cases r <;> simp only [callR, OR.val.injEq, reduceCtorEq] at h1
    exact h1.2.2.symm
  | dfr f args => exact absurd rfl (hd f args)
  | pan x =>
    simp only [evStep, ob_some, Option.some.injEq] at he
    obtain ⟨_, _, _, _, h1⟩ := he
    cases h1
  | rcv => cases he
  | bad => cases he

theorem evTail_tr {cf : CallFn} {ds : Defs} {ex : Ex} {fin : St} : ∀ {its : List IT} {stk vs : List AV} {h : Heap}, (∀ it ∈ its, ∀ f args, it.op ≠ .dfr f args) → evTail cf its stk vs h ds = some (ex, fin) → ex = .normal ∧ ∃ T, TrT cf ds fin its stk vs h T
  | [], stk, vs, h, _, he => by cases he; exact ⟨rfl, [], rfl⟩
  | it :: its, stk, vs, h, hd, he => by
    have he' : ob (guardOk it.grd stk vs) (fun b => bif_ b
      (ob (evStep cf stk vs h ds it.op) fun r => match r with
        | .val v h ds => bif_ (chkOk it.chk stk vs h) (evTail cf its (v :: stk) (putV vs it.wr v) h ds) none
        | .pan _ _ => none)
      (evTail cf its (undefA :: stk) (putV vs it.wr undefA) h ds)) = some (ex, fin) := he
    rw [ob_some] at he'
    obtain ⟨b, hb, he'⟩ := he'
    have hd' : ∀ it ∈ its, ∀ f args, it.op ≠ .dfr f args := fun i hi => hd i (List.mem_cons_of_mem _ hi)
    cases b with
    | true =>
      have he2 : ob (evStep cf stk vs h ds it.op) (fun r => match r with
        | .val v h ds => bif_ (chkOk it.chk stk vs h) (evTail cf its (v :: stk) (putV vs it.wr v) h ds) none
        | .pan _ _ => none) = some (ex, fin) := he'
      rw [ob_some] at he2
      obtain ⟨r, hr, he2⟩ := he2
      cases r with
      | pan v h' => cases he2
      | val v h' ds' =>
        have := evStep_ds (hd it List.mem_cons_self) hr
        subst this
        simp only [bif_none] at he2
        obtain ⟨hck, he2⟩ := he2
        obtain ⟨h0, T, hT⟩ := evTail_tr hd' he2
        exact ⟨h0, ⟨stk, vs, h, h', v, none, true⟩ :: T, rfl, rfl, rfl, ⟨hb, fun h => by cases h⟩, ⟨rfl, fun _ => ⟨hr, hck⟩⟩, hT⟩
    | false =>
      have he2 : evTail cf its (undefA :: stk) (putV vs it.wr undefA) h ds = some (ex, fin) := he'
      obtain ⟨h0, T, hT⟩ := evTail_tr hd' he2
      exact ⟨h0, ⟨stk, vs, h, h, undefA, none, false⟩ :: T, rfl, rfl, rfl, ⟨hb, fun _ => ⟨rfl, rfl, rfl⟩⟩, ⟨rfl, fun h => by cases h⟩, hT⟩

theorem evPre_tr {cf : CallFn} {ds : Defs} {ex : Ex} {fin : St} {cs : List (Nat × AF)} : ∀ {k : Nat} {its : List IT} {ks : List Nat} {stk vs : List AV} {h : Heap}, (∀ it ∈ its, ∀ f args, it.op ≠ .dfr f args) → evPre cf cs k its ks stk vs h ds = some (ex, fin) →
    ex = .normal ∧ ∃ T, TrH cf ds fin cs k its ks stk vs h T
  | 0, its, ks, stk, vs, h, hd, he => by
    have he' : bif_ (chkOk cs stk vs (h.kills ks)) (evTail cf its stk vs (h.kills ks) ds) none = some (ex, fin) := he
    simp only [bif_none] at he'
    obtain ⟨h1, h2⟩ := he'
    obtain ⟨h3, T, h4⟩ := evTail_tr hd h2
    exact ⟨h3, T, h1, h4⟩
  | k + 1, [], ks, stk, vs, h, hd, he => by cases he
  | k + 1, it :: its, ks, stk, vs, h, hd, he => by
    have he' : ob (guardOk it.grd stk vs) (fun g => bif_ g
          (ob (evAtom cf ks stk vs h it.op) fun x => match x.2.2 with
            | some b => bif_ (memN b ks) none (evPre cf cs k its (b :: ks) (x.1 :: stk) (putV vs it.wr x.1) x.2.1 ds)
            | none => evPre cf cs k its ks (x.1 :: stk) (putV vs it.wr x.1) x.2.1 ds)
          (evPre cf cs k its ks (undefA :: stk) (putV vs it.wr undefA) h ds)) = some (ex, fin) := he
    rw [ob_some] at he'
    obtain ⟨b, hb, he'⟩ := he'
    have hd' : ∀ it ∈ its, ∀ f args, it.op ≠ .dfr f args := fun i hi => hd i (List.mem_cons_of_mem _ hi)
    cases b with
    | true =>
      have he2 : ob (evAtom cf ks stk vs h it.op) (fun x => match x.2.2 with
            | some b => bif_ (memN b ks) none (evPre cf cs k its (b :: ks) (x.1 :: stk) (putV vs it.wr x.1) x.2.1 ds)
            | none => evPre cf cs k its ks (x.1 :: stk) (putV vs it.wr x.1) x.2.1 ds) = some (ex, fin) := he'
      rw [ob_some] at he2
      obtain ⟨⟨v, h', kl⟩, hr, he2⟩ := he2
      cases kl with
      | none =>
        obtain ⟨h1, T, hT⟩ := evPre_tr hd' he2
        exact ⟨h1, ⟨stk, vs, h, h', v, none, true⟩ :: T, rfl, rfl, rfl, ⟨hb, fun h => by cases h⟩, fun _ => hr, fun b h => (by cases h), hT⟩
      | some kl =>
        simp only [bif_none'] at he2
        obtain ⟨hm, he2⟩ := he2
        obtain ⟨h1, T, hT⟩ := evPre_tr hd' he2
        refine ⟨h1, ⟨stk, vs, h, h', v, some kl, true⟩ :: T, rfl, rfl, rfl, ⟨hb, fun h => by cases h⟩, fun _ => hr, fun b h => ?_, hT⟩
        cases h
        intro hmem
        rw [memN_true.2 hmem] at hm; cases hm
    | false =>
      have he2 : evPre cf cs k its ks (undefA :: stk) (putV vs it.wr undefA) h ds = some (ex, fin) := he'
      obtain ⟨h1, T, hT⟩ := evPre_tr hd' he2
      exact ⟨h1, ⟨stk, vs, h, h, undefA, none, false⟩ :: T, rfl, rfl, rfl, ⟨hb, fun _ => ⟨rfl, rfl, rfl⟩⟩, fun h => (by cases h), fun b h => (by cases h), hT⟩

end Hx
