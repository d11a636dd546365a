/- The machine (part 5). -/
import Derived.Test.YtpjkppnbnopmmaaGreatHx4
import Derived.OrdersIn
/- Regions that draw their order: what the compiler has checked, and the machine's run as a list of steps. -/
namespace Hx
open Go

theorem coL_congr {co co' : CoF} : ∀ {l : List Operand}, (∀ x ∈ l, co x = co' x) → coL co l = coL co' l
  | [], _ => rfl
  | x :: l, h => by
    unfold coL
    rw [h x List.mem_cons_self, coL_congr (l := l) fun y hy => h y (List.mem_cons_of_mem _ hy)]
theorem coO_congr {co co' : CoF} {x : Option Operand} (h : ∀ y ∈ x.toList, co y = co' y) : coO co x = coO co' x := by
  cases x with
  | none => rfl
  | some x => show (co x).map some = (co' x).map some; rw [h x (by simp)]
theorem coParts_congr {co co' : CoF} {pl : Nat → Option (Nat × Nat)} : ∀ {l : List (Nat × Operand)}, (∀ x ∈ l.map (·.2), co x = co' x) → coParts co pl l = coParts co' pl l
  | [], _ => rfl
  | x :: l, h => by
    unfold coParts
    rw [h x.2 (by simp), coParts_congr (l := l) fun y hy => h y (by rw [List.map_cons]; exact List.mem_cons_of_mem _ hy)]

/-- only the operands matter -/
theorem compOp_congr {P : Program} {co co' : CoF} {o : Op} (h : ∀ x ∈ o.operands.toList, co x = co' x) : compOp P co o = compOp P co' o := by
  have callL : ∀ c : Call, (o = .call c ∨ o = .defer c) → (∀ x, c.callee = .value x → co x = co' x) ∧ coL co c.args.toList = coL co' c.args.toList := by
    intro c hc
    have hx : ∀ x ∈ c.operands.toList, co x = co' x := by
      rcases hc with rfl | rfl <;> exact h
    refine ⟨fun x hx' => hx x ?_, coL_congr fun x hx' => hx x ?_⟩
    · obtain ⟨cal, args, ts⟩ := c
      simp only at hx'
      subst hx'
      simp [Call.operands]
    · obtain ⟨cal, args, ts⟩ := c
      cases cal <;> simp [Call.operands] <;> simp at hx' <;> simp [hx']
  cases o with
  | build t ps =>
    simp only [compOp, cBuild]
    have : ∀ pl, coParts co pl ps.toList = coParts co' pl ps.toList := fun pl => coParts_congr fun x hx => h x (by simpa [Op.operands] using hx)
    simp only [this]
  | buildSlice t len ps =>
    simp only [compOp, cBuildSlice]
    have : ∀ pl, coParts co pl ps.toList = coParts co' pl ps.toList := fun pl => coParts_congr fun x hx => h x (by simpa [Op.operands] using hx)
    simp only [this]
  | makeFunc f first cap =>
    simp only [compOp]
    rw [coL_congr (l := first.toList) fun x hx => h x (by simp [Op.operands] at hx ⊢; exact .inl hx), coL_congr (l := cap.toList) fun x hx => h x (by simp [Op.operands] at hx ⊢; exact .inr hx)]
  | slice t x lo hi mx =>
    cases mx with
    | some m =>
      cases hi with
      | none => rfl
      | some hi =>
        simp only [compOp, cSlice3]
        rw [h x (by simp [Op.operands]), coO_congr (x := lo) fun y hy => h y (by cases lo <;> simp [Op.operands] at hy ⊢; simp [hy]), h hi (by simp [Op.operands]), h m (by simp [Op.operands])]
    | none =>
      simp only [compOp, cSlice]
      rw [h x (by simp [Op.operands]), coO_congr (x := lo) fun y hy => h y (by cases lo <;> simp [Op.operands] at hy ⊢; simp [hy]), coO_congr (x := hi) fun y hy => h y (by cases hi <;> simp [Op.operands] at hy ⊢; simp [hy])]
  | call c =>
    obtain ⟨h1, h2⟩ := callL c (.inl rfl)
    simp only [compOp]
    cases hcal : c.callee with
    | value x => simp only [h1 x hcal, h2]
    | builtin b => simp only [h2]
    | invoke r n => rfl
  | defer c =>
    obtain ⟨h1, h2⟩ := callL c (.inr rfl)
    simp only [compOp]
    cases hcal : c.callee with
    | value x => simp only [h1 x hcal, h2]
    | builtin b => rfl
    | invoke r n => rfl
  | makeMap t r => cases r <;> rfl
  | _ => first
    | rfl
    | (simp only [compOp, cFieldAddr, cField, cIndexAddr, cIndex, cMakeSlice, cLookup, cTypeAssert, cMapUpdate, cMapEntry]
       simp [Op.operands] at h
       simp [h])

/-- the destinations of the operations before the one at p, the nearest first -/
def dsAt (l : List Oper) (ds : List (Option Nat)) (p : Nat) : List (Option Nat) := ((l.take p).map (·.dst)).reverse ++ ds

theorem compIts_get {P : Program} {V : Vn} {rd : Bool} {all : Array Oper} : ∀ {l : List Oper} {ds : List (Option Nat)} {its : List IT}, compIts P V rd all l ds = some its → its.length = l.length ∧ ∀ p o, l[p]? = some o → ∃ it, its[p]? = some it ∧
    compOpB P (compX V (dsAt l ds p)) o.op = some it.op ∧ compG all (dsAt l ds p) o.guard = some it.grd ∧ it.wr = o.dst.bind (idxN · V.vsl) ∧ dstOk V o.dst = true ∧ (rd && isDfr o.op) = false
  | [], ds, its, h => by cases h; exact ⟨rfl, fun p o h => by simp at h⟩
  | o :: l, ds, its, h => by
    unfold compIts at h
    split at h
    · cases h
    · rename_i hcond
      rw [Bool.not_eq_true, Bool.or_eq_false_iff, Bool.not_eq_false'] at hcond
      split at h
      · rename_i k g its' hk hg hl
        cases h
        obtain ⟨h1, h2⟩ := compIts_get hl
        refine ⟨by simp [h1], fun p o' hp => ?_⟩
        cases p with
        | zero =>
          simp at hp; subst hp
          exact ⟨_, rfl, by simpa [dsAt] using hk, by simpa [dsAt] using hg, rfl, hcond.2, hcond.1⟩
        | succ p =>
          obtain ⟨it, h3, h4⟩ := h2 p o' (by simpa using hp)
          have : dsAt (o :: l) ds (p + 1) = dsAt l (o.dst :: ds) p := by simp [dsAt]
          rw [this]
          exact ⟨it, by simpa using h3, h4⟩
      · cases h

/-! The run. -/
structure PS where
  stk : List AV
  vs : List AV
  h : Heap
  h' : Heap
  v : AV
  kill : Option Nat
  on : Bool

def GrdR (it : IT) (s : PS) : Prop := guardOk it.grd s.stk s.vs = some s.on ∧ (s.on = false → s.v = undefA ∧ s.h' = s.h ∧ s.kill = none)
def HdR (cf : CallFn) (ks : List Nat) (it : IT) (s : PS) : Prop := s.on = true → evAtom cf ks s.stk s.vs s.h it.op = some (s.v, s.h', s.kill)
def TlR (cf : CallFn) (ds : Defs) (it : IT) (s : PS) : Prop := s.kill = none ∧ (s.on = true → evStep cf s.stk s.vs s.h ds it.op = some (.val s.v s.h' ds) ∧ chkOk it.chk s.stk s.vs s.h' = true)

def TrT (cf : CallFn) (ds : Defs) (fin : St) : List IT → List AV → List AV → Heap → List PS → Prop
  | [], _, vs, h, [] => fin = ⟨vs, h, ds⟩
  | it :: r, stk, vs, h, s :: T => s.stk = stk ∧ s.vs = vs ∧ s.h = h ∧ GrdR it s ∧ TlR cf ds it s ∧ TrT cf ds fin r (s.v :: stk) (putV vs it.wr s.v) s.h' T
  | _, _, _, _, _ => False
def TrH (cf : CallFn) (ds : Defs) (fin : St) (cs : List (Nat × AF)) : Nat → List IT → List Nat → List AV → List AV → Heap → List PS → Prop
  | 0, its, ks, stk, vs, h, T => chkOk cs stk vs (h.kills ks) = true ∧ TrT cf ds fin its stk vs (h.kills ks) T
  | k + 1, it :: r, ks, stk, vs, h, s :: T => s.stk = stk ∧ s.vs = vs ∧ s.h = h ∧ GrdR it s ∧ HdR cf ks it s ∧ (∀ b, s.kill = some b → b ∉ ks) ∧ TrH cf ds fin cs k r (s.kill.toList ++ ks) (s.v :: stk) (putV vs it.wr s.v) s.h' T
  | _, _, _, _, _, _, _ => False

/-- .. up to an operation that panics -/
def TrP (cf : CallFn) (ds : Defs) (v : AV) (fin : St) : List IT → List AV → List AV → Heap → List PS → Prop
  | it :: _, stk, vs, h, [] => it.pan = true ∧ guardOk it.grd stk vs = some true ∧ ∃ h', evStep cf stk vs h ds it.op = some (.pan v h') ∧ fin = ⟨vs, h', ds⟩
  | it :: r, stk, vs, h, s :: T => s.stk = stk ∧ s.vs = vs ∧ s.h = h ∧ GrdR it s ∧ TlR cf ds it s ∧ TrP cf ds v fin r (s.v :: stk) (putV vs it.wr s.v) s.h' T
  | [], _, _, _, _ => False
def TrHP (cf : CallFn) (ds : Defs) (v : AV) (fin : St) (cs : List (Nat × AF)) : Nat → List IT → List Nat → List AV → List AV → Heap → List PS → Prop
  | 0, its, ks, stk, vs, h, T => chkOk cs stk vs (h.kills ks) = true ∧ TrP cf ds v fin its stk vs (h.kills ks) T
  | k + 1, it :: r, ks, stk, vs, h, s :: T => s.stk = stk ∧ s.vs = vs ∧ s.h = h ∧ GrdR it s ∧ HdR cf ks it s ∧ (∀ b, s.kill = some b → b ∉ ks) ∧ TrHP cf ds v fin cs k r (s.kill.toList ++ ks) (s.v :: stk) (putV vs it.wr s.v) s.h' T
  | _, _, _, _, _, _, _ => False

theorem evStep_ds {cf : CallFn} {stk vs : List AV} {h h' : Heap} {ds ds' : Defs} {o : OpK} {v : AV} (hd : ∀ f args, o ≠ .dfr f args) (he : evStep cf stk vs h ds o = some (.val v h' ds')) : ds' = ds := by
  cases o with
  | a f =>
    simp only [evStep, ob_some, Option.some.injEq] at he
    obtain ⟨r, _, h1⟩ := he
    unfold aR at h1; cases h1; rfl
  | e f =>
    simp only [evStep, ob_some, Option.some.injEq] at he
    obtain ⟨r, _, h1⟩ := he
    cases h1; rfl
  | call f args =>
    simp only [evStep, ob_some, Option.some.injEq] at he
    obtain ⟨_, _, _, _, ⟨r, h2⟩, _, h1⟩ := he
    cases r <;> simp only [callR, OR.val.injEq, reduceCtorEq] at h1
    exact h1.2.2.symm
  | dfr f args => exact absurd rfl (hd f args)
  | pan x =>
    simp only [evStep, ob_some, Option.some.injEq] at he
    obtain ⟨_, _, _, _, h1⟩ := he
    cases h1
  | rcv => cases he
  | bad => cases he

theorem evTail_tr {cf : CallFn} {ds : Defs} {ex : Ex} {fin : St} : ∀ {its : List IT} {stk vs : List AV} {h : Heap}, (∀ it ∈ its, ∀ f args, it.op ≠ .dfr f args) → evTail cf its stk vs h ds = some (ex, fin) → (ex = .normal ∧ ∃ T, TrT cf ds fin its stk vs h T) ∨ ∃ v, ex = .panic v ∧ ∃ T, TrP cf ds v fin its stk vs h T
  | [], stk, vs, h, _, he => by cases he; exact .inl ⟨rfl, [], rfl⟩
  | it :: its, stk, vs, h, hd, he => by
    have he' : ob (guardOk it.grd stk vs) (fun b => bif_ b
      (ob (evStep cf stk vs h ds it.op) fun r => match r with
        | .val v h ds => bif_ (chkOk it.chk stk vs h) (evTail cf its (v :: stk) (putV vs it.wr v) h ds) none
        | .pan v h => bif_ it.pan (some (.panic v, ⟨vs, h, ds⟩)) none)
      (evTail cf its (undefA :: stk) (putV vs it.wr undefA) h ds)) = some (ex, fin) := he
    rw [ob_some] at he'
    obtain ⟨b, hb, he'⟩ := he'
    have hd' : ∀ it ∈ its, ∀ f args, it.op ≠ .dfr f args := fun i hi => hd i (List.mem_cons_of_mem _ hi)
    cases b with
    | true =>
      have he2 : ob (evStep cf stk vs h ds it.op) (fun r => match r with
        | .val v h ds => bif_ (chkOk it.chk stk vs h) (evTail cf its (v :: stk) (putV vs it.wr v) h ds) none
        | .pan v h => bif_ it.pan (some (.panic v, ⟨vs, h, ds⟩)) none) = some (ex, fin) := he'
      rw [ob_some] at he2
      obtain ⟨r, hr, he2⟩ := he2
      cases r with
      | pan v h' =>
        have he3 : bif_ it.pan (some (Ex.panic v, (⟨vs, h', ds⟩ : St))) none = some (ex, fin) := he2
        rw [bif_none] at he3
        obtain ⟨hp, he3⟩ := he3
        cases he3
        exact .inr ⟨v, rfl, [], hp, hb, h', hr, rfl⟩
      | val v h' ds' =>
        have := evStep_ds (hd it List.mem_cons_self) hr
        subst this
        simp only [bif_none] at he2
        obtain ⟨hck, he2⟩ := he2
        rcases evTail_tr hd' he2 with ⟨h0, T, hT⟩ | ⟨w, h0, T, hT⟩
        · exact .inl ⟨h0, ⟨stk, vs, h, h', v, none, true⟩ :: T, rfl, rfl, rfl, ⟨hb, fun h => by cases h⟩, ⟨rfl, fun _ => ⟨hr, hck⟩⟩, hT⟩
        · exact .inr ⟨w, h0, ⟨stk, vs, h, h', v, none, true⟩ :: T, rfl, rfl, rfl, ⟨hb, fun h => by cases h⟩, ⟨rfl, fun _ => ⟨hr, hck⟩⟩, hT⟩
    | false =>
      have he2 : evTail cf its (undefA :: stk) (putV vs it.wr undefA) h ds = some (ex, fin) := he'
      rcases evTail_tr hd' he2 with ⟨h0, T, hT⟩ | ⟨w, h0, T, hT⟩
      · exact .inl ⟨h0, ⟨stk, vs, h, h, undefA, none, false⟩ :: T, rfl, rfl, rfl, ⟨hb, fun _ => ⟨rfl, rfl, rfl⟩⟩, ⟨rfl, fun h => by cases h⟩, hT⟩
      · exact .inr ⟨w, h0, ⟨stk, vs, h, h, undefA, none, false⟩ :: T, rfl, rfl, rfl, ⟨hb, fun _ => ⟨rfl, rfl, rfl⟩⟩, ⟨rfl, fun h => by cases h⟩, hT⟩

theorem evPre_tr {cf : CallFn} {ds : Defs} {ex : Ex} {fin : St} {cs : List (Nat × AF)} : ∀ {k : Nat} {its : List IT} {ks : List Nat} {stk vs : List AV} {h : Heap}, (∀ it ∈ its, ∀ f args, it.op ≠ .dfr f args) → evPre cf cs k its ks stk vs h ds = some (ex, fin) →
    (ex = .normal ∧ ∃ T, TrH cf ds fin cs k its ks stk vs h T) ∨ ∃ v, ex = .panic v ∧ ∃ T, TrHP cf ds v fin cs k its ks stk vs h T
  | 0, its, ks, stk, vs, h, hd, he => by
    have he' : bif_ (chkOk cs stk vs (h.kills ks)) (evTail cf its stk vs (h.kills ks) ds) none = some (ex, fin) := he
    simp only [bif_none] at he'
    obtain ⟨h1, h2⟩ := he'
    rcases evTail_tr hd h2 with ⟨h3, T, h4⟩ | ⟨w, h3, T, h4⟩
    · exact .inl ⟨h3, T, h1, h4⟩
    · exact .inr ⟨w, h3, T, h1, h4⟩
  | k + 1, [], ks, stk, vs, h, hd, he => by cases he
  | k + 1, it :: its, ks, stk, vs, h, hd, he => by
    have he' : ob (guardOk it.grd stk vs) (fun g => bif_ g
          (ob (evAtom cf ks stk vs h it.op) fun x => match x.2.2 with
            | some b => bif_ (memN b ks) none (evPre cf cs k its (b :: ks) (x.1 :: stk) (putV vs it.wr x.1) x.2.1 ds)
            | none => evPre cf cs k its ks (x.1 :: stk) (putV vs it.wr x.1) x.2.1 ds)
          (evPre cf cs k its ks (undefA :: stk) (putV vs it.wr undefA) h ds)) = some (ex, fin) := he
    rw [ob_some] at he'
    obtain ⟨b, hb, he'⟩ := he'
    have hd' : ∀ it ∈ its, ∀ f args, it.op ≠ .dfr f args := fun i hi => hd i (List.mem_cons_of_mem _ hi)
    cases b with
    | true =>
      have he2 : ob (evAtom cf ks stk vs h it.op) (fun x => match x.2.2 with
            | some b => bif_ (memN b ks) none (evPre cf cs k its (b :: ks) (x.1 :: stk) (putV vs it.wr x.1) x.2.1 ds)
            | none => evPre cf cs k its ks (x.1 :: stk) (putV vs it.wr x.1) x.2.1 ds) = some (ex, fin) := he'
      rw [ob_some] at he2
      obtain ⟨⟨v, h', kl⟩, hr, he2⟩ := he2
      cases kl with
      | none =>
        rcases evPre_tr hd' he2 with ⟨h1, T, hT⟩ | ⟨w, h1, T, hT⟩
        · exact .inl ⟨h1, ⟨stk, vs, h, h', v, none, true⟩ :: T, rfl, rfl, rfl, ⟨hb, fun h => by cases h⟩, fun _ => hr, fun b h => (by cases h), hT⟩
        · exact .inr ⟨w, h1, ⟨stk, vs, h, h', v, none, true⟩ :: T, rfl, rfl, rfl, ⟨hb, fun h => by cases h⟩, fun _ => hr, fun b h => (by cases h), hT⟩
      | some kl =>
        simp only [bif_none'] at he2
        obtain ⟨hm, he2⟩ := he2
        have hkl : ∀ b, some kl = some b → b ∉ ks := by
          intro b h
          cases h
          intro hmem
          rw [memN_true.2 hmem] at hm; cases hm
        rcases evPre_tr hd' he2 with ⟨h1, T, hT⟩ | ⟨w, h1, T, hT⟩
        · exact .inl ⟨h1, ⟨stk, vs, h, h', v, some kl, true⟩ :: T, rfl, rfl, rfl, ⟨hb, fun h => by cases h⟩, fun _ => hr, hkl, hT⟩
        · exact .inr ⟨w, h1, ⟨stk, vs, h, h', v, some kl, true⟩ :: T, rfl, rfl, rfl, ⟨hb, fun h => by cases h⟩, fun _ => hr, hkl, hT⟩
    | false =>
      have he2 : evPre cf cs k its ks (undefA :: stk) (putV vs it.wr undefA) h ds = some (ex, fin) := he'
      rcases evPre_tr hd' he2 with ⟨h1, T, hT⟩ | ⟨w, h1, T, hT⟩
      · exact .inl ⟨h1, ⟨stk, vs, h, h, undefA, none, false⟩ :: T, rfl, rfl, rfl, ⟨hb, fun _ => ⟨rfl, rfl, rfl⟩⟩, fun h => (by cases h), fun b h => (by cases h), hT⟩
      · exact .inr ⟨w, h1, ⟨stk, vs, h, h, undefA, none, false⟩ :: T, rfl, rfl, rfl, ⟨hb, fun _ => ⟨rfl, rfl, rfl⟩⟩, fun h => (by cases h), fun b h => (by cases h), hT⟩

end Hx

/- Regions that draw their order: the steps by their places. -/
namespace Hx
open Go

def hdAt : List PS → Heap → Nat → Heap
  | _, h, 0 => h
  | [], h, _ + 1 => h
  | s :: T, _, p + 1 => hdAt T s.h' p
def ksAt : List PS → List Nat → Nat → List Nat
  | _, ks, 0 => ks
  | [], ks, _ + 1 => ks
  | s :: T, ks, p + 1 => ksAt T (s.kill.toList ++ ks) p
noncomputable def vsAt : List IT → List PS → List AV → Nat → List AV
  | it :: r, s :: T, vs, p + 1 => vsAt r T (putV vs it.wr s.v) p
  | _, _, vs, _ => vs
def stkAt : List PS → List AV → Nat → List AV
  | s :: T, stk, p + 1 => stkAt T (s.v :: stk) p
  | _, stk, _ => stk
/-- the heap before the operation at p, from the end of the head on -/
noncomputable def tlAt (k : Nat) (T : List PS) (ks : List Nat) (h : Heap) (p : Nat) : Heap := if p = k then (hdAt T h k).kills (ksAt T ks k) else hdAt T h p

theorem hdAt_succ : ∀ {T : List PS} {h : Heap} {p : Nat} {s : PS}, T[p]? = some s → hdAt T h (p + 1) = s.h'
  | [], h, p, s, hs => by simp at hs
  | x :: T, h, 0, s, hs => by simp at hs; subst hs; cases T <;> rfl
  | x :: T, h, p + 1, s, hs => hdAt_succ (T := T) (h := x.h') (p := p) (by simpa using hs)

theorem ksAt_mem {b : Nat} : ∀ {T : List PS} {ks : List Nat} {p : Nat}, b ∈ ksAt T ks p ↔ b ∈ ks ∨ ∃ q s, q < p ∧ T[q]? = some s ∧ s.kill = some b
  | [], ks, 0 => by simp [ksAt]
  | x :: T, ks, 0 => by simp [ksAt]
  | [], ks, p + 1 => by simp [ksAt]
  | x :: T, ks, p + 1 => by
    have e : ksAt (x :: T) ks (p + 1) = ksAt T (x.kill.toList ++ ks) p := rfl
    rw [e, ksAt_mem (T := T)]
    constructor
    · rintro (h | ⟨q, s, h1, h2, h3⟩)
      · rcases List.mem_append.1 h with h | h
        · exact .inr ⟨0, x, by omega, rfl, by simpa using h⟩
        · exact .inl h
      · exact .inr ⟨q + 1, s, by omega, by simpa using h2, h3⟩
    · rintro (h | ⟨q, s, h1, h2, h3⟩)
      · exact .inl (List.mem_append.2 (.inr h))
      · cases q with
        | zero => simp at h2; subst h2; exact .inl (List.mem_append.2 (.inl (by simp [h3])))
        | succ q => exact .inr ⟨q, s, by omega, by simpa using h2, h3⟩

theorem stkAt_get : ∀ {T : List PS} {stk : List AV} {p : Nat}, p ≤ T.length → stkAt T stk p = ((T.take p).map (·.v)).reverse ++ stk
  | [], stk, p, h => by have : p = 0 := by simpa using h
                        subst this; rfl
  | x :: T, stk, 0, _ => rfl
  | x :: T, stk, p + 1, h => by
    show stkAt T (x.v :: stk) p = _
    rw [stkAt_get (by simpa using h)]
    simp

theorem putV_get {vs : List AV} {wr : Option Nat} {v : AV} {i : Nat} : (putV vs wr v)[i]? = if wr = some i ∧ i < vs.length then some v else vs[i]? := by
  cases wr with
  | none => simp; rfl
  | some j =>
    show (set1 vs j v)[i]? = _
    rw [set1_eq, List.getElem?_set]
    by_cases h : j = i
    · subst h
      by_cases h2 : j < vs.length <;> simp [h2]
    · simp [h]
theorem putV_length {vs : List AV} {wr : Option Nat} {v : AV} : (putV vs wr v).length = vs.length := by
  cases wr with
  | none => rfl
  | some j => show (set1 vs j v).length = _; rw [set1_eq, List.length_set]

theorem vsAt_length : ∀ {its : List IT} {T : List PS} {vs : List AV} {p : Nat}, (vsAt its T vs p).length = vs.length
  | [], T, vs, p => by cases T <;> cases p <;> rfl
  | it :: r, [], vs, p => by cases p <;> rfl
  | it :: r, s :: T, vs, 0 => rfl
  | it :: r, s :: T, vs, p + 1 => (vsAt_length (its := r) (T := T) (p := p)).trans putV_length

/-- what no operation has written -/
theorem vsAt_old {i : Nat} : ∀ {its : List IT} {T : List PS} {vs : List AV} {p : Nat}, (∀ q it, q < p → its[q]? = some it → it.wr ≠ some i) → (vsAt its T vs p)[i]? = vs[i]?
  | [], T, vs, p, _ => by cases T <;> cases p <;> rfl
  | it :: r, [], vs, p, _ => by cases p <;> rfl
  | it :: r, s :: T, vs, 0, _ => rfl
  | it :: r, s :: T, vs, p + 1, h => by
    show (vsAt r T (putV vs it.wr s.v) p)[i]? = _
    rw [vsAt_old (its := r) (T := T) (p := p) fun q it' hq hi => h (q + 1) it' (by omega) (by simpa using hi), putV_get, if_neg (fun hh => h 0 it (by omega) rfl hh.1)]

/-- what one operation alone has written -/
theorem vsAt_new {i : Nat} {it0 : IT} {s0 : PS} : ∀ {its : List IT} {T : List PS} {vs : List AV} {p q : Nat}, its[q]? = some it0 → T[q]? = some s0 → it0.wr = some i → q < p → i < vs.length → (∀ q' it, q' ≠ q → its[q']? = some it → it.wr ≠ some i) → (vsAt its T vs p)[i]? = some s0.v
  | [], T, vs, p, q, h, _, _, _, _, _ => by simp at h
  | it :: r, [], vs, p, q, _, h, _, _, _, _ => by simp at h
  | it :: r, s :: T, vs, 0, q, _, _, _, h, _, _ => by omega
  | it :: r, s :: T, vs, p + 1, 0, h1, h2, h3, _, hi, h4 => by
    simp at h1 h2
    subst h1 h2
    show (vsAt r T (putV vs it.wr s.v) p)[i]? = _
    rw [vsAt_old (its := r) (T := T) (p := p) fun q it' hq hi => h4 (q + 1) it' (by omega) (by simpa using hi), putV_get, if_pos ⟨h3, hi⟩]
  | it :: r, s :: T, vs, p + 1, q + 1, h1, h2, h3, h5, hi, h4 =>
    vsAt_new (its := r) (T := T) (vs := putV vs it.wr s.v) (p := p) (q := q) (by simpa using h1) (by simpa using h2) h3 (by omega) (by rw [putV_length]; exact hi) fun q' it' hq hi' => h4 (q' + 1) it' (by omega) (by simpa using hi')

section
variable {cf : CallFn} {ds : Defs} {fin : St} {cs : List (Nat × AF)}

theorem TrT.get : ∀ {its : List IT} {stk vs : List AV} {h : Heap} {T : List PS}, TrT cf ds fin its stk vs h T → T.length = its.length ∧ fin = ⟨vsAt its T vs its.length, hdAt T h its.length, ds⟩ ∧
    ∀ p s it, T[p]? = some s → its[p]? = some it → s.stk = stkAt T stk p ∧ s.vs = vsAt its T vs p ∧ s.h = hdAt T h p ∧ GrdR it s ∧ TlR cf ds it s
  | [], stk, vs, h, [], ht => ⟨rfl, ht, fun p s it hs => by simp at hs⟩
  | [], stk, vs, h, _ :: _, ht => ht.elim
  | _ :: _, stk, vs, h, [], ht => ht.elim
  | it :: r, stk, vs, h, s :: T, ht => by
    obtain ⟨h1, h2, h3, h4, h5, h6⟩ := ht
    obtain ⟨g1, g2, g3⟩ := h6.get
    refine ⟨by simp [g1], g2, fun p s' it' hs hi => ?_⟩
    cases p with
    | zero =>
      simp at hs hi
      subst hs hi
      exact ⟨h1, h2, h3, h4, h5⟩
    | succ p => exact g3 p s' it' (by simpa using hs) (by simpa using hi)

theorem TrH.get : ∀ {k : Nat} {its : List IT} {ks : List Nat} {stk vs : List AV} {h : Heap} {T : List PS}, TrH cf ds fin cs k its ks stk vs h T → T.length = its.length ∧ k ≤ its.length ∧ fin = ⟨vsAt its T vs its.length, tlAt k T ks h its.length, ds⟩ ∧ chkOk cs (stkAt T stk k) (vsAt its T vs k) (tlAt k T ks h k) = true ∧
    ∀ p s it, T[p]? = some s → its[p]? = some it → s.stk = stkAt T stk p ∧ s.vs = vsAt its T vs p ∧ GrdR it s ∧ (p < k → s.h = hdAt T h p ∧ HdR cf (ksAt T ks p) it s ∧ ∀ b, s.kill = some b → b ∉ ksAt T ks p) ∧ (k ≤ p → s.h = tlAt k T ks h p ∧ TlR cf ds it s)
  | 0, its, ks, stk, vs, h, T, ht => by
    have ht' : chkOk cs stk vs (h.kills ks) = true ∧ TrT cf ds fin its stk vs (h.kills ks) T := by cases its <;> cases T <;> exact ht
    obtain ⟨hck, ht'⟩ := ht'
    obtain ⟨g1, g2, g3⟩ := ht'.get
    have e : ∀ p, hdAt T (h.kills ks) p = tlAt 0 T ks h p ∨ T = [] := fun p => by
      cases T with
      | nil => exact .inr rfl
      | cons s T =>
        left
        cases p with
        | zero => rfl
        | succ p => rfl
    have e' : ∀ p, p ≤ T.length → hdAt T (h.kills ks) p = tlAt 0 T ks h p := fun p hp => by
      rcases e p with h1 | h1
      · exact h1
      · subst h1
        have : p = 0 := by simpa using hp
        subst this; rfl
    have z1 : stkAt T stk 0 = stk := by cases T <;> rfl
    have z2 : vsAt its T vs 0 = vs := by cases its <;> cases T <;> rfl
    have z3 : tlAt 0 T ks h 0 = h.kills ks := by rw [← e' 0 (Nat.zero_le _)]; cases T <;> rfl
    refine ⟨g1, Nat.zero_le _, by rw [g2, e' _ (by omega)], by rw [z1, z2, z3]; exact hck, fun p s it hs hi => ?_⟩
    obtain ⟨a1, a2, a3, a4, a5⟩ := g3 p s it hs hi
    exact ⟨a1, a2, a4, fun hp => (by omega), fun _ => ⟨by rw [a3, e' p (by have := (List.getElem?_eq_some_iff.1 hs).1; omega)], a5⟩⟩
  | k + 1, [], ks, stk, vs, h, T, ht => by cases T <;> exact ht.elim
  | k + 1, _ :: _, ks, stk, vs, h, [], ht => ht.elim
  | k + 1, it :: r, ks, stk, vs, h, s :: T, ht => by
    obtain ⟨h1, h2, h3, h4, h5, h7, h6⟩ := ht
    obtain ⟨g1, g2, g3, gck, g4⟩ := h6.get
    have e : ∀ p, tlAt (k + 1) (s :: T) ks h (p + 1) = tlAt k T (s.kill.toList ++ ks) s.h' p := fun p => by
      unfold tlAt
      by_cases hp : p = k
      · rw [if_pos (by omega), if_pos hp]; rfl
      · rw [if_neg (by omega), if_neg hp]; rfl
    refine ⟨by simp [g1], by simp; omega, by rw [g3, List.length_cons, e]; rfl, by rw [e]; exact gck, fun p s' it' hs hi => ?_⟩
    cases p with
    | zero =>
      simp at hs hi
      subst hs hi
      exact ⟨h1, h2, h4, fun _ => ⟨h3, h5, h7⟩, fun hk => by omega⟩
    | succ p =>
      obtain ⟨a1, a2, a3, a4, a5⟩ := g4 p s' it' (by simpa using hs) (by simpa using hi)
      exact ⟨a1, a2, a3, fun hp => a4 (by omega), fun hp => by rw [e]; exact a5 (by omega)⟩

theorem TrP.get {v : AV} : ∀ {its : List IT} {stk vs : List AV} {h : Heap} {T : List PS}, TrP cf ds v fin its stk vs h T → (∃ it, its[T.length]? = some it ∧ it.pan = true ∧ guardOk it.grd (stkAt T stk T.length) (vsAt its T vs T.length) = some true ∧ ∃ h', evStep cf (stkAt T stk T.length) (vsAt its T vs T.length) (hdAt T h T.length) ds it.op = some (.pan v h') ∧ fin = ⟨vsAt its T vs T.length, h', ds⟩) ∧
    ∀ p s it, T[p]? = some s → its[p]? = some it → s.stk = stkAt T stk p ∧ s.vs = vsAt its T vs p ∧ s.h = hdAt T h p ∧ GrdR it s ∧ TlR cf ds it s
  | [], stk, vs, h, _, ht => by rename_i T; cases T <;> exact ht.elim
  | it :: r, stk, vs, h, [], ht => by
    obtain ⟨h1, h2, h', h3, h4⟩ := ht
    exact ⟨⟨it, rfl, h1, h2, h', h3, h4⟩, fun p s it hs => by simp at hs⟩
  | it :: r, stk, vs, h, s :: T, ht => by
    obtain ⟨h1, h2, h3, h4, h5, h6⟩ := ht
    obtain ⟨⟨it0, q1, q2, q3, h', q4, q5⟩, g3⟩ := h6.get
    refine ⟨⟨it0, by simpa using q1, q2, q3, h', q4, q5⟩, fun p s' it' hs hi => ?_⟩
    cases p with
    | zero =>
      simp at hs hi
      subst hs hi
      exact ⟨h1, h2, h3, h4, h5⟩
    | succ p => exact g3 p s' it' (by simpa using hs) (by simpa using hi)
theorem TrHP.get {v : AV} : ∀ {k : Nat} {its : List IT} {ks : List Nat} {stk vs : List AV} {h : Heap} {T : List PS}, TrHP cf ds v fin cs k its ks stk vs h T → k ≤ T.length ∧ (∃ it, its[T.length]? = some it ∧ it.pan = true ∧ guardOk it.grd (stkAt T stk T.length) (vsAt its T vs T.length) = some true ∧ ∃ h', evStep cf (stkAt T stk T.length) (vsAt its T vs T.length) (tlAt k T ks h T.length) ds it.op = some (.pan v h') ∧ fin = ⟨vsAt its T vs T.length, h', ds⟩) ∧ chkOk cs (stkAt T stk k) (vsAt its T vs k) (tlAt k T ks h k) = true ∧
    ∀ p s it, T[p]? = some s → its[p]? = some it → s.stk = stkAt T stk p ∧ s.vs = vsAt its T vs p ∧ GrdR it s ∧ (p < k → s.h = hdAt T h p ∧ HdR cf (ksAt T ks p) it s ∧ ∀ b, s.kill = some b → b ∉ ksAt T ks p) ∧ (k ≤ p → s.h = tlAt k T ks h p ∧ TlR cf ds it s)
  | 0, its, ks, stk, vs, h, T, ht => by
    have ht' : chkOk cs stk vs (h.kills ks) = true ∧ TrP cf ds v fin its stk vs (h.kills ks) T := by cases its <;> cases T <;> exact ht
    obtain ⟨hck, ht'⟩ := ht'
    obtain ⟨⟨it0, q1, q2, q3, h', q4, q5⟩, g3⟩ := ht'.get
    have e' : ∀ p, p ≤ T.length → hdAt T (h.kills ks) p = tlAt 0 T ks h p := fun p hp => by
      cases T with
      | nil =>
        have : p = 0 := by simpa using hp
        subst this; rfl
      | cons s T =>
        cases p with
        | zero => rfl
        | succ p => rfl
    have z1 : stkAt T stk 0 = stk := by cases T <;> rfl
    have z2 : vsAt its T vs 0 = vs := by cases its <;> cases T <;> rfl
    have z3 : tlAt 0 T ks h 0 = h.kills ks := by rw [← e' 0 (Nat.zero_le _)]; cases T <;> rfl
    refine ⟨Nat.zero_le _, ⟨it0, q1, q2, q3, h', by rw [← e' _ (Nat.le_refl _)]; exact q4, q5⟩, by rw [z1, z2, z3]; exact hck, fun p s it hs hi => ?_⟩
    obtain ⟨a1, a2, a3, a4, a5⟩ := g3 p s it hs hi
    exact ⟨a1, a2, a4, fun hp => (by omega), fun _ => ⟨by rw [a3, e' p (by have := (List.getElem?_eq_some_iff.1 hs).1; omega)], a5⟩⟩
  | k + 1, [], ks, stk, vs, h, T, ht => by cases T <;> exact ht.elim
  | k + 1, _ :: _, ks, stk, vs, h, [], ht => ht.elim
  | k + 1, it :: r, ks, stk, vs, h, s :: T, ht => by
    obtain ⟨h1, h2, h3, h4, h5, h7, h6⟩ := ht
    obtain ⟨g1, ⟨it0, q1, q2, q3, h', q4, q5⟩, gck, g4⟩ := h6.get
    have e : ∀ p, tlAt (k + 1) (s :: T) ks h (p + 1) = tlAt k T (s.kill.toList ++ ks) s.h' p := fun p => by
      unfold tlAt
      by_cases hp : p = k
      · rw [if_pos (by omega), if_pos hp]; rfl
      · rw [if_neg (by omega), if_neg hp]; rfl
    refine ⟨by simp only [List.length_cons]; omega, ⟨it0, by simpa using q1, q2, q3, h', by rw [List.length_cons, e]; exact q4, q5⟩, by rw [e]; exact gck, fun p s' it' hs hi => ?_⟩
    cases p with
    | zero =>
      simp at hs hi
      subst hs hi
      exact ⟨h1, h2, h4, fun _ => ⟨h3, h5, h7⟩, fun hk => by omega⟩
    | succ p =>
      obtain ⟨a1, a2, a3, a4, a5⟩ := g4 p s' it' (by simpa using hs) (by simpa using hi)
      exact ⟨a1, a2, a3, fun hp => a4 (by omega), fun hp => by rw [e]; exact a5 (by omega)⟩

end
end Hx

/- Regions that draw their order: what has been checked. -/
namespace Hx
open Go

theorem pigeon : ∀ (n : Nat) (l : List Nat), l.Nodup → (∀ x ∈ l, x < n) → l.length ≤ n ∧ (l.length = n → ∀ i, i < n → i ∈ l)
  | 0, l, _, h => by
    cases l with
    | nil => exact ⟨Nat.le_refl _, fun _ i hi => by omega⟩
    | cons x l => have := h x List.mem_cons_self; omega
  | n + 1, l, hn, h => by
    by_cases hm : n ∈ l
    · have hl := List.length_erase_of_mem hm
      have hpos : 0 < l.length := List.length_pos_of_mem hm
      obtain ⟨h1, h2⟩ := pigeon n (l.erase n) (hn.erase n) fun x hx => by
        have h3 := (hn.mem_erase_iff).1 hx
        have := h x h3.2
        omega
      refine ⟨by omega, fun he i hi => ?_⟩
      by_cases hin : i = n
      · rw [hin]; exact hm
      · exact List.mem_of_mem_erase (h2 (by omega) i (by omega))
    · obtain ⟨h1, h2⟩ := pigeon n l hn fun x hx => by
        have := h x hx
        have : x ≠ n := fun e => hm (e ▸ hx)
        omega
      exact ⟨by omega, fun he => by omega⟩

theorem or_sub {x m : Nat} (h : Nat.beq (x ||| m) m = true) {j : Nat} (hj : x.testBit j = true) : m.testBit j = true := by
  have := Nat.eq_of_beq_eq_true h
  rw [← this, Nat.testBit_or, hj]; rfl

theorem edgeM_bit {b : List Nat} {j : Nat} : ∀ {es : List Edge}, (edgeM b es).testBit j = true ↔ ∃ e ∈ es, Region.binds .any e = true ∧ (j = e.on ∨ (bAt b e.on).testBit j = true)
  | [] => by simp [edgeM]
  | e :: es => by
    unfold edgeM
    split
    · rename_i hb
      rw [Nat.testBit_or, Nat.testBit_or, Bool.or_eq_true, Bool.or_eq_true, edgeM_bit, Nat.testBit_two_pow]
      constructor
      · rintro ((h | h) | ⟨e', h1, h2⟩)
        · exact ⟨e, List.mem_cons_self, hb, .inl ((by simpa using h : e.on = j).symm)⟩
        · exact ⟨e, List.mem_cons_self, hb, .inr h⟩
        · exact ⟨e', List.mem_cons_of_mem _ h1, h2⟩
      · rintro ⟨e', h1, h2, h3⟩
        rcases List.mem_cons.1 h1 with rfl | h1
        · rcases h3 with h3 | h3
          · exact .inl (.inl (by simp [h3]))
          · exact .inl (.inr h3)
        · exact .inr ⟨e', h1, h2, h3⟩
    · rename_i hb
      rw [edgeM_bit]
      constructor
      · rintro ⟨e', h1, h2⟩; exact ⟨e', List.mem_cons_of_mem _ h1, h2⟩
      · rintro ⟨e', h1, h2, h3⟩
        rcases List.mem_cons.1 h1 with rfl | h1
        · exact absurd h2 hb
        · exact ⟨e', h1, h2, h3⟩

theorem maskOf_bit {P : Program} {os : List Oper} {j : Nat} : ∀ {l : List Nat}, j ∈ l → pureOp P (opAt os j).op = false → fltOp (opAt os j) = false → (maskOf P os l).testBit j = true
  | [], h, _, _ => by cases h
  | i :: l, h, hp, hf => by
    unfold maskOf
    rcases List.mem_cons.1 h with rfl | h
    · rw [hp, hf]; simp [Nat.testBit_or]
    · split
      · exact maskOf_bit h hp hf
      · rw [Nat.testBit_or, maskOf_bit h hp hf]; simp

theorem writer_none {t : Nat} : ∀ {os : List Oper} {m : Nat}, writer os t m = none → ∀ (j : Nat) (o : Oper), os[j]? = some o → o.dst ≠ some t
  | [], m, _, j, o, h => by simp at h
  | x :: os, m, hw, j, o, h => by
    unfold writer at hw
    split at hw
    · cases hw
    · rename_i hx
      cases j with
      | zero => simp at h; subst h; exact hx
      | succ j => exact writer_none hw j o (by simpa using h)
theorem writer_some {t : Nat} : ∀ {os : List Oper} {m j : Nat}, writer os t m = some j → ∃ (i : Nat) (o : Oper), j = m + i ∧ os[i]? = some o ∧ o.dst = some t
  | [], m, j, h => by cases h
  | x :: os, m, j, hw => by
    unfold writer at hw
    split at hw
    · rename_i hx; cases hw; exact ⟨0, x, rfl, rfl, hx⟩
    · obtain ⟨i, o, h1, h2, h3⟩ := writer_some hw
      exact ⟨i + 1, o, by omega, by simpa using h2, h3⟩

theorem readsOk_get {b : List Nat} {os : List Oper} {i t : Nat} : ∀ {l : List Operand}, readsOk b os i l = true → Operand.tmp t ∈ l → readOk b os i t = true
  | [], _, h => by cases h
  | x :: l, hr, h => by
    rcases List.mem_cons.1 h with rfl | h
    · simp only [readsOk, Bool.and_eq_true] at hr; exact hr.1
    · have hr' : readsOk b os i l = true := by
        cases x <;> simp only [readsOk, Bool.and_eq_true] at hr
        · exact hr.2
        all_goals exact hr
      exact readsOk_get hr' h

theorem barOk_get {b : List Nat} {i : Nat} : ∀ {l : List Nat}, barOk b i l = true → ∀ q ∈ l, (bAt b q).testBit i = true
  | [], _, q, h => by cases h
  | x :: l, hb, q, h => by
    simp only [barOk, Bool.and_eq_true] at hb
    rcases List.mem_cons.1 h with rfl | h
    · exact hb.1
    · exact barOk_get hb.2 q h

/-- what has been checked of the operation i at p -/
structure PosOk (P : Program) (b : List Nat) (os : List Oper) (perm : List Nat) (k p i : Nat) : Prop where
  bef : ∀ j, (bAt b i).testBit j = true → ∃ q, q < p ∧ perm[q]? = some j
  reads : ∀ t, Operand.tmp t ∈ (opAt os i).op.operands.toList → readOk b os i t = true
  grd : ∀ j w, (opAt os i).guard = some (j, w) → (bAt b i).testBit j = true
  bar : jumpOp (opAt os i).op = true → ∀ q j, p < q → perm[q]? = some j → (bAt b j).testBit i = true
  tail : k ≤ p → pureOp P (opAt os i).op = true ∨ ∀ q j, q < p → perm[q]? = some j → pureOp P (opAt os j).op = false → (bAt b i).testBit j = true ∨ fltOp (opAt os j) = true

theorem prePos_get {P : Program} {b : List Nat} {os : List Oper} {k : Nat} {perm : List Nat} : ∀ (r : List Nat) (p mask : Nat) (prev : List Nat), prePos P b os k p r mask prev = true → perm = prev.reverse ++ r → prev.length = p → (∀ j, mask.testBit j = true → j ∈ prev) →
    ∀ q i, p ≤ q → perm[q]? = some i → PosOk P b os perm k q i
  | [], p, mask, prev, _, he, hl, _, q, i, hq, hi => by
    have := (List.getElem?_eq_some_iff.1 hi).1
    rw [he] at this
    simp at this
    omega
  | x :: r, p, mask, prev, hp, he, hl, hm, q, i, hq, hi => by
    simp only [prePos, Bool.and_eq_true, fN_eq] at hp
    obtain ⟨⟨⟨⟨⟨h1, h2⟩, h3⟩, h4⟩, h5⟩, h6⟩ := hp
    have hx : perm[p]? = some x := by rw [he, List.getElem?_append_right (by simp [hl])]; simp [hl]
    have hprev : ∀ j, j ∈ prev → ∃ q, q < p ∧ perm[q]? = some j := fun j hj => by
      obtain ⟨q, hq⟩ := List.getElem?_of_mem (List.mem_reverse.2 hj)
      have hlt := (List.getElem?_eq_some_iff.1 hq).1
      refine ⟨q, by simpa [hl] using hlt, ?_⟩
      rw [he, List.getElem?_append_left hlt]; exact hq
    by_cases hpq : q = p
    · subst hpq
      rw [hx] at hi; cases hi
      refine ⟨fun j hj => hprev j (hm j (or_sub h1 hj)), fun t ht => readsOk_get h2 ht, fun j w hg => ?_, fun hj q' j hq' hj' => ?_, fun hk => ?_⟩
      · rw [hg] at h3; exact h3
      · rw [hj] at h4
        simp only [Bool.not_true, Bool.false_or] at h4
        refine barOk_get h4 j ?_
        rw [he, List.getElem?_append_right (by simp [hl]; omega)] at hj'
        have : q' - prev.reverse.length = (q' - q - 1) + 1 := by simp [hl]; omega
        rw [this, List.getElem?_cons_succ] at hj'
        exact List.mem_of_getElem? hj'
      · simp only [Bool.or_eq_true, Nat.ble_eq] at h5
        have h5 := h5.resolve_left (by omega)
        simp only [tailOk, Bool.or_eq_true] at h5
        refine h5.imp id fun h5 q' j hq' hj' hpu => ?_
        have h7 := Nat.eq_of_beq_eq_true h5
        cases hfl : fltOp (opAt os j) with
        | true => exact .inr rfl
        | false =>
        left
        rw [← h7, Nat.testBit_or, Bool.or_eq_true]
        refine .inr (maskOf_bit ?_ hpu hfl)
        rw [he, List.getElem?_append_left (by simp [hl]; omega)] at hj'
        exact List.mem_reverse.1 (List.mem_of_getElem? hj')
    · refine prePos_get r (p + 1) _ (x :: prev) h6 (by simp [he]) (by simp [hl]) (fun j hj => ?_) q i (by omega) hi
      rw [Nat.testBit_or, Bool.or_eq_true, Nat.testBit_two_pow] at hj
      rcases hj with hj | hj
      · exact List.mem_cons_of_mem _ (hm j hj)
      · simp at hj; subst hj; exact List.mem_cons_self

structure PermOk (P : Program) (b : List Nat) (os : List Oper) (perm : List Nat) (k : Nat) : Prop where
  len : perm.length = os.length
  nd : perm.Nodup
  lt : ∀ i ∈ perm, i < os.length
  dst : ∀ (i j : Nat) (oi oj : Oper) (t : Nat), os[i]? = some oi → os[j]? = some oj → oi.dst = some t → oj.dst = some t → i = j
  bef : ∀ (i : Nat) (o : Oper), os[i]? = some o → bAt b i = edgeM b o.after.toList
  kn : k ≤ os.length
  pos : ∀ p i, perm[p]? = some i → PosOk P b os perm k p i
theorem PermOk.all {P : Program} {b : List Nat} {os : List Oper} {perm : List Nat} {k : Nat} (h : PermOk P b os perm k) {i : Nat} (hi : i < os.length) : i ∈ perm := (pigeon _ _ h.nd h.lt).2 h.len i hi

theorem befOk_get {b : List Nat} : ∀ {os : List Oper} {m : Nat}, befOk b os m = true → ∀ (i : Nat) (o : Oper), os[i]? = some o → bAt b (m + i) = edgeM b o.after.toList
  | [], m, _, i, o, h => by simp at h
  | x :: os, m, hb, i, o, h => by
    simp only [befOk, Bool.and_eq_true] at hb
    cases i with
    | zero => simp at h; subst h; exact Nat.eq_of_beq_eq_true hb.1
    | succ i =>
      have := befOk_get hb.2 i o (by simpa using h)
      rw [← this]; congr 1; omega

theorem dsts_inj : ∀ {os : List Oper}, (dstsOf os).Nodup → ∀ (i j : Nat) (oi oj : Oper) (t : Nat), os[i]? = some oi → os[j]? = some oj → oi.dst = some t → oj.dst = some t → i = j
  | [], _, i, j, oi, oj, t, h, _, _, _ => by simp at h
  | x :: os, hn, i, j, oi, oj, t, h1, h2, h3, h4 => by
    have mem : ∀ {q : Nat} {o : Oper}, os[q]? = some o → o.dst = some t → t ∈ dstsOf os := fun hq ho => List.mem_filterMap.2 ⟨_, List.mem_of_getElem? hq, ho⟩
    have hn' : (dstsOf os).Nodup ∧ ∀ u, x.dst = some u → u ∉ dstsOf os := by
      unfold dstsOf at hn ⊢
      cases hx : x.dst with
      | none => rw [List.filterMap_cons_none hx] at hn; exact ⟨hn, fun u hu => by cases hu⟩
      | some u =>
        rw [List.filterMap_cons_some hx] at hn
        obtain ⟨a1, a2⟩ := List.nodup_cons.1 hn
        exact ⟨a2, fun u' hu' => by cases hu'; exact a1⟩
    cases i with
    | zero =>
      cases j with
      | zero => rfl
      | succ j =>
        simp at h1; subst h1
        exact absurd (mem (by simpa using h2) h4) (hn'.2 t h3)
    | succ i =>
      cases j with
      | zero =>
        simp at h2; subst h2
        exact absurd (mem (by simpa using h1) h3) (hn'.2 t h4)
      | succ j => rw [dsts_inj hn'.1 i j oi oj t (by simpa using h1) (by simpa using h2) h3 h4]

theorem getOps_get {os : List Oper} : ∀ {perm : List Nat} {l : List Oper}, getOps os perm = some l → l.length = perm.length ∧ ∀ (p i : Nat), perm[p]? = some i → ∃ o : Oper, l[p]? = some o ∧ os[i]? = some o
  | [], l, h => by cases h; exact ⟨rfl, fun p i h => by simp at h⟩
  | x :: perm, l, h => by
    unfold getOps at h
    split at h
    · rename_i o r ho hr
      cases h
      obtain ⟨h1, h2⟩ := getOps_get hr
      rw [getL_eq] at ho
      refine ⟨by simp [h1], fun p i hp => ?_⟩
      cases p with
      | zero => simp at hp; subst hp; exact ⟨o, rfl, ho⟩
      | succ p => obtain ⟨o', h3, h4⟩ := h2 p i (by simpa using hp); exact ⟨o', by simpa using h3, h4⟩
    · cases h

theorem preOk_get {P : Program} {b : List Nat} {os : List Oper} {perm : List Nat} {k : Nat} (h : preOk P b os perm k = true) {l : List Oper} (hl : getOps os perm = some l) : PermOk P b os perm k := by
  simp only [preOk, Bool.and_eq_true, Nat.ble_eq, lenL_eq] at h
  obtain ⟨⟨⟨⟨⟨h1, h2⟩, h3⟩, h4⟩, h5⟩, h6⟩ := h
  refine ⟨Nat.eq_of_beq_eq_true h1, noDup_nodup h2, fun i hi => ?_, dsts_inj (noDup_nodup h3), fun i o ho => by simpa using befOk_get h4 i o ho, h5, fun p i hp => prePos_get perm 0 0 [] h6 rfl rfl (fun j hj => by simp at hj) p i (Nat.zero_le _) hp⟩
  obtain ⟨p, hp⟩ := List.getElem?_of_mem hi
  obtain ⟨o, _, h7⟩ := (getOps_get hl).2 p i hp
  exact (List.getElem?_eq_some_iff.1 h7).1

/-! What is read again. -/
theorem noWr_get {ds : List (Option Nat)} {t : Nat} : ∀ {l : List Operand}, noWr ds l = true → Operand.tmp t ∈ l → some t ∉ ds
  | [], _, h => by cases h
  | x :: l, hn, h => by
    cases x with
    | tmp t' =>
      simp only [noWr, Bool.and_eq_true, Option.isNone_iff_eq_none] at hn
      rcases List.mem_cons.1 h with h | h
      · cases h
        intro hm
        clear h
        exact absurd hm (by
          have := hn.1
          revert this
          clear hn
          induction ds with
          | nil => intro _ h; cases h
          | cons y ds ih =>
            intro h1 h2
            unfold idxO at h1
            split at h1
            · cases h1
            · rename_i hne
              rw [Option.map_eq_none_iff] at h1
              rcases List.mem_cons.1 h2 with h2 | h2
              · exact hne h2.symm
              · exact ih h2 h1 h2)
      · exact noWr_get hn.2 h
    | const _ => exact noWr_get (l := l) hn (by simpa using h)
    | global _ => exact noWr_get (l := l) hn (by simpa using h)
    | func _ => exact noWr_get (l := l) hn (by simpa using h)

theorem flChk_get {P : Program} {V : Vn} {os : List Oper} {ds : List (Option Nat)} {need : Nat → Bool} : ∀ {prev : List Nat} {j0 : Nat} {cs : List (Nat × AF)}, flChk P V os ds need prev j0 = some cs → ∀ (j q : Nat), prev[j]? = some q → fltOp (opAt os q) = true → need q = true →
    noWr (ds.take (j0 + j + 1)) (opAt os q).op.operands.toList = true ∧ ∃ f, compOp P (compX V ds) (opAt os q).op = some (.a f) ∧ (j0 + j, f) ∈ cs
  | [], _, _, _, j, q, h, _, _ => by simp at h
  | x :: r, j0, cs, hc, j, q, h, hf, hn => by
    unfold flChk at hc
    split at hc
    · cases hc
    · rename_i c hr
      cases j with
      | zero =>
        simp at h
        subst h
        rw [hf, hn] at hc
        simp only [Bool.and_self, if_true] at hc
        split at hc
        · rename_i hw
          split at hc
          · rename_i f hcf
            cases hc
            exact ⟨hw, f, hcf, List.mem_cons_self⟩
          · cases hc
        · cases hc
      | succ j =>
        obtain ⟨h1, f, h2, h3⟩ := flChk_get hr j q (by simpa using h) hf hn
        have e : j0 + 1 + j = j0 + (j + 1) := by omega
        rw [e] at h1 h3
        refine ⟨h1, f, h2, ?_⟩
        split at hc
        · split at hc
          · split at hc
            · cases hc; exact List.mem_cons_of_mem _ h3
            · cases hc
          · cases hc
        · cases hc; exact h3

theorem addChk_get {P : Program} {V : Vn} {os : List Oper} {b : List Nat} {k : Nat} : ∀ {l : List Oper} {p0 : Nat} {r prev : List Nat} {ds : List (Option Nat)} {its0 its : List IT}, addChk P V os b k p0 l r prev ds its0 = some its → its.length = its0.length ∧ ∀ (p : Nat) (it0 : IT), its0[p]? = some it0 →
    ∃ it, its[p]? = some it ∧ it.op = it0.op ∧ it.grd = it0.grd ∧ it.wr = it0.wr ∧ ∀ (o : Oper) (i : Nat), l[p]? = some o → r[p]? = some i → k ≤ p0 + p → pureOp P o.op = false → fltOp o = false →
      flChk P V os (((l.take p).map (·.dst)).reverse ++ ds) (fun q => !(bAt b i).testBit q) ((r.take p).reverse ++ prev) 0 = some it.chk
  | [], p0, [], prev, ds, [], its, h => by
    simp only [addChk, Option.some.injEq] at h
    subst h
    exact ⟨rfl, fun p it0 h => by simp at h⟩
  | [], p0, [], prev, ds, _ :: _, its, h => by simp [addChk] at h
  | [], p0, _ :: _, prev, ds, its0, its, h => by cases its0 <;> simp [addChk] at h
  | _ :: _, p0, [], prev, ds, its0, its, h => by cases its0 <;> simp [addChk] at h
  | _ :: _, p0, _ :: _, prev, ds, [], its, h => by simp [addChk] at h
  | o :: l, p0, i :: r, prev, ds, it0 :: its0, its, h => by
    unfold addChk at h
    split at h
    · rename_i c l' hc hl
      cases h
      obtain ⟨h1, h2⟩ := addChk_get hl
      refine ⟨by simp [h1], fun p it0' hp => ?_⟩
      cases p with
      | zero =>
        simp at hp
        subst hp
        refine ⟨_, rfl, rfl, rfl, rfl, fun o' i' ho hi hk hpu hfl => ?_⟩
        simp at ho hi
        subst ho hi
        rw [if_pos (by simp [Nat.ble_eq, hpu, hfl]; omega)] at hc
        simpa using hc
      | succ p =>
        obtain ⟨it, g1, g2, g3, g4, g5⟩ := h2 p it0' (by simpa using hp)
        refine ⟨it, by simpa using g1, g2, g3, g4, fun o' i' ho hi hk hpu hfl => ?_⟩
        have := g5 o' i' (by simpa using ho) (by simpa using hi) (by omega) hpu hfl
        simpa using this
    · cases h

theorem addChk_pan {P : Program} {V : Vn} {os : List Oper} {b : List Nat} {k : Nat} : ∀ {l : List Oper} {p0 : Nat} {r prev : List Nat} {ds : List (Option Nat)} {its0 its : List IT}, addChk P V os b k p0 l r prev ds its0 = some its → ∀ (p : Nat) (it : IT) (o : Oper) (i : Nat), its[p]? = some it → l[p]? = some o → r[p]? = some i → it.pan = true →
    k ≤ p0 + p ∧ isCallOp o.op = true ∧ panOk V os b i ((r.take p).reverse ++ prev) = true
  | [], p0, [], prev, ds, [], its, h => by
    simp only [addChk, Option.some.injEq] at h
    subst h
    exact fun p it o i h => by simp at h
  | [], p0, [], prev, ds, _ :: _, its, h => by simp [addChk] at h
  | [], p0, _ :: _, prev, ds, its0, its, h => by cases its0 <;> simp [addChk] at h
  | _ :: _, p0, [], prev, ds, its0, its, h => by cases its0 <;> simp [addChk] at h
  | _ :: _, p0, _ :: _, prev, ds, [], its, h => by simp [addChk] at h
  | o :: l, p0, i :: r, prev, ds, it0 :: its0, its, h => by
    unfold addChk at h
    split at h
    · rename_i c l' hc hl
      cases h
      intro p it o' i' hit ho hi hpan
      cases p with
      | zero =>
        simp at hit ho hi
        subst hit ho hi
        simp only [Bool.and_eq_true, Nat.ble_eq] at hpan
        exact ⟨by omega, hpan.1.2, by simpa using hpan.2⟩
      | succ p =>
        obtain ⟨g1, g2, g3⟩ := addChk_pan hl p it o' i' (by simpa using hit) (by simpa using ho) (by simpa using hi) hpan
        exact ⟨by omega, g2, by simpa using g3⟩
    · cases h
theorem panOk_get {V : Vn} {os : List Oper} {b : List Nat} {i : Nat} : ∀ {l : List Nat}, panOk V os b i l = true → ∀ q ∈ l, (bAt b i).testBit q = true ∨ (opAt os q).dst.bind (idxN · V.vsl) = none
  | [], _, q, h => by cases h
  | x :: l, hl, q, h => by
    simp only [panOk, Bool.and_eq_true, Bool.or_eq_true, Option.isNone_iff_eq_none] at hl
    rcases List.mem_cons.1 h with rfl | h
    · exact hl.1
    · exact panOk_get hl.2 q h
theorem looseAt_not {P : Program} {os : List Oper} {b : List Nat} {q : Nat} : ∀ {l : List Nat}, looseAt P os b q l = false → ∀ i ∈ l, pureOp P (opAt os i).op = false → (bAt b i).testBit q = true
  | [], _, i, h, _ => by cases h
  | x :: l, hl, i, h, hp => by
    simp only [looseAt, Bool.or_eq_false_iff, Bool.and_eq_false_iff, Bool.not_eq_false'] at hl
    rcases List.mem_cons.1 h with rfl | h
    · rcases hl.1 with h1 | h1
      · rw [hp] at h1; cases h1
      · exact h1
    · exact looseAt_not hl.2 i h hp

end Hx

/- Regions that draw their order: one operation. -/
namespace Hx
open Go

/-! Pure operations. -/
def PureF (f : AF) : Prop := ∀ stk vs h v h' k, f stk vs h = some (v, h', k) → h' = h ∧ k = none ∧ ∀ h2, f stk vs h2 = some (v, h2, none)

theorem pure_rO {g : List AV → List AV → Option AV} : PureF fun stk vs h => rO h (g stk vs) := fun stk vs h v h' k hf => by
  obtain ⟨h1, h2, h3⟩ := rO_some.1 hf
  exact ⟨h2, h3, fun h2 => rO_some.2 ⟨h1, rfl, rfl⟩⟩
theorem pure_ob {α : Type} {g : List AV → List AV → Option α} {f : α → AF} (hf : ∀ x, PureF (f x)) : PureF fun stk vs h => ob (g stk vs) fun x => f x stk vs h := fun stk vs h v h' k he => by
  rw [ob_some] at he
  obtain ⟨x, hx, he⟩ := he
  obtain ⟨h1, h2, h3⟩ := hf x _ _ _ _ _ _ he
  exact ⟨h1, h2, fun h2 => ob_some.2 ⟨x, hx, h3 h2⟩⟩
theorem pure_some {g : List AV → List AV → AV} : PureF fun stk vs h => some (g stk vs, h, none) := fun stk vs h v h' k he => by
  cases he; exact ⟨rfl, rfl, fun h2 => rfl⟩
theorem pure_none : PureF fun _ _ _ => none := fun stk vs h v h' k he => by cases he

theorem pure_op {P : Program} {co : CoF} {o : Op} {k : OpK} (hp : pureOp P o = true) (hc : compOp P co o = some k) : ∃ f, k = .a f ∧ PureF f := by
  cases o <;> simp only [pureOp, Bool.false_eq_true] at hp <;> simp only [compOp, Option.map_eq_some_iff] at hc
  case move x => obtain ⟨f, _, rfl⟩ := hc; exact ⟨_, rfl, pure_rO⟩
  case assign x => obtain ⟨f, _, rfl⟩ := hc; exact ⟨_, rfl, pure_rO⟩
  case pick c a b =>
    split at hc
    · cases hc
      refine ⟨_, rfl, fun stk vs h v h' k hf => ?_⟩
      simp only [aPick, ob_some] at hf
      obtain ⟨t, ht, hf⟩ := hf
      cases t <;> simp only [reduceCtorEq] at hf
      obtain ⟨h1, h2, h3⟩ := rO_some.1 hf
      exact ⟨h2, h3, fun h2 => ob_some.2 ⟨_, ht, rO_some.2 ⟨h1, rfl, rfl⟩⟩⟩
    · cases hc
  case build t ps =>
    unfold cBuild at hc
    repeat' split at hc
    all_goals first
      | (cases hc; done)
      | (simp only [Option.map_eq_some_iff] at hc
         obtain ⟨x, hx, rfl⟩ := hc
         exact ⟨_, rfl, pure_ob fun cs => pure_some⟩)
  case nilCheck x => obtain ⟨f, _, rfl⟩ := hc; exact ⟨_, rfl, pure_ob fun v => pure_rO⟩
  case binOp =>
    split at hc
    · cases hc; exact ⟨_, rfl, pure_ob fun v => pure_ob fun v => pure_rO⟩
    · cases hc
  case unOp => obtain ⟨f, _, rfl⟩ := hc; exact ⟨_, rfl, pure_ob fun v => pure_rO⟩
  case convert =>
    split at hc
    · cases hc; exact ⟨_, rfl, pure_ob fun v => pure_rO⟩
    · cases hc
  case makeInterface =>
    split at hc
    · cases hc
    · cases hc; exact ⟨_, rfl, pure_ob fun v => pure_some⟩
    · cases hc
  case makeFunc =>
    split at hc
    · cases hc; exact ⟨_, rfl, pure_ob fun v => pure_ob fun v => pure_some⟩
    · cases hc
  case slice t x lo hi mx =>
    cases mx with
    | some m =>
      cases hi with
      | none => cases hc
      | some hi =>
        simp only [cSlice3] at hc
        split at hc
        · split at hc
          · simp only [Option.map_eq_some_iff] at hc
            obtain ⟨sz, _, rfl⟩ := hc
            refine ⟨_, rfl, pure_ob fun v => pure_ob (g := fun _ _ => lenA v) fun len => pure_ob fun l => pure_ob fun u => pure_ob (g := fun _ _ => natOf u) fun u => pure_ob fun m => pure_ob (g := fun _ _ => natOf m) fun m => ?_⟩
            intro stk vs h v h' k hf
            rw [bif_none] at hf
            obtain ⟨h0, hf⟩ := hf
            obtain ⟨h1, h2, h3⟩ := rO_some.1 hf
            exact ⟨h2, h3, fun h2 => bif_none.2 ⟨h0, rO_some.2 ⟨h1, rfl, rfl⟩⟩⟩
          · cases hc
        · cases hc
    | none =>
      simp only [cSlice] at hc
      split at hc
      · split at hc
        · simp only [Option.map_eq_some_iff] at hc
          obtain ⟨sz, _, rfl⟩ := hc
          exact ⟨_, rfl, pure_ob fun v => pure_ob (g := fun _ _ => lenA v) fun len => pure_ob fun l => pure_ob fun u => pure_rO⟩
        · rename_i hu
          unfold slcT at hp
          rw [hu] at hp; cases hp
        · cases hc
      · cases hc
  case fieldAddr =>
    unfold cFieldAddr at hc
    repeat' split at hc
    all_goals first
      | (cases hc; done)
      | (cases hc; exact ⟨_, rfl, pure_ob fun v => pure_rO⟩)
  case field =>
    unfold cField at hc
    repeat' split at hc
    all_goals first
      | (cases hc; done)
      | (cases hc; exact ⟨_, rfl, pure_ob fun v => pure_rO⟩)
  case indexAddr =>
    unfold cIndexAddr at hc
    repeat' split at hc
    all_goals first
      | (cases hc; done)
      | (simp only [Option.map_eq_some_iff] at hc
         obtain ⟨sz, _, rfl⟩ := hc
         exact ⟨_, rfl, pure_ob fun v => pure_ob fun i => pure_ob (g := fun _ _ => natOf i) fun i => pure_rO⟩)
  case index =>
    unfold cIndex at hc
    repeat' split at hc
    all_goals first
      | (cases hc; done)
      | (cases hc; exact ⟨_, rfl, pure_ob fun v => pure_ob fun i => pure_ob (g := fun _ _ => natOf i) fun i => pure_rO⟩)
  case typeAssert =>
    unfold cTypeAssert at hc
    repeat' split at hc
    all_goals first
      | (cases hc; done)
      | (cases hc; exact ⟨_, rfl, pure_ob fun v => pure_rO⟩)
  case extract => obtain ⟨f, _, rfl⟩ := hc; exact ⟨_, rfl, pure_ob fun v => pure_rO⟩
  case call c =>
    obtain ⟨cal, args, ts⟩ := c
    cases cal
    case value => exact absurd hp (by simp)
    case invoke => exact absurd hp (by simp)
    rename_i b
    simp only at hc
    cases b
    all_goals first
      | (exfalso; revert hp; simp; done)
      | skip
    case len =>
      simp only at hp
      split at hp
      · rename_i t hts
        split at hc
        · simp only [hts] at hc
          unfold cBuiltin at hc
          split at hc
          all_goals first
            | (cases hc; done)
            | skip
          all_goals rename_i h1 h2 h3
          all_goals first
            | (cases h1; done)
            | (cases h2; done)
            | skip
          cases h2
          unfold cLen at hc
          split at hc
          · cases hc; exact ⟨_, rfl, pure_ob fun v => pure_rO⟩
          · rename_i hu; unfold slcT at hp; rw [hu] at hp; cases hp
          · cases hc
        · cases hc
      · cases hp
    all_goals
      split at hc
      · unfold cBuiltin at hc
        split at hc
        all_goals first
          | (cases hc; exact ⟨_, rfl, pure_ob fun v => pure_ob fun l => pure_rO⟩)
          | (cases hc; done)
          | (rename_i h1 _ _; cases h1; done)
          | (rename_i h1 _; cases h1; done)
          | (rename_i h1; cases h1; done)
      · cases hc

/-! What is read. -/
def ReadF (f : AF) : Prop := ∀ stk vs h v h' k, f stk vs h = some (v, h', k) → h' = h ∧ k = none
theorem read_op {P : Program} {co : CoF} {o : Oper} {k : OpK} (hp : fltOp o = true) (hc : compOp P co o.op = some k) : ∃ f, k = .a f ∧ ReadF f := by
  unfold fltOp at hp
  rw [Bool.and_eq_true] at hp
  have hp := hp.2
  split at hp
  · rename_i t a ho
    rw [ho] at hc
    simp only [compOp] at hc
    split at hc
    · cases hc
      refine ⟨_, rfl, fun stk vs h v h' k hf => ?_⟩
      simp only [aLoad, ob_some] at hf
      obtain ⟨_, _, _, _, hf⟩ := hf
      exact (rO_some.1 hf).2
    · cases hc
  · rename_i t m x ok ho
    rw [ho] at hc
    simp only [compOp, cLookup] at hc
    split at hc
    · simp only [Option.map_eq_some_iff] at hc
      obtain ⟨z, _, rfl⟩ := hc
      refine ⟨_, rfl, fun stk vs h v h' k hf => ?_⟩
      simp only [aLook, ob_some] at hf
      obtain ⟨_, _, _, _, hf⟩ := hf
      exact (rO_some.1 hf).2
    · cases hc
  · cases hp
theorem flt_guard {o : Oper} (hp : fltOp o = true) : o.guard = none := by
  unfold fltOp at hp
  rw [Bool.and_eq_true, Option.isNone_iff_eq_none] at hp
  exact hp.1
theorem flt_call {o : Oper} (hp : fltOp o = true) : isCallOp o.op = false ∧ jumpOp o.op = false := by
  unfold fltOp at hp
  rw [Bool.and_eq_true] at hp
  have hp := hp.2
  split at hp
  · rename_i ho; rw [ho]; exact ⟨rfl, rfl⟩
  · rename_i ho; rw [ho]; exact ⟨rfl, rfl⟩
  · cases hp

theorem same0_eq {x y : AV} (h : same0 x y = true) : x = y := by
  cases x <;> simp only [same0, Bool.false_eq_true] at h <;> cases y <;> simp only [Bool.false_eq_true, bif_eq, Nat.beq_eq] at h
  case bool.bool a b => cases a <;> cases b <;> simp_all
  case int.int k a k' b =>
    split at h
    · rename_i hk
      have := kEq_eq hk
      subst this
      rw [eqI_eq] at h
      rw [eq_of_beq h]
    · cases h
  case ptr.ptr => split at h <;> simp_all
  case msl.msl =>
    split at h
    · split at h
      · split at h
        · simp_all
        · cases h
      · cases h
    · cases h
  case mp.mp => simp_all
  all_goals rfl
theorem sameLs_eq {f : AV → AV → Bool} (hf : ∀ {x y}, f x y = true → x = y) : ∀ {l m : List AV}, sameLs f l m = true → l = m
  | [], [], _ => rfl
  | [], _ :: _, h => by cases h
  | _ :: _, [], h => by cases h
  | x :: l, y :: m, h => by
    have h' : bif_ (f x y) (sameLs f l m) false = true := h
    rw [bif_eq] at h'
    split at h'
    · rename_i h1; rw [hf h1, sameLs_eq hf h']
    · cases h'
theorem sameFn_eq {f g : Fn} (h : sameFn f g = true) : f = g := by
  cases f <;> simp only [sameFn, Bool.false_eq_true] at h <;> cases g <;> simp only [Bool.false_eq_true, Nat.beq_eq] at h <;> rw [h]
theorem sameN_eq {f : AV → AV → Bool} (hf : ∀ {x y}, f x y = true → x = y) {x y : AV} (h : sameN f x y = true) : x = y := by
  cases x <;> simp only [sameN] at h
  case agg a => cases y <;> simp only [Bool.false_eq_true] at h; rw [sameLs_eq hf h]
  case tup a => cases y <;> simp only [Bool.false_eq_true] at h; rw [sameLs_eq hf h]
  case ifc t a =>
    cases y <;> simp only [Bool.false_eq_true, bif_eq, Nat.beq_eq] at h
    split at h
    · rename_i h1; rw [h1, hf h]
    · cases h
  case fn g a c =>
    cases y <;> simp only [Bool.false_eq_true, bif_eq] at h
    split at h
    · rename_i h1
      split at h
      · rename_i h2; rw [sameFn_eq h1, sameLs_eq hf h2, sameLs_eq hf h]
      · cases h
    · cases h
  case iptr a o =>
    cases y <;> simp only [Bool.false_eq_true, bif_eq, Nat.beq_eq] at h
    split at h
    · rename_i h1; rw [h1, sameLs_eq hf h]
    · cases h
  case isl a o =>
    cases y <;> simp only [Bool.false_eq_true, bif_eq, Nat.beq_eq] at h
    split at h
    · rename_i h1; rw [h1, sameLs_eq hf h]
    · cases h
  all_goals exact same0_eq h
theorem sameD_eq : ∀ (n : Nat) {x y : AV}, sameD n x y = true → x = y
  | 0, _, _, h => same0_eq h
  | n + 1, _, _, h => sameN_eq (f := sameD n) (fun h => sameD_eq n h) h
theorem sameA_eq {x y : AV} (h : sameA x y = true) : x = y := sameD_eq 12 h

theorem chkOk_get {stk vs : List AV} {h : Heap} {j : Nat} {f : AF} : ∀ {cs : List (Nat × AF)}, chkOk cs stk vs h = true → (j, f) ∈ cs → ∃ v h' k, f stk vs h = some (v, h', k) ∧ stk[j]? = some v
  | [], _, hm => by cases hm
  | c :: cs, hc, hm => by
    have hc' : (match c.2 stk vs h with
      | some r => (match getL stk c.1 with
        | some u => bif_ (sameA r.1 u) (chkOk cs stk vs h) false
        | none => false)
      | none => false) = true := hc
    split at hc'
    · rename_i r hr
      split at hc'
      · rename_i u hu
        rw [bif_eq] at hc'
        split at hc'
        · rename_i hs
          rcases List.mem_cons.1 hm with rfl | hm
          · refine ⟨r.1, r.2.1, r.2.2, hr, ?_⟩
            rw [← getL_eq, sameA_eq hs]; exact hu
          · exact chkOk_get hc' hm
        · cases hc'
      · cases hc'
    · cases hc'

end Hx

/- Regions that draw their order: what holds on the way. -/
namespace Hx
open Go

structure HMon (h h' : Heap) : Prop where
  next : h.next ≤ h'.next
  same : ∀ b, b < h.next → h'.get b = h.get b
  wf : h.wf → h'.wf
  low : h'.low = h.low
theorem HMon.refl (h : Heap) : HMon h h := ⟨Nat.le_refl _, fun _ _ => rfl, fun h => h, rfl⟩
theorem HMon.trans {a b c : Heap} (x : HMon a b) (y : HMon b c) : HMon a c :=
  ⟨Nat.le_trans x.next y.next, fun i hi => (y.same i (Nat.lt_of_lt_of_le hi x.next)).trans (x.same i hi), fun h => y.wf (x.wf h), y.low.trans x.low⟩
theorem HMon.sub {h h' : Heap} (hm : HMon h h') (hw : h.wf) : Sub h h' := fun i x hx => by
  rw [hm.same i ?_]
  · exact hx
  · apply Classical.byContradiction
    intro hn
    rw [hw i (by omega)] at hx; cases hx
theorem HMon.ext {h h' : Heap} (hm : HMon h h') : HExt h h' := ⟨hm.next, by rw [hm.low]; exact Nat.le_refl _, fun b hb _ => hm.same b hb, fun b hb hn => by rw [hm.same b hb]; exact hn⟩
theorem grows_mon {h h' : Heap} (hg : Grows h h') : HMon h h' := by
  refine ⟨?_, fun b hb => grows_same hg hb, grows_wf hg, ?_⟩
  · rcases hg with rfl | ⟨x, rfl⟩
    · exact Nat.le_refl _
    · rw [Heap.next_push]; omega
  · rcases hg with rfl | ⟨x, rfl⟩
    · rfl
    · exact Heap.low_push _ _

theorem idxO_some {t : Nat} : ∀ {l : List (Option Nat)} {j : Nat}, idxO t l = some j → l[j]? = some (some t)
  | [], j, h => by cases h
  | x :: l, j, h => by
    unfold idxO at h
    split at h
    · rename_i e; cases h; simp [e]
    · rw [Option.map_eq_some_iff] at h; obtain ⟨j', h1, rfl⟩ := h; simpa using idxO_some h1
theorem idxO_none {t : Nat} : ∀ {l : List (Option Nat)}, idxO t l = none → some t ∉ l
  | [], h => by simp
  | x :: l, h => by
    unfold idxO at h
    split at h
    · cases h
    · rename_i e; rw [Option.map_eq_none_iff] at h; simp [idxO_none h, Ne.symm e]

def Ls (listed : Array Bool) (i : Nat) : Prop := listed.getD i false = true
theorem ls_set {listed : Array Bool} {i j : Nat} (hi : i < listed.size) : Ls (listed.setIfInBounds i true) j ↔ j = i ∨ Ls listed j := by
  unfold Ls
  by_cases h : j = i
  · subst h; simp [hi]
  · simp only [Array.getD_eq_getD_getElem?]
    rw [Array.getElem?_setIfInBounds_ne (fun e => h e.symm)]
    simp [h]

structure Rgn (G : Gx) (V : Vn) (cf : CallFn) (ops : Array Oper) (b perm : List Nat) (k : Nat) (l : List Oper) (its : List IT) (T : List PS) (vs0 : List AV) (h0 : Heap) (ds : Defs) (fin : St) (m : Option Nat) (K0 : Kx) (a0 : Act) : Prop where
  ok : PermOk G.P b ops.toList perm k
  gl : getOps ops.toList perm = some l
  ci : ∃ its0, compIts G.P V true ops l [] = some its0 ∧ addChk G.P V ops.toList b k 0 l perm [] [] its0 = some its
  tr : ∃ cs, flChk G.P V ops.toList (dsAt l [] k) (fun q => looseAt G.P ops.toList b q (perm.drop k)) (perm.take k).reverse 0 = some cs ∧ (TrH cf ds fin cs k its [] [] vs0 h0 T ∨ ∃ v, TrHP cf ds v fin cs k its [] [] vs0 h0 T)
  hs : SR G V m K0 a0 vs0 h0 ds
  hv : V.vsl.Nodup
  hcf : CallOk G V.gl cf

/-- the operation at p, as it stands -/
structure At0 (G : Gx) (V : Vn) (ops : Array Oper) (b perm : List Nat) (k : Nat) (l : List Oper) (its : List IT) (p i : Nat) (o : Oper) (it : IT) : Prop where
  pi : perm[p]? = some i
  oi : ops[i]? = some o
  lp : l[p]? = some o
  ip : its[p]? = some it
  co : compOpB G.P (compX V (dsAt l [] p)) o.op = some it.op
  cg : compG ops (dsAt l [] p) o.guard = some it.grd
  wr : it.wr = o.dst.bind (idxN · V.vsl)
  dst : dstOk V o.dst = true
  nd : isDfr o.op = false
  pos : PosOk G.P b ops.toList perm k p i
  op : opAt ops.toList i = o
  ck : k ≤ p → pureOp G.P o.op = false → fltOp o = false → flChk G.P V ops.toList (dsAt l [] p) (fun q => !(bAt b i).testBit q) (perm.take p).reverse 0 = some it.chk
/-- .. when it is reached -/
structure AtS (G : Gx) (V : Vn) (ops : Array Oper) (b perm : List Nat) (k : Nat) (l : List Oper) (its : List IT) (T : List PS) (vs0 : List AV) (p i : Nat) (o : Oper) (it : IT) (s : PS) : Prop extends At0 G V ops b perm k l its p i o it where
  le : p ≤ T.length
  stk : s.stk = stkAt T [] p
  vs : s.vs = vsAt its T vs0 p
  grd : GrdR it s
/-- .. and done -/
structure At (G : Gx) (V : Vn) (cf : CallFn) (ops : Array Oper) (b perm : List Nat) (k : Nat) (l : List Oper) (its : List IT) (T : List PS) (vs0 : List AV) (h0 : Heap) (ds : Defs) (p i : Nat) (o : Oper) (it : IT) (s : PS) : Prop extends AtS G V ops b perm k l its T vs0 p i o it s where
  tp : T[p]? = some s
  hd : p < k → s.h = hdAt T h0 p ∧ HdR cf (ksAt T [] p) it s ∧ ∀ b, s.kill = some b → b ∉ ksAt T [] p
  tl : k ≤ p → s.h = tlAt k T [] h0 p ∧ TlR cf ds it s

section
variable {G : Gx} {V : Vn} {cf : CallFn} {ops : Array Oper} {b perm : List Nat} {k : Nat} {l : List Oper} {its : List IT} {T : List PS} {vs0 : List AV} {h0 : Heap} {ds : Defs} {fin : St} {m : Option Nat} {K0 : Kx} {a0 : Act}

theorem Rgn.itg (R : Rgn G V cf ops b perm k l its T vs0 h0 ds fin m K0 a0) : its.length = l.length ∧ ∀ p o, l[p]? = some o → ∃ it, its[p]? = some it ∧
    compOpB G.P (compX V (dsAt l [] p)) o.op = some it.op ∧ compG ops (dsAt l [] p) o.guard = some it.grd ∧ it.wr = o.dst.bind (idxN · V.vsl) ∧ dstOk V o.dst = true ∧ isDfr o.op = false ∧
    ∀ i, perm[p]? = some i → k ≤ p → pureOp G.P o.op = false → fltOp o = false → flChk G.P V ops.toList (dsAt l [] p) (fun q => !(bAt b i).testBit q) (perm.take p).reverse 0 = some it.chk := by
  obtain ⟨its0, h1, h2⟩ := R.ci
  obtain ⟨g1, g2⟩ := compIts_get h1
  obtain ⟨g3, g4⟩ := addChk_get h2
  refine ⟨g3.trans g1, fun p o hp => ?_⟩
  obtain ⟨it0, a1, a2, a3, a4, a5, a6⟩ := g2 p o hp
  obtain ⟨it, b1, b2, b3, b4, b5⟩ := g4 p it0 a1
  refine ⟨it, b1, by rw [b2]; exact a2, by rw [b3]; exact a3, by rw [b4]; exact a4, a5, by simpa using a6, fun i hi hk hpu hfl => ?_⟩
  have := b5 o i hp hi (by omega) hpu hfl
  unfold dsAt
  simpa using this
theorem Rgn.trg (R : Rgn G V cf ops b perm k l its T vs0 h0 ds fin m K0 a0) : T.length ≤ its.length ∧ k ≤ T.length ∧
    (∃ cs, flChk G.P V ops.toList (dsAt l [] k) (fun q => looseAt G.P ops.toList b q (perm.drop k)) (perm.take k).reverse 0 = some cs ∧ chkOk cs (stkAt T [] k) (vsAt its T vs0 k) (tlAt k T [] h0 k) = true) ∧
    ∀ p s it, T[p]? = some s → its[p]? = some it → s.stk = stkAt T [] p ∧ s.vs = vsAt its T vs0 p ∧ GrdR it s ∧ (p < k → s.h = hdAt T h0 p ∧ HdR cf (ksAt T [] p) it s ∧ ∀ b, s.kill = some b → b ∉ ksAt T [] p) ∧ (k ≤ p → s.h = tlAt k T [] h0 p ∧ TlR cf ds it s) := by
  obtain ⟨cs, h1, h2 | ⟨v, h2⟩⟩ := R.tr
  · obtain ⟨g1, g2, g3, g4, g5⟩ := h2.get
    exact ⟨Nat.le_of_eq g1, by omega, ⟨cs, h1, g4⟩, g5⟩
  · obtain ⟨g1, ⟨it, g2, _⟩, g4, g5⟩ := h2.get
    exact ⟨Nat.le_of_lt (List.getElem?_eq_some_iff.1 g2).1, g1, ⟨cs, h1, g4⟩, g5⟩
theorem Rgn.trn (R : Rgn G V cf ops b perm k l its T vs0 h0 ds fin m K0 a0) (h : T.length = its.length) : fin = ⟨vsAt its T vs0 its.length, tlAt k T [] h0 its.length, ds⟩ := by
  obtain ⟨cs, h1, h2 | ⟨v, h2⟩⟩ := R.tr
  · exact h2.get.2.2.1
  · obtain ⟨g1, ⟨it, g2, _⟩, _⟩ := h2.get
    have := (List.getElem?_eq_some_iff.1 g2).1
    omega

theorem Rgn.lens (R : Rgn G V cf ops b perm k l its T vs0 h0 ds fin m K0 a0) : perm.length = ops.size ∧ l.length = ops.size ∧ its.length = ops.size ∧ T.length ≤ ops.size ∧ k ≤ T.length := by
  have h1 : perm.length = ops.size := by simpa using R.ok.len
  have h2 : l.length = perm.length := (getOps_get R.gl).1
  have h3 : its.length = l.length := R.itg.1
  have h4 : T.length ≤ its.length := R.trg.1
  have h5 : k ≤ T.length := R.trg.2.1
  refine ⟨h1, ?_, ?_, ?_, ?_⟩ <;> omega

theorem Rgn.at0 (R : Rgn G V cf ops b perm k l its T vs0 h0 ds fin m K0 a0) {p i : Nat} (hp : perm[p]? = some i) : ∃ o it, At0 G V ops b perm k l its p i o it := by
  obtain ⟨o, h1, h2⟩ := (getOps_get R.gl).2 p i hp
  obtain ⟨it, h3, h4, h5, h6, h7, h8, h9⟩ := R.itg.2 p o h1
  have e : opAt ops.toList i = o := by unfold opAt; rw [getL_eq, h2]; rfl
  exact ⟨o, it, hp, by rw [← Array.getElem?_toList]; exact h2, h1, h3, h4, h5, h6, h7, h8, R.ok.pos p i hp, e, h9 i hp⟩
theorem Rgn.at (R : Rgn G V cf ops b perm k l its T vs0 h0 ds fin m K0 a0) {p i : Nat} (hp : perm[p]? = some i) (ht : p < T.length) : ∃ o it s, At G V cf ops b perm k l its T vs0 h0 ds p i o it s := by
  obtain ⟨o, it, A⟩ := R.at0 hp
  have hT : T[p]? = some (T[p]'(by omega)) := List.getElem?_eq_getElem _
  obtain ⟨g1, g2, g3, g4, g5⟩ := R.trg.2.2.2 p _ it hT A.ip
  exact ⟨o, it, _, { toAt0 := A, le := by omega, stk := g1, vs := g2, grd := g3, tp := hT, hd := g4, tl := g5 }⟩
theorem Rgn.trp (R : Rgn G V cf ops b perm k l its T vs0 h0 ds fin m K0 a0) (h : T.length < its.length) : ∃ (v : AV) (i : Nat) (o : Oper) (it : IT) (h' : Heap) (s : PS), AtS G V ops b perm k l its T vs0 T.length i o it s ∧ s.on = true ∧ it.pan = true ∧
    evStep cf s.stk s.vs (tlAt k T [] h0 T.length) ds it.op = some (.pan v h') ∧ fin = ⟨vsAt its T vs0 T.length, h', ds⟩ := by
  obtain ⟨cs, h1, h2 | ⟨v, h2⟩⟩ := R.tr
  · have := h2.get.1; omega
  · obtain ⟨g1, ⟨it, g2, g3, g4, h', g5, g6⟩, _⟩ := h2.get
    have hl := R.lens
    obtain ⟨i, hi⟩ : ∃ i, perm[T.length]? = some i := ⟨perm[T.length]'(by omega), List.getElem?_eq_getElem _⟩
    obtain ⟨o, it', A⟩ := R.at0 hi
    have e := A.ip; rw [g2] at e; cases e
    exact ⟨v, i, o, it, h', ⟨stkAt T [] T.length, vsAt its T vs0 T.length, tlAt k T [] h0 T.length, h', undefA, none, true⟩, { toAt0 := A, le := Nat.le_refl _, stk := rfl, vs := rfl, grd := ⟨g4, fun h => by cases h⟩ }, rfl, g3, g5, g6⟩
theorem Rgn.pan (R : Rgn G V cf ops b perm k l its T vs0 h0 ds fin m K0 a0) {p i : Nat} {o : Oper} {it : IT} (A : At0 G V ops b perm k l its p i o it) (hp : it.pan = true) : isCallOp o.op = true ∧ ∀ q j, q < p → perm[q]? = some j → (bAt b i).testBit j = true ∨ (opAt ops.toList j).dst.bind (idxN · V.vsl) = none := by
  obtain ⟨its0, _, h2⟩ := R.ci
  obtain ⟨_, g2, g3⟩ := addChk_pan h2 p it o i A.ip A.lp A.pi hp
  refine ⟨g2, fun q j hq hj => panOk_get g3 j ?_⟩
  rw [List.append_nil, List.mem_reverse]
  exact List.mem_of_getElem? (i := q) (by rw [List.getElem?_take, if_pos hq]; exact hj)

theorem perm_inj (R : Rgn G V cf ops b perm k l its T vs0 h0 ds fin m K0 a0) {p q i : Nat} (hp : perm[p]? = some i) (hq : perm[q]? = some i) : p = q := by
  obtain ⟨h1, e1⟩ := List.getElem?_eq_some_iff.1 hp
  obtain ⟨h2, e2⟩ := List.getElem?_eq_some_iff.1 hq
  have hpw := List.pairwise_iff_getElem.1 R.ok.nd
  rcases Nat.lt_trichotomy p q with h | h | h
  · exact absurd (e1.trans e2.symm) (hpw p q h1 h2 h)
  · exact h
  · exact absurd (e2.trans e1.symm) (hpw q p h2 h1 h)

theorem perm_pos (R : Rgn G V cf ops b perm k l its T vs0 h0 ds fin m K0 a0) {i : Nat} (hi : i < ops.size) : ∃ p : Nat, perm[p]? = some i :=
  List.getElem?_of_mem (R.ok.all (by simpa using hi))

/-- slots and order -/
structure Com (G : Gx) (ops : Array Oper) (b perm : List Nat) (T : List PS) (K0 : Kx) (a0 : Act) (listed : Array Bool) (a : Act) (K : Kx) : Prop where
  lsz : listed.size = ops.size
  clos : ∀ i, Ls listed i → ∀ j, (bAt b i).testBit j = true → Ls listed j
  vals : ∀ (p i : Nat) (s : PS) (o : Oper) (t : Nat), perm[p]? = some i → Ls listed i → T[p]? = some s → ops[i]? = some o → o.dst = some t → ∃ x, a.tmps[t]? = some x ∧ VR G.P K s.v x
  old : ∀ (t : Nat), (∀ (i : Nat) (o : Oper), Ls listed i → ops[i]? = some o → o.dst ≠ some t) → a.tmps[t]? = a0.tmps[t]?
  size : a.tmps.size = a0.tmps.size
  dfr : a.defers = a0.defers
  kle : Kle K0 K
theorem Com.mono {listed : Array Bool} {a : Act} {K K' : Kx} (C : Com G ops b perm T K0 a0 listed a K) (hk : Kle K K') : Com G ops b perm T K0 a0 listed a K' :=
  ⟨C.lsz, C.clos, fun p i s o t h1 h2 h3 h4 h5 => (let ⟨x, h6, h7⟩ := C.vals p i s o t h1 h2 h3 h4 h5; ⟨x, h6, h7.mono hk⟩), C.old, C.size, C.dfr, C.kle.trans hk⟩

theorem Com.lt {listed : Array Bool} {a : Act} {K : Kx} (C : Com G ops b perm T K0 a0 listed a K) {i : Nat} (h : Ls listed i) : i < ops.size := by
  rw [← C.lsz]
  apply Classical.byContradiction
  intro hn
  unfold Ls at h
  rw [Array.getD_eq_getD_getElem?, Array.getElem?_eq_none (by omega)] at h
  cases h

theorem ready_spec (R : Rgn G V cf ops b perm k l its T vs0 h0 ds fin m K0 a0) {listed : Array Bool} {a : Act} {K : Kx} (C : Com G ops b perm T K0 a0 listed a K) {i : Nat} (hi : i ∈ Region.ready .any ops listed) :
    i < ops.size ∧ ¬ Ls listed i ∧ ∀ j, (bAt b i).testBit j = true → Ls listed j := by
  unfold Region.ready at hi
  rw [List.mem_filter, List.mem_range, Bool.and_eq_true, Bool.not_eq_true'] at hi
  obtain ⟨h1, h2, h3⟩ := hi
  obtain ⟨o, ho⟩ : ∃ o, ops[i]? = some o := ⟨ops[i], by simp [h1]⟩
  rw [ho] at h3
  simp only [Option.map_some, Option.getD_some] at h3
  refine ⟨h1, fun hl => ?_, fun j hj => ?_⟩
  · unfold Ls at hl
    have : i < listed.size := by rw [C.lsz]; exact h1
    simp [Array.getD_eq_getD_getElem?, this] at hl h2
    rw [hl] at h2; cases h2
  · rw [R.ok.bef i o (by rw [Array.getElem?_toList]; exact ho), edgeM_bit] at hj
    obtain ⟨e, he, hb, hj⟩ := hj
    have hle : Ls listed e.on := by
      rw [Array.all_eq_true_iff_forall_mem] at h3
      have := h3 e (by simpa using he)
      rw [hb] at this
      exact this
    rcases hj with rfl | hj
    · exact hle
    · exact C.clos _ hle _ hj

theorem ready_ne (R : Rgn G V cf ops b perm k l its T vs0 h0 ds fin m K0 a0) {listed : Array Bool} {a : Act} {K : Kx} (C : Com G ops b perm T K0 a0 listed a K) (hr : Region.ready .any ops listed = []) : ∀ i, i < ops.size → Ls listed i := by
  have key : ∀ p i : Nat, perm[p]? = some i → Ls listed i := by
    intro p
    induction p using Nat.strongRecOn with
    | ind p ih =>
      intro i hi
      apply Classical.byContradiction
      intro hn
      obtain ⟨o, it, A⟩ := R.at0 hi
      have : i ∈ Region.ready .any ops listed := by
        unfold Region.ready
        have hlt : i < ops.size := (Array.getElem?_eq_some_iff.1 A.oi).1
        rw [List.mem_filter, List.mem_range, Bool.and_eq_true, Bool.not_eq_true', A.oi]
        refine ⟨hlt, ?_, ?_⟩
        · have hl : i < listed.size := by rw [C.lsz]; exact hlt
          unfold Ls at hn
          simp [Array.getD_eq_getD_getElem?, hl] at hn ⊢
          exact hn
        · simp only [Option.map_some, Option.getD_some]
          rw [Array.all_eq_true_iff_forall_mem]
          intro e he
          cases hb : Region.binds .any e with
          | false => rfl
          | true =>
            have hbit : (bAt b i).testBit e.on = true := by
              rw [R.ok.bef i o (by rw [Array.getElem?_toList]; exact A.oi), edgeM_bit]
              exact ⟨e, by simpa using he, hb, .inl rfl⟩
            obtain ⟨q, hq, hqe⟩ := A.pos.bef _ hbit
            exact ih q hq _ hqe
      rw [hr] at this; cases this
  intro i hi
  obtain ⟨p, hp⟩ := perm_pos R hi
  exact key p i hp

/-- only these operands -/
noncomputable def coR (co : CoF) (l : List Operand) : CoF := fun x => open Classical in if x ∈ l then co x else none
theorem coR_comp {P : Program} {co : CoF} {o : Op} : compOp P (coR co o.operands.toList) o = compOp P co o := (compOp_congr fun x hx => by unfold coR; rw [if_pos hx]).symm.symm

/-- a result of an operation before -/
theorem com_stkP (R : Rgn G V cf ops b perm k l its T vs0 h0 ds fin m K0 a0) {p : Nat} (hp : p ≤ T.length) {t j : Nat} (hj : idxO t (dsAt l [] p) = some j) :
    ∃ q iq oq sq, q < p ∧ perm[q]? = some iq ∧ ops[iq]? = some oq ∧ oq.dst = some t ∧ T[q]? = some sq ∧ (stkAt T [] p)[j]? = some sq.v := by
  have hl := R.lens
  have h1 := idxO_some hj
  unfold dsAt at h1
  rw [List.append_nil] at h1
  have hjl := (List.getElem?_eq_some_iff.1 h1).1
  rw [List.length_reverse, List.length_map, List.length_take] at hjl
  rw [List.getElem?_reverse (by rw [List.length_map, List.length_take]; exact hjl), List.length_map, List.length_take, List.getElem?_map, List.getElem?_take, if_pos (by omega)] at h1
  rw [Option.map_eq_some_iff] at h1
  obtain ⟨oq, hq, hd⟩ := h1
  have hmin : min p l.length = p := by omega
  rw [hmin] at hq
  obtain ⟨iq, hiq⟩ : ∃ iq, perm[p - 1 - j]? = some iq := ⟨perm[p - 1 - j]'(by omega), List.getElem?_eq_getElem _⟩
  obtain ⟨oq', itq, sq, Aq⟩ := R.at hiq (by omega)
  have : oq' = oq := by have := Aq.lp; rw [hq] at this; cases this; rfl
  subst this
  refine ⟨p - 1 - j, iq, oq', sq, by omega, hiq, Aq.oi, hd, Aq.tp, ?_⟩
  rw [stkAt_get (by omega), List.append_nil, List.getElem?_reverse (by rw [List.length_map, List.length_take]; omega), List.length_map, List.length_take, List.getElem?_map, List.getElem?_take, if_pos (by omega)]
  have hmin : min p T.length = p := by omega
  rw [hmin, Aq.tp]; rfl

theorem com_stk (R : Rgn G V cf ops b perm k l its T vs0 h0 ds fin m K0 a0) {p i : Nat} {o : Oper} {it : IT} {s : PS} (A : AtS G V ops b perm k l its T vs0 p i o it s) {t j : Nat} (hj : idxO t (dsAt l [] p) = some j) :
    ∃ q iq oq sq, q < p ∧ perm[q]? = some iq ∧ ops[iq]? = some oq ∧ oq.dst = some t ∧ T[q]? = some sq ∧ s.stk[j]? = some sq.v := by
  rw [A.stk]
  exact com_stkP R A.le hj

theorem com_opsP (R : Rgn G V cf ops b perm k l its T vs0 h0 ds fin m K0 a0) {listed : Array Bool} {a : Act} {K : Kx} (C : Com G ops b perm T K0 a0 listed a K) {r i : Nat} {o : Oper} {it : IT} (A : At0 G V ops b perm k l its r i o it)
    (hni : ¬ Ls listed i) (hrd : ∀ j, (bAt b i).testBit j = true → Ls listed j) {p : Nat} (hrp : r ≤ p) (hp : p ≤ T.length) (hnw : ∀ (w : Nat) (oq : Oper) (t : Nat), r ≤ w → w < p → l[w]? = some oq → oq.dst = some t → Operand.tmp t ∉ o.op.operands.toList) :
    OpsOk G.P K (coR (compX V (dsAt l [] p)) o.op.operands.toList) (stkAt T [] p) (vsAt its T vs0 p) a.eval := by
  intro x f v hc hf
  unfold coR at hc
  split at hc
  rotate_left
  · cases hc
  · rename_i hmem
    cases x with
    | tmp t =>
      have hread := A.pos.reads t (by rw [A.op]; exact hmem)
      unfold readOk at hread
      have wr : ∀ {q : Nat} {oq : Oper}, ops[q]? = some oq → oq.dst = some t → (bAt b i).testBit q = true ∨ (bAt b q).testBit i = true := by
        intro q oq hq hd
        split at hread
        · rename_i hw
          exact absurd hd (writer_none hw q oq (by rw [Array.getElem?_toList]; exact hq))
        · rename_i w hw
          obtain ⟨w', ow, e, h1, h2⟩ := writer_some hw
          have : w = q := by
            rw [e, Nat.zero_add]
            exact R.ok.dst w' q ow oq t h1 (by rw [Array.getElem?_toList]; exact hq) h2 hd
          subst this
          rw [Bool.or_eq_true] at hread
          exact hread
      simp only [compX] at hc
      split at hc
      · rename_i j hj
        cases hc
        obtain ⟨q, iq, oq, sq, hq, h1, h2, h3, h4, h5⟩ := com_stkP R hp hj
        have hqr : q < r := by
          apply Classical.byContradiction
          intro hn
          obtain ⟨oq', itq, sq', Aq⟩ := R.at h1 (by omega)
          have e := Aq.oi
          rw [h2] at e; cases e
          exact hnw q oq t (by omega) hq Aq.lp h3 hmem
        have hf' : getL (stkAt T [] p) j = some v := hf
        rw [getL_eq, h5] at hf'
        cases hf'
        have hls : Ls listed iq := by
          rcases wr h2 h3 with h6 | h6
          · exact hrd _ h6
          · obtain ⟨q', hq', hqe⟩ := (R.ok.pos q iq h1).bef i h6
            have := perm_inj R hqe A.pi
            omega
        obtain ⟨x, h7, h8⟩ := C.vals q iq sq oq t h1 hls h4 h2 h3
        show VR G.P K sq.v (a.tmps.getD t undef)
        rw [Array.getD_eq_getD_getElem?, h7]; exact h8
      · rename_i hno
        rw [Option.map_eq_some_iff] at hc
        obtain ⟨vi, hvi, rfl⟩ := hc
        have hno' := idxO_none hno
        have hvt := idxN_some hvi
        have nowr : ∀ q oq, q < p → l[q]? = some oq → oq.dst ≠ some t := fun q oq hq ho hd => hno' (by
          unfold dsAt
          rw [List.append_nil, List.mem_reverse, List.mem_map]
          exact ⟨oq, List.mem_of_getElem? (i := q) (by rw [List.getElem?_take, if_pos hq]; exact ho), hd⟩)
        have hvs : (vsAt its T vs0 p)[vi]? = vs0[vi]? := by
          refine vsAt_old fun q itq hq hitq hwr => ?_
          have hl := R.lens
          have hql := (List.getElem?_eq_some_iff.1 hitq).1
          obtain ⟨iq, hiq⟩ : ∃ iq, perm[q]? = some iq := ⟨perm[q]'(by omega), List.getElem?_eq_getElem _⟩
          obtain ⟨oq, itq', sq, Aq⟩ := R.at hiq (by omega)
          have e := Aq.ip
          rw [hitq] at e; cases e
          rw [Aq.wr] at hwr
          cases hd : oq.dst with
          | none => rw [hd] at hwr; cases hwr
          | some t' =>
            rw [hd] at hwr
            have := idxN_some (show idxN t' V.vsl = some vi from hwr)
            rw [hvt] at this; cases this
            exact nowr q oq hq Aq.lp hd
        have hf' : getL (vsAt its T vs0 p) vi = some v := hf
        rw [getL_eq, hvs] at hf'
        obtain ⟨v', x, h1, h2, h3⟩ := R.hs.slots.2 vi t hvt
        rw [h1] at hf'; cases hf'
        show VR G.P K v (a.tmps.getD t undef)
        rw [Array.getD_eq_getD_getElem?, C.old t ?_, h2]
        · exact h3.mono C.kle
        · intro j oj hj hoj hd
          rcases wr hoj hd with h6 | h6
          · obtain ⟨q', hq', hqe⟩ := A.pos.bef j h6
            obtain ⟨oq, itq, sq, Aq⟩ := R.at hqe (by omega)
            have e := Aq.oi
            rw [hoj] at e; cases e
            exact nowr q' oj (by omega) Aq.lp hd
          · exact hni (C.clos j hj i h6)
    | const c =>
      simp only [compX, Option.map_eq_some_iff] at hc
      obtain ⟨u, hu, rfl⟩ := hc
      cases hf
      exact ofValue_ok hu
    | global g =>
      simp only [compX, Option.map_eq_some_iff] at hc
      obtain ⟨cs, hu, rfl⟩ := hc
      cases hf
      obtain ⟨cvs, h1, h2, h3, h4⟩ := (R.hs.gl.mono C.kle) g cs hu
      have := VR.iptr cs 0 g 0 cvs h1 h2 h3 h4
      simpa [Act.eval] using this
    | func f =>
      cases hc
      cases hf
      exact VR.fn f [] [] [] [] .nil .nil

theorem com_ops (R : Rgn G V cf ops b perm k l its T vs0 h0 ds fin m K0 a0) {listed : Array Bool} {a : Act} {K : Kx} (C : Com G ops b perm T K0 a0 listed a K) {p i : Nat} {o : Oper} {it : IT} {s : PS} (A : AtS G V ops b perm k l its T vs0 p i o it s)
    (hni : ¬ Ls listed i) (hrd : ∀ j, (bAt b i).testBit j = true → Ls listed j) : OpsOk G.P K (coR (compX V (dsAt l [] p)) o.op.operands.toList) s.stk s.vs a.eval := by
  rw [A.stk, A.vs]
  exact com_opsP R C A.toAt0 hni hrd (Nat.le_refl _) A.le fun w oq t h1 h2 => by omega

theorem com_guard (R : Rgn G V cf ops b perm k l its T vs0 h0 ds fin m K0 a0) {listed : Array Bool} {a : Act} {K : Kx} (C : Com G ops b perm T K0 a0 listed a K) {p i : Nat} {o : Oper} {it : IT} {s : PS} (A : AtS G V ops b perm k l its T vs0 p i o it s)
    (hrd : ∀ j, (bAt b i).testBit j = true → Ls listed j) : Region.wanted o (yielded ops a.tmps) = s.on := by
  have hg := A.grd.1
  have hc := A.cg
  unfold Region.wanted
  cases hgd : o.guard with
  | none =>
    rw [hgd] at hc
    simp only [compG, Option.some.injEq] at hc
    rw [← hc] at hg
    have hg' : some true = some s.on := hg
    simpa using hg'
  | some g =>
    obtain ⟨j, want⟩ := g
    rw [hgd] at hc
    simp only [compG] at hc
    split at hc
    · rename_i t hj
      rw [Option.map_eq_some_iff] at hc
      obtain ⟨p', hp', e⟩ := hc
      rw [← e] at hg
      obtain ⟨q, iq, oq, sq, hq, h1, h2, h3, h4, h5⟩ := com_stk R A hp'
      have hg' : ob (getL s.stk p') (guardB want) = some s.on := hg
      rw [getL_eq, h5] at hg'
      have hg' : guardB want sq.v = some s.on := hg'
      rw [Option.bind_eq_some_iff] at hj
      obtain ⟨oj, hoj, hdj⟩ := hj
      have e2 : iq = j := R.ok.dst iq j oq oj t (by rw [Array.getElem?_toList]; exact h2) (by rw [Array.getElem?_toList]; exact hoj) h3 hdj
      subst e2
      have hls : Ls listed iq := hrd _ (A.pos.grd iq want (by rw [A.op]; exact hgd))
      obtain ⟨x, h7, h8⟩ := C.vals q iq sq oq t h1 hls h4 h2 h3
      unfold yielded
      simp only [hoj, Option.bind_some, hdj, h7]
      unfold guardB at hg'
      split at hg'
      · rename_i bb hv
        simp only [bif_eq, Option.some.injEq] at hg'
        rw [← hg']
        rw [hv] at h8
        cases h8
        cases want <;> cases bb <;> rfl
      · rename_i hv
        rw [hv] at h8
        cases h8
        have hg2 : false = s.on := by simpa using hg'
        rw [← hg2]
        rfl
      · cases hg'
    · cases hc

theorem com_put (R : Rgn G V cf ops b perm k l its T vs0 h0 ds fin m K0 a0) {listed : Array Bool} {a : Act} {K K' : Kx} (C : Com G ops b perm T K0 a0 listed a K) {p i : Nat} {o : Oper} {it : IT} {s : PS} (A : At G V cf ops b perm k l its T vs0 h0 ds p i o it s)
    (hrd : ∀ j, (bAt b i).testBit j = true → Ls listed j) (hk : Kle K K') {x : Value} (hx : VR G.P K' s.v x) : Com G ops b perm T K0 a0 (listed.setIfInBounds i true) (a.put o.dst x) K' := by
  have hil : i < ops.size := (Array.getElem?_eq_some_iff.1 A.oi).1
  have hil' : i < listed.size := by rw [C.lsz]; exact hil
  refine ⟨by rw [Array.size_setIfInBounds]; exact C.lsz, fun j hj q hq => ?_, fun p' i' s' o' t h1 h2 h3 h4 h5 => ?_, fun t ht => ?_, by rw [put_size]; exact C.size, by rw [put_defers]; exact C.dfr, C.kle.trans hk⟩
  · rw [ls_set hil'] at hj ⊢
    rcases hj with rfl | hj
    · exact .inr (hrd q hq)
    · exact .inr (C.clos j hj q hq)
  · rw [ls_set hil'] at h2
    rw [put_tmps]
    by_cases hii : i' = i
    · subst hii
      have := perm_inj R h1 A.pi
      subst this
      have e1 := A.tp; rw [h3] at e1; cases e1
      have e2 := A.oi; rw [h4] at e2; cases e2
      have hlt : t < a.tmps.size := by
        have := A.dst
        rw [h5] at this
        simp [dstOk] at this
        have := R.hs.nt
        rw [C.size]; omega
      rw [if_pos ⟨h5, hlt⟩]
      exact ⟨x, rfl, hx⟩
    · rw [if_neg (fun hh => hii (R.ok.dst i' i o' o t (by rw [Array.getElem?_toList]; exact h4) (by rw [Array.getElem?_toList]; exact A.oi) h5 hh.1))]
      obtain ⟨y, h6, h7⟩ := C.vals p' i' s' o' t h1 (h2.resolve_left hii) h3 h4 h5
      exact ⟨y, h6, h7.mono hk⟩
  · rw [put_tmps, if_neg (fun hh => ht i o ((ls_set hil').2 (.inl rfl)) A.oi hh.1)]
    exact C.old t fun j oj hj hoj => ht j oj ((ls_set hil').2 (.inr hj)) hoj

end
end Hx

