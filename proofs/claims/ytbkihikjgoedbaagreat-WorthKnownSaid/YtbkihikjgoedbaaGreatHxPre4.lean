/- Regions that draw their order: one operation. -/
import Derived.Test.YtbkihikjgoedbaaGreatHxPre3
import Derived.OrdersIn
namespace Hx
open Go

/-! Pure operations. -/
def PureF (f : AF) : Prop := ∀ stk vs h v h' k, f stk vs h = some (v, h', k) → h' = h ∧ k = none ∧ ∀ h2, f stk vs h2 = some (v, h2, none)

theorem pure_rO {g : List AV → List AV → Option AV} : PureF fun stk vs h => rO h (g stk vs) := fun stk vs h v h' k hf => by
  obtain ⟨h1, h2, h3⟩ := rO_some.1 hf
  exact ⟨h2, h3, fun h2 => rO_some.2 ⟨h1, rfl, rfl⟩⟩
theorem pure_ob {α : Type} {g : List AV → List AV → Option α} {f : α → AF} (hf : ∀ x, PureF (f x)) : PureF fun stk vs h => ob (g stk vs) fun x => f x stk vs h := fun stk vs h v h' k he => by
  rw [ob_some] at he
  obtain ⟨x, hx, he⟩ := he
  obtain ⟨h1, h2, h3⟩ := hf x _ _ _ _ _ _ he
  exact ⟨h1, h2, fun h2 => ob_some.2 ⟨x, hx, h3 h2⟩⟩
theorem pure_some {g : List AV → List AV → AV} : PureF fun stk vs h => some (g stk vs, h, none) := fun stk vs h v h' k he => by
  cases he; exact ⟨rfl, rfl, fun h2 => rfl⟩
theorem pure_none : PureF fun _ _ _ => none := fun stk vs h v h' k he => by cases he

theorem pure_op {P : Program} {co : CoF} {o : Op} {k : OpK} (hp : pureOp P o = true) (hc : compOp P co o = some k) : ∃ f, k = .a f ∧ PureF f := by
  cases o <;> simp only [pureOp, reduceCtorEq, Bool.false_eq_true] at hp <;> simp only [compOp, Option.map_eq_some_iff] at hc
  case move x => obtain ⟨f, _, rfl⟩ := hc; exact ⟨_, rfl, pure_rO⟩
  case assign x => obtain ⟨f, _, rfl⟩ := hc; exact ⟨_, rfl, pure_rO⟩
  case pick c a b =>
    split at hc
    · cases hc
      refine ⟨_, rfl, fun stk vs h v h' k hf => ?_⟩
      simp only [aPick, ob_some] at hf
      obtain ⟨t, ht, hf⟩ := hf
      cases t <;> simp only [reduceCtorEq] at hf
      obtain ⟨h1, h2, h3⟩ := rO_some.1 hf
      exact ⟨h2, h3, fun h2 => ob_some.2 ⟨_, ht, rO_some.2 ⟨h1, rfl, rfl⟩⟩⟩
    · cases hc
  case build t ps =>
    unfold cBuild at hc
    repeat' split at hc
    all_goals first
      | (cases hc; done)
      | (simp only [Option.map_eq_some_iff] at hc
         obtain ⟨x, hx, rfl⟩ := hc
         exact ⟨_, rfl, pure_ob fun cs => pure_some⟩)
  case nilCheck x => obtain ⟨f, _, rfl⟩ := hc; exact ⟨_, rfl, pure_ob fun v => pure_rO⟩
  case binOp =>
    split at hc
    · cases hc; exact ⟨_, rfl, pure_ob fun v => pure_ob fun v => pure_rO⟩
    · cases hc
  case unOp => obtain ⟨f, _, rfl⟩ := hc; exact ⟨_, rfl, pure_ob fun v => pure_rO⟩
  case convert =>
    split at hc
    · cases hc; exact ⟨_, rfl, pure_ob fun v => pure_rO⟩
    · cases hc
  case makeInterface =>
    split at hc
    · cases hc
    · cases hc; exact ⟨_, rfl, pure_ob fun v => pure_some⟩
    · cases hc
  case makeFunc =>
    split at hc
    · cases hc; exact ⟨_, rfl, pure_ob fun v => pure_ob fun v => pure_some⟩
    · cases hc
  case slice t x lo hi mx =>
    cases mx with
    | some m =>
      cases hi with
      | none => cases hc
      | some hi =>
        simp only [cSlice3] at hc
        split at hc
        · split at hc
          · simp only [Option.map_eq_some_iff] at hc
            obtain ⟨sz, _, rfl⟩ := hc
            refine ⟨_, rfl, pure_ob fun v => pure_ob (g := fun _ _ => lenA v) fun len => pure_ob fun l => pure_ob fun u => pure_ob (g := fun _ _ => natOf u) fun u => pure_ob fun m => pure_ob (g := fun _ _ => natOf m) fun m => ?_⟩
            intro stk vs h v h' k hf
            rw [bif_none] at hf
            obtain ⟨h0, hf⟩ := hf
            obtain ⟨h1, h2, h3⟩ := rO_some.1 hf
            exact ⟨h2, h3, fun h2 => bif_none.2 ⟨h0, rO_some.2 ⟨h1, rfl, rfl⟩⟩⟩
          · cases hc
        · cases hc
    | none =>
      simp only [cSlice] at hc
      split at hc
      · split at hc
        · simp only [Option.map_eq_some_iff] at hc
          obtain ⟨sz, _, rfl⟩ := hc
          exact ⟨_, rfl, pure_ob fun v => pure_ob (g := fun _ _ => lenA v) fun len => pure_ob fun l => pure_ob fun u => pure_rO⟩
        · rename_i hu
          unfold slcT at hp
          rw [hu] at hp; cases hp
        · cases hc
      · cases hc
  case fieldAddr =>
    unfold cFieldAddr at hc
    repeat' split at hc
    all_goals first
      | (cases hc; done)
      | (cases hc; exact ⟨_, rfl, pure_ob fun v => pure_rO⟩)
  case field =>
    unfold cField at hc
    repeat' split at hc
    all_goals first
      | (cases hc; done)
      | (cases hc; exact ⟨_, rfl, pure_ob fun v => pure_rO⟩)
  case indexAddr =>
    unfold cIndexAddr at hc
    repeat' split at hc
    all_goals first
      | (cases hc; done)
      | (simp only [Option.map_eq_some_iff] at hc
         obtain ⟨sz, _, rfl⟩ := hc
         exact ⟨_, rfl, pure_ob fun v => pure_ob fun i => pure_ob (g := fun _ _ => natOf i) fun i => pure_rO⟩)
  case index =>
    unfold cIndex at hc
    repeat' split at hc
    all_goals first
      | (cases hc; done)
      | (cases hc; exact ⟨_, rfl, pure_ob fun v => pure_ob fun i => pure_ob (g := fun _ _ => natOf i) fun i => pure_rO⟩)
  case typeAssert =>
    unfold cTypeAssert at hc
    repeat' split at hc
    all_goals first
      | (cases hc; done)
      | (cases hc; exact ⟨_, rfl, pure_ob fun v => pure_rO⟩)
  case extract => obtain ⟨f, _, rfl⟩ := hc; exact ⟨_, rfl, pure_ob fun v => pure_rO⟩
  case call c =>
    obtain ⟨cal, args, ts⟩ := c
    cases cal
    case value => exact absurd hp (by simp)
    case invoke => exact absurd hp (by simp)
    rename_i b
    simp only at hc
    cases b
    all_goals first
      | (exfalso; revert hp; simp; done)
      | skip
    case len =>
      simp only at hp
      split at hp
      · rename_i t hts
        split at hc
        · simp only [hts] at hc
          unfold cBuiltin at hc
          split at hc
          all_goals first
            | (cases hc; done)
            | skip
          all_goals rename_i h1 h2 h3
          all_goals first
            | (cases h1; done)
            | (cases h2; done)
            | skip
          cases h2
          unfold cLen at hc
          split at hc
          · cases hc; exact ⟨_, rfl, pure_ob fun v => pure_rO⟩
          · rename_i hu; unfold slcT at hp; rw [hu] at hp; cases hp
          · cases hc
        · cases hc
      · cases hp
    all_goals
      split at hc
      · unfold cBuiltin at hc
        split at hc
        all_goals first
          | (cases hc; exact ⟨_, rfl, pure_ob fun v => pure_ob fun l => pure_rO⟩)
          | (cases hc; done)
          | (rename_i h1 _ _; cases h1; done)
          | (rename_i h1 _; cases h1; done)
          | (rename_i h1; cases h1; done)
      · cases hc

/-! What is read. -/
def ReadF (f : AF) : Prop := ∀ stk vs h v h' k, f stk vs h = some (v, h', k) → h' = h ∧ k = none
theorem read_op {P : Program} {co : CoF} {o : Oper} {k : OpK} (hp : fltOp o = true) (hc : compOp P co o.op = some k) : ∃ f, k = .a f ∧ ReadF f := by
  unfold fltOp at hp
  rw [Bool.and_eq_true] at hp
  have hp := hp.2
  split at hp
  · rename_i t a ho
    rw [ho] at hc
    simp only [compOp] at hc
    split at hc
    · cases hc
      refine ⟨_, rfl, fun stk vs h v h' k hf => ?_⟩
      simp only [aLoad, ob_some] at hf
      obtain ⟨_, _, _, _, hf⟩ := hf
      exact (rO_some.1 hf).2
    · cases hc
  · rename_i t m x ok ho
    rw [ho] at hc
    simp only [compOp, cLookup] at hc
    split at hc
    · simp only [Option.map_eq_some_iff] at hc
      obtain ⟨z, _, rfl⟩ := hc
      refine ⟨_, rfl, fun stk vs h v h' k hf => ?_⟩
      simp only [aLook, ob_some] at hf
      obtain ⟨_, _, _, _, hf⟩ := hf
      exact (rO_some.1 hf).2
    · cases hc
  · cases hp
theorem flt_guard {o : Oper} (hp : fltOp o = true) : o.guard = none := by
  unfold fltOp at hp
  rw [Bool.and_eq_true, Option.isNone_iff_eq_none] at hp
  exact hp.1
theorem flt_call {o : Oper} (hp : fltOp o = true) : isCallOp o.op = false ∧ jumpOp o.op = false := by
  unfold fltOp at hp
  rw [Bool.and_eq_true] at hp
  have hp := hp.2
  split at hp
  · rename_i ho; rw [ho]; exact ⟨rfl, rfl⟩
  · rename_i ho; rw [ho]; exact ⟨rfl, rfl⟩
  · cases hp

theorem same0_eq {x y : AV} (h : same0 x y = true) : x = y := by
  cases x <;> simp only [same0, Bool.false_eq_true] at h <;> cases y <;> simp only [Bool.false_eq_true, bif_eq, Nat.beq_eq] at h
  case bool.bool a b => cases a <;> cases b <;> simp_all
  case int.int k a k' b =>
    split at h
    · rename_i hk
      have := kEq_eq hk
      subst this
      rw [eqI_eq] at h
      rw [eq_of_beq h]
    · cases h
  case ptr.ptr => split at h <;> simp_all
  case msl.msl =>
    split at h
    · split at h
      · split at h
        · simp_all
        · cases h
      · cases h
    · cases h
  case mp.mp => simp_all
  all_goals rfl
theorem sameLs_eq {f : AV → AV → Bool} (hf : ∀ {x y}, f x y = true → x = y) : ∀ {l m : List AV}, sameLs f l m = true → l = m
  | [], [], _ => rfl
  | [], _ :: _, h => by cases h
  | _ :: _, [], h => by cases h
  | x :: l, y :: m, h => by
    have h' : bif_ (f x y) (sameLs f l m) false = true := h
    rw [bif_eq] at h'
    split at h'
    · rename_i h1; rw [hf h1, sameLs_eq hf h']
    · cases h'
theorem sameFn_eq {f g : Fn} (h : sameFn f g = true) : f = g := by
  cases f <;> simp only [sameFn, Bool.false_eq_true] at h <;> cases g <;> simp only [Bool.false_eq_true, Nat.beq_eq] at h <;> rw [h]
theorem sameN_eq {f : AV → AV → Bool} (hf : ∀ {x y}, f x y = true → x = y) {x y : AV} (h : sameN f x y = true) : x = y := by
  cases x <;> simp only [sameN] at h
  case agg a => cases y <;> simp only [Bool.false_eq_true] at h; rw [sameLs_eq hf h]
  case tup a => cases y <;> simp only [Bool.false_eq_true] at h; rw [sameLs_eq hf h]
  case ifc t a =>
    cases y <;> simp only [Bool.false_eq_true, bif_eq, Nat.beq_eq] at h
    split at h
    · rename_i h1; rw [h1, hf h]
    · cases h
  case fn g a c =>
    cases y <;> simp only [Bool.false_eq_true, bif_eq] at h
    split at h
    · rename_i h1
      split at h
      · rename_i h2; rw [sameFn_eq h1, sameLs_eq hf h2, sameLs_eq hf h]
      · cases h
    · cases h
  case iptr a o =>
    cases y <;> simp only [Bool.false_eq_true, bif_eq, Nat.beq_eq] at h
    split at h
    · rename_i h1; rw [h1, sameLs_eq hf h]
    · cases h
  case isl a o =>
    cases y <;> simp only [Bool.false_eq_true, bif_eq, Nat.beq_eq] at h
    split at h
    · rename_i h1; rw [h1, sameLs_eq hf h]
    · cases h
  all_goals exact same0_eq h
theorem sameD_eq : ∀ (n : Nat) {x y : AV}, sameD n x y = true → x = y
  | 0, _, _, h => same0_eq h
  | n + 1, _, _, h => sameN_eq (f := sameD n) (fun h => sameD_eq n h) h
theorem sameA_eq {x y : AV} (h : sameA x y = true) : x = y := sameD_eq 12 h

theorem chkOk_get {stk vs : List AV} {h : Heap} {j : Nat} {f : AF} : ∀ {cs : List (Nat × AF)}, chkOk cs stk vs h = true → (j, f) ∈ cs → ∃ v h' k, f stk vs h = some (v, h', k) ∧ stk[j]? = some v
  | [], _, hm => by cases hm
  | c :: cs, hc, hm => by
    have hc' : (match c.2 stk vs h with
      | some r => (match getL stk c.1 with
        | some u => bif_ (sameA r.1 u) (chkOk cs stk vs h) false
        | none => false)
      | none => false) = true := hc
    split at hc'
    · rename_i r hr
      split at hc'
      · rename_i u hu
        rw [bif_eq] at hc'
        split at hc'
        · rename_i hs
          rcases List.mem_cons.1 hm with rfl | hm
          · refine ⟨r.1, r.2.1, r.2.2, hr, ?_⟩
            rw [← getL_eq, sameA_eq hs]; exact hu
          · exact chkOk_get hc' hm
        · cases hc'
      · cases hc'
    · cases hc'

end Hx
