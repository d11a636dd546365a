/- Regions that draw their order: one operation. -/
import Derived.Test.YtpkngodkcopjbaaHxPre3
import Derived.OrdersIn
namespace Hx
open Go

/-! Pure operations. -/
def PureF (f : AF) : Prop := ∀ stk vs h v h' k, f stk vs h = some (v, h', k) → h' = h ∧ k = none ∧ ∀ h2, f stk vs h2 = some (v, h2, none)

theorem pure_rO {g : List AV → List AV → Option AV} : PureF fun stk vs h => rO h (g stk vs) := fun stk vs h v h' k hf => by
  obtain ⟨h1, h2, h3⟩ := rO_some.1 hf
  exact ⟨h2, h3, fun h2 => rO_some.2 ⟨h1, rfl, rfl⟩⟩
theorem pure_ob {α : Type} {g : List AV → List AV → Option α} {f : α → AF} (hf : ∀ x, PureF (f x)) : PureF fun stk vs h => ob (g stk vs) fun x => f x stk vs h := fun stk vs h v h' k he => by
  rw [ob_some] at he
  obtain ⟨x, hx, he⟩ := he
  obtain ⟨h1, h2, h3⟩ := hf x _ _ _ _ _ _ he
  exact ⟨h1, h2, fun h2 => ob_some.2 ⟨x, hx, h3 h2⟩⟩
theorem pure_some {g : List AV → List AV → AV} : PureF fun stk vs h => some (g stk vs, h, none) := fun stk vs h v h' k he => by
  cases he; exact ⟨rfl, rfl, fun h2 => rfl⟩
theorem pure_none : PureF fun _ _ _ => none := fun stk vs h v h' k he => by cases he

theorem pure_op {P : Program} {co : CoF} {o : Op} {k : OpK} (hp : pureOp P o = true) (hc : compOp P co o = some k) : ∃ f, k = .a f ∧ PureF f := by
  cases o <;> simp only [pureOp, reduceCtorEq, Bool.false_eq_true] at hp <;> simp only [compOp, Option.map_eq_some_iff] at hc
  case move x => obtain ⟨f, _, rfl⟩ := hc; exact ⟨_, rfl, pure_rO⟩
  case assign x => obtain ⟨f, _, rfl⟩ := hc; exact ⟨_, rfl, pure_rO⟩
  case pick c a b =>
    split at hc
    · cases hc
      refine ⟨_, rfl, fun stk vs h v h' k hf => ?_⟩
      simp only [aPick, ob_some] at hf
      obtain ⟨t, ht, hf⟩ := hf
      cases t <;> simp only [reduceCtorEq] at hf
      obtain ⟨h1, h2, h3⟩ := rO_some.1 hf
      exact ⟨h2, h3, fun h2 => ob_some.2 ⟨_, ht, rO_some.2 ⟨h1, rfl, rfl⟩⟩⟩
    · cases hc
  case build t ps =>
    unfold cBuild at hc
    repeat' split at hc
    all_goals first
      | (cases hc; done)
      | (simp only [Option.map_eq_some_iff] at hc
         obtain ⟨x, hx, rfl⟩ := hc
         exact ⟨_, rfl, pure_ob fun cs => pure_some⟩)
  case nilCheck x => obtain ⟨f, _, rfl⟩ := hc; exact ⟨_, rfl, pure_ob fun v => pure_rO⟩
  case binOp =>
    split at hc
    · cases hc; exact ⟨_, rfl, pure_ob fun v => pure_ob fun v => pure_rO⟩
    · cases hc
  case unOp => obtain ⟨f, _, rfl⟩ := hc; exact ⟨_, rfl, pure_ob fun v => pure_rO⟩
  case convert =>
    split at hc
    · cases hc; exact ⟨_, rfl, pure_ob fun v => pure_rO⟩
    · cases hc
  case makeInterface =>
    split at hc
    · cases hc
    · cases hc; exact ⟨_, rfl, pure_ob fun v => pure_some⟩
    · cases hc
  case makeFunc =>
    split at hc
    · cases hc; exact ⟨_, rfl, pure_ob fun v => pure_ob fun v => pure_some⟩
    · cases hc
  case slice t x lo hi mx =>
    cases mx with
    | some m => cases hc
    | none =>
      simp only [cSlice] at hc
      split at hc
      · split at hc
        · simp only [Option.map_eq_some_iff] at hc
          obtain ⟨sz, _, rfl⟩ := hc
          exact ⟨_, rfl, pure_ob fun v => pure_ob (g := fun _ _ => lenA v) fun len => pure_ob fun l => pure_ob fun u => pure_rO⟩
        · rename_i hu
          unfold slcT at hp
          rw [hu] at hp; cases hp
        · cases hc
      · cases hc
  case fieldAddr =>
    unfold cFieldAddr at hc
    repeat' split at hc
    all_goals first
      | (cases hc; done)
      | (cases hc; exact ⟨_, rfl, pure_ob fun v => pure_rO⟩)
  case field =>
    unfold cField at hc
    repeat' split at hc
    all_goals first
      | (cases hc; done)
      | (cases hc; exact ⟨_, rfl, pure_ob fun v => pure_rO⟩)
  case indexAddr =>
    unfold cIndexAddr at hc
    repeat' split at hc
    all_goals first
      | (cases hc; done)
      | (simp only [Option.map_eq_some_iff] at hc
         obtain ⟨sz, _, rfl⟩ := hc
         exact ⟨_, rfl, pure_ob fun v => pure_ob fun i => pure_ob (g := fun _ _ => natOf i) fun i => pure_rO⟩)
  case index =>
    unfold cIndex at hc
    repeat' split at hc
    all_goals first
      | (cases hc; done)
      | (cases hc; exact ⟨_, rfl, pure_ob fun v => pure_ob fun i => pure_ob (g := fun _ _ => natOf i) fun i => pure_rO⟩)
  case typeAssert =>
    unfold cTypeAssert at hc
    repeat' split at hc
    all_goals first
      | (cases hc; done)
      | (cases hc; exact ⟨_, rfl, pure_ob fun v => pure_rO⟩)
  case extract => obtain ⟨f, _, rfl⟩ := hc; exact ⟨_, rfl, pure_ob fun v => pure_rO⟩
  case call c =>
    obtain ⟨cal, args, ts⟩ := c
    cases cal
    case value => exact absurd hp (by simp)
    case invoke => exact absurd hp (by simp)
    rename_i b
    simp only at hc
    cases b
    all_goals first
      | (exfalso; revert hp; simp; done)
      | skip
    case len =>
      simp only at hp
      split at hp
      · rename_i t hts
        split at hc
        · simp only [hts] at hc
          unfold cBuiltin at hc
          split at hc
          all_goals first
            | (cases hc; done)
            | skip
          all_goals rename_i h1 h2 h3
          all_goals first
            | (cases h1; done)
            | (cases h2; done)
            | skip
          cases h2
          unfold cLen at hc
          split at hc
          · cases hc; exact ⟨_, rfl, pure_ob fun v => pure_rO⟩
          · rename_i hu; unfold slcT at hp; rw [hu] at hp; cases hp
          · cases hc
        · cases hc
      · cases hp
    all_goals
      split at hc
      · unfold cBuiltin at hc
        split at hc
        all_goals first
          | (cases hc; exact ⟨_, rfl, pure_ob fun v => pure_ob fun l => pure_rO⟩)
          | (cases hc; done)
          | (rename_i h1 _ _; cases h1; done)
          | (rename_i h1 _; cases h1; done)
          | (rename_i h1; cases h1; done)
      · cases hc

end Hx
