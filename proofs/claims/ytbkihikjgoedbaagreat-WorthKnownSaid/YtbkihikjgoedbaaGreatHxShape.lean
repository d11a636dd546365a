/- What compiled operations do to the abstract heap. -/
import Derived.Test.YtbkihikjgoedbaaGreatHxEop
namespace Hx
open Go

def Grows (h h' : Heap) : Prop := h' = h ∨ ∃ blk, h' = h.push blk

theorem rO_grows {h h' : Heap} {x : Option AV} {v : AV} {k : Option Nat} (hf : rO h x = some (v, h', k)) : Grows h h' ∧ k = none := by
  obtain ⟨_, h2, h3⟩ := rO_some.1 hf
  exact ⟨.inl h2, h3⟩

theorem appA_grows {h h' : Heap} {e sz by_ : Nat} {s a v : AV} {k : Option Nat} (hc : appA h e sz by_ s a = some (v, h', k)) : Grows h h' ∧ ∀ b, k = some b → (h.get b).isSome = true := by
  simp only [appA, ob_some] at hc
  obtain ⟨n, _, new, _, hc⟩ := hc
  cases s <;> simp only [reduceCtorEq] at hc
  · rw [bif_eq] at hc
    split at hc
    · cases hc; exact ⟨.inl rfl, fun b h => by cases h⟩
    · simp only [bif_none, fN_eq, Option.some.injEq, Prod.mk.injEq] at hc
      obtain ⟨_, rfl, rfl, rfl⟩ := hc
      exact ⟨.inr ⟨_, rfl⟩, fun b h => by cases h⟩
  · simp only [ob_some, bif_none, fN_eq, Option.some.injEq, Prod.mk.injEq] at hc
    obtain ⟨r, hg, _, rfl, rfl, rfl⟩ := hc
    exact ⟨.inr ⟨_, rfl⟩, fun b h => by cases h; rw [getRow_some.1 hg]; rfl⟩

def GrowsF (f : AF) : Prop := ∀ stk vs h v h' k, f stk vs h = some (v, h', k) → Grows h h' ∧ ∀ b, k = some b → (h.get b).isSome = true

theorem growsF_of {f : AF} (h : ∀ stk vs h v h' k, f stk vs h = some (v, h', k) → Grows h h' ∧ k = none) : GrowsF f := fun stk vs h' v h'' k hf => by
  obtain ⟨h1, h2⟩ := h stk vs h' v h'' k hf
  exact ⟨h1, fun b hb => by rw [h2] at hb; cases hb⟩

theorem aop_grows {P : Program} {co : CoF} {o : Op} {f : AF} (hc : compOp P co o = some (.a f)) : GrowsF f := by
  have one : ∀ {x : OF} {g : AV → Option AV}, GrowsF fun stk vs h => ob (x stk vs) fun v => rO h (g v) := growsF_of fun stk vs h v h' k hf => by
    rw [ob_some] at hf; obtain ⟨_, _, hf⟩ := hf; exact rO_grows hf
  unfold compOp at hc
  split at hc
  · simp only [Option.map_eq_some_iff, OpK.a.injEq] at hc
    obtain ⟨x, hx, rfl⟩ := hc
    exact growsF_of fun stk vs h v h' k hf => rO_grows hf
  · simp only [Option.map_eq_some_iff, OpK.a.injEq] at hc
    obtain ⟨x, hx, rfl⟩ := hc
    exact growsF_of fun stk vs h v h' k hf => rO_grows hf
  · split at hc
    · cases hc
      refine growsF_of fun stk vs h v h' k hf => ?_
      simp only [aPick, ob_some] at hf
      obtain ⟨t, _, hf⟩ := hf
      split at hf
      · exact rO_grows hf
      · cases hf
    · cases hc
  · simp only [Option.map_eq_some_iff, OpK.a.injEq] at hc
    obtain ⟨x, hx, rfl⟩ := hc
    exact growsF_of fun stk vs h v h' k hf => by cases hf; exact ⟨.inr ⟨_, rfl⟩, rfl⟩
  · simp only [Option.map_eq_some_iff, OpK.a.injEq] at hc
    obtain ⟨x, hx, rfl⟩ := hc
    refine growsF_of fun stk vs h v h' k hf => ?_
    simp only [aBox, ob_some] at hf
    obtain ⟨_, _, hf⟩ := hf
    cases hf; exact ⟨.inr ⟨_, rfl⟩, rfl⟩
  · unfold cBuild at hc
    repeat' split at hc
    all_goals first
      | (cases hc; done)
      | (simp only [Option.map_eq_some_iff, OpK.a.injEq] at hc
         obtain ⟨x, hx, rfl⟩ := hc
         refine growsF_of fun stk vs h v h' k hf => ?_
         simp only [aAgg, ob_some] at hf
         obtain ⟨_, _, hf⟩ := hf
         cases hf; exact ⟨.inl rfl, rfl⟩)
  · unfold cBuildSlice at hc
    repeat' split at hc
    all_goals first
      | (cases hc; done)
      | (cases hc
         refine growsF_of fun stk vs h v h' k hf => ?_
         simp only [aBsl, ob_some] at hf
         obtain ⟨_, _, hf⟩ := hf
         cases hf; exact ⟨.inr ⟨_, rfl⟩, rfl⟩)
  · split at hc
    · cases hc
      refine growsF_of fun stk vs h v h' k hf => ?_
      simp only [aLoad, ob_some] at hf
      obtain ⟨_, _, _, _, hf⟩ := hf
      exact rO_grows hf
    · cases hc
  · split at hc <;> cases hc
  · simp only [Option.map_eq_some_iff, OpK.a.injEq] at hc
    obtain ⟨x, hx, rfl⟩ := hc
    exact one
  · split at hc
    · cases hc
      refine growsF_of fun stk vs h v h' k hf => ?_
      simp only [aBin, ob_some] at hf
      obtain ⟨_, _, _, _, hf⟩ := hf
      exact rO_grows hf
    · cases hc
  · simp only [Option.map_eq_some_iff, OpK.a.injEq] at hc
    obtain ⟨x, hx, rfl⟩ := hc
    exact one
  · split at hc
    · cases hc; exact one
    · cases hc
  · split at hc
    · cases hc
    · cases hc
      refine growsF_of fun stk vs h v h' k hf => ?_
      simp only [aIfc, ob_some] at hf
      obtain ⟨_, _, hf⟩ := hf
      cases hf; exact ⟨.inl rfl, rfl⟩
    · cases hc
  · split at hc
    · cases hc
      refine growsF_of fun stk vs h v h' k hf => ?_
      simp only [aMkf, ob_some] at hf
      obtain ⟨_, _, _, _, hf⟩ := hf
      cases hf; exact ⟨.inl rfl, rfl⟩
    · cases hc
  · cases hc
    exact growsF_of fun stk vs h v h' k hf => by cases hf; exact ⟨.inr ⟨_, rfl⟩, rfl⟩
  · unfold cMakeSlice at hc
    repeat' split at hc
    all_goals first
      | (cases hc; done)
      | (cases hc
         refine growsF_of fun stk vs h v h' k hf => ?_
         simp only [aMks, ob_some, mksA, bif_none, fN_eq] at hf
         obtain ⟨_, _, _, _, _, _, _, _, _, hf⟩ := hf
         cases hf; exact ⟨.inr ⟨_, rfl⟩, rfl⟩)
  · unfold cSlice at hc
    repeat' split at hc
    all_goals first
      | (cases hc; done)
      | (simp only [Option.map_eq_some_iff, OpK.a.injEq] at hc
         obtain ⟨x, hx, rfl⟩ := hc
         refine growsF_of fun stk vs h v h' k hf => ?_
         first
           | (simp only [aSlc, ob_some] at hf
              obtain ⟨_, _, _, _, _, _, _, _, hf⟩ := hf
              exact rO_grows hf)
           | (simp only [aSla, ob_some] at hf
              obtain ⟨_, _, _, _, _, _, hf⟩ := hf
              exact rO_grows hf))
  · unfold cSlice3 at hc
    repeat' split at hc
    all_goals first
      | (cases hc; done)
      | (simp only [Option.map_eq_some_iff, OpK.a.injEq] at hc
         obtain ⟨x, hx, rfl⟩ := hc
         refine growsF_of fun stk vs h v h' k hf => ?_
         simp only [aSlc3, ob_some, bif_none] at hf
         obtain ⟨_, _, _, _, _, _, _, _, _, _, _, _, _, _, _, hf⟩ := hf
         exact rO_grows hf)
  · unfold cFieldAddr at hc
    repeat' split at hc
    all_goals first
      | (cases hc; done)
      | (cases hc; exact one)
  · unfold cField at hc
    repeat' split at hc
    all_goals first
      | (cases hc; done)
      | (cases hc; exact one)
  · unfold cIndexAddr at hc
    repeat' split at hc
    all_goals first
      | (cases hc; done)
      | (simp only [Option.map_eq_some_iff, OpK.a.injEq] at hc
         obtain ⟨x, hx, rfl⟩ := hc
         refine growsF_of fun stk vs h v h' k hf => ?_
         first
           | simp only [aIxs, ob_some] at hf
           | simp only [aIxa, ob_some] at hf
         obtain ⟨_, _, _, _, _, _, hf⟩ := hf
         exact rO_grows hf)
  · unfold cIndex at hc
    repeat' split at hc
    all_goals first
      | (cases hc; done)
      | (cases hc
         refine growsF_of fun stk vs h v h' k hf => ?_
         first
           | simp only [aIx, ob_some] at hf
           | simp only [aIxc, ob_some] at hf
         obtain ⟨_, _, _, _, _, _, hf⟩ := hf
         exact rO_grows hf)
  · unfold cLookup at hc
    split at hc
    · simp only [Option.map_eq_some_iff, OpK.a.injEq] at hc
      obtain ⟨x, hx, rfl⟩ := hc
      refine growsF_of fun stk vs h v h' k hf => ?_
      simp only [aLook, ob_some] at hf
      obtain ⟨_, _, _, _, hf⟩ := hf
      exact rO_grows hf
    · cases hc
  · unfold cTypeAssert at hc
    split at hc
    · cases hc
    · cases hc; exact one
    · cases hc
  · simp only [Option.map_eq_some_iff, OpK.a.injEq] at hc
    obtain ⟨x, hx, rfl⟩ := hc
    exact one
  · unfold cMapUpdate at hc; split at hc <;> cases hc
  · unfold cMapUpdate at hc; split at hc <;> cases hc
  · unfold cMapEntry at hc
    split at hc
    · simp at hc
    · cases hc
  · split at hc <;> cases hc
  · simp at hc
  · split at hc
    · split at hc <;> cases hc
    · cases hc
  · split at hc
    · split at hc <;> cases hc
    · split at hc
      · unfold cBuiltin at hc
        split at hc
        · unfold cAppend at hc
          repeat' split at hc
          all_goals first
            | (cases hc; done)
            | (cases hc
               intro stk vs h v h' k hf
               simp only [aApp, ob_some] at hf
               obtain ⟨_, _, _, _, hf⟩ := hf
               exact appA_grows hf)
        · unfold cLen at hc
          repeat' split at hc
          · cases hc; exact one
          · cases hc
            refine growsF_of fun stk vs h v h' k hf => ?_
            simp only [aLenm, ob_some] at hf
            obtain ⟨_, _, hf⟩ := hf
            exact rO_grows hf
          · cases hc
        · cases hc
          refine growsF_of fun stk vs h v h' k hf => ?_
          simp only [aMm, ob_some] at hf
          obtain ⟨_, _, _, _, hf⟩ := hf
          exact rO_grows hf
        · cases hc
          refine growsF_of fun stk vs h v h' k hf => ?_
          simp only [aMm, ob_some] at hf
          obtain ⟨_, _, _, _, hf⟩ := hf
          exact rO_grows hf
        · split at hc
          · simp at hc
          · cases hc
        · repeat' split at hc
          all_goals cases hc
        · cases hc
        · cases hc
        · cases hc
      · cases hc
    · cases hc
  · cases hc

end Hx
