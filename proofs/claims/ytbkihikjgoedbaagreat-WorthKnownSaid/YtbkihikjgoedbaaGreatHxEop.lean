/- Compiled operations that turn memory. -/
import Derived.Test.YtbkihikjgoedbaaGreatHxAop
namespace Hx
open Go

def EN (G : Gx) (K : Kx) (h : Heap) (s : Sem Next) (v : AV) (h' : Heap) : Prop :=
  ∃ nx x K', s.run G.P K.w = .ok nx K'.w ∧ (nx = .value x ∨ (nx = .skip ∧ x = undef)) ∧ VR G.P K' v x ∧ Tn (fun i => h'.low ≤ i) h K K' ∧ HR G K' h' [] ∧ ∀ i, K'.D i → K.D i

section
variable {G : Gx} {K : Kx}

theorem VR.undef {P : Program} {K : Kx} : VR P K undefA undef := VR.tup [] [] .nil

theorem UP.en {h h' : Heap} {s : Sem Unit} {t : Sem Next} (hu : UP G K h s h') (ht : ∀ w, t.run G.P w = (s.run G.P w).andThen fun _ w => .ok .skip w) : EN G K h t undefA h' := by
  obtain ⟨K', h1, h2, h3⟩ := hu
  exact ⟨.skip, undef, K', by rw [ht, h1]; rfl, .inr ⟨rfl, rfl⟩, VR.undef, h2, h3⟩
theorem WP.en {h h' : Heap} {s : Sem Value} {t : Sem Next} {v : AV} (hu : WP G K h s v h') (ht : ∀ w, t.run G.P w = (s.run G.P w).andThen fun x w => .ok (.value x) w) : EN G K h t v h' := by
  obtain ⟨x, K', h1, h2, h3, h4⟩ := hu
  exact ⟨.value x, x, K', by rw [ht, h1]; rfl, .inl rfl, h2, h3, h4⟩

theorem run_ubind {P : Program} (s : Sem Unit) (w : World) : (do s; pure Next.skip : Sem Next).run P w = (s.run P w).andThen fun _ w => .ok .skip w := by
  simp [Sem.run_bind]

def Puts (h h' : Heap) : Prop := h' = h ∨ ∃ b x, (h.get b).isSome = true ∧ h' = h.put b x

theorem storeN_puts {h h' : Heap} {a : AV} {l : List AV} (hs : storeN h a l = some h') : Puts h h' := by
  cases a <;> simp only [storeN, reduceCtorEq, bif_none, ob_some, Option.some.injEq] at hs
  obtain ⟨_, r, hg, cs, _, rfl⟩ := hs
  exact .inr ⟨_, _, by rw [getRow_some.1 hg]; rfl, rfl⟩

theorem eop_ok {h h' : Heap} {co : CoF} {stk vs : List AV} {ρ : Operand → Value} (hco : OpsOk G.P K co stk vs ρ) {o : Oper} {f : EF} {v : AV} (hc : compOp G.P co o.op = some (.e f)) (hf : f stk vs h = some (v, h')) (hr : HR G K h []) :
    EN G K h (execOp ρ o) v h' ∧ Puts h h' := by
  obtain ⟨dst, op, type, pos, after, guard⟩ := o
  simp only at hc
  unfold compOp at hc
  split at hc
  all_goals first
    | (simp at hc; done)
    | (split at hc <;> simp at hc; done)
    | skip
  · unfold cBuild at hc; repeat' split at hc
    all_goals simp at hc
  · unfold cBuildSlice at hc; repeat' split at hc
    all_goals simp at hc
  · -- store
    split at hc
    · rename_i n a x hn ha hx
      cases hc
      simp only [eStore, ob_some, bif_none, Nat.beq_eq, Option.some.injEq, Prod.mk.injEq] at hf
      obtain ⟨av, hav, xv, hxv, hl, h1, hst, rfl, rfl⟩ := hf
      exact ⟨(storeAt_ok hr hn (hco _ _ _ ha hav) (hco _ _ _ hx hxv) hl hst).en fun w => run_ubind _ w, storeN_puts hst⟩
    · cases hc
  · unfold cMakeSlice at hc; repeat' split at hc
    all_goals simp at hc
  · unfold cSlice at hc; repeat' split at hc
    all_goals simp at hc
  · unfold cSlice3 at hc; repeat' split at hc
    all_goals simp at hc
  · unfold cFieldAddr at hc; repeat' split at hc
    all_goals simp at hc
  · unfold cField at hc; repeat' split at hc
    all_goals simp at hc
  · unfold cIndexAddr at hc; repeat' split at hc
    all_goals simp at hc
  · unfold cIndex at hc; repeat' split at hc
    all_goals simp at hc
  · unfold cLookup at hc; repeat' split at hc
    all_goals simp at hc
  · unfold cTypeAssert at hc; repeat' split at hc
    all_goals simp at hc
  · unfold cMapUpdate at hc
    split at hc
    · rename_i kt e m k x hu hm hk hx
      cases hc
      simp only [eMup, ob_some] at hf
      obtain ⟨mv, hmv, kv, hkv, xv, hxv, hf⟩ := hf
      obtain ⟨h1, rfl⟩ := mup_ok hr hu (hco _ _ _ hm hmv) (hco _ _ _ hk hkv) (hco _ _ _ hx hxv) hf
      refine ⟨h1.en fun w => run_ubind _ w, ?_⟩
      cases mv <;> simp only [mupE, reduceCtorEq, ob_some] at hf
      obtain ⟨r, hg, q, _, hf⟩ := hf
      split at hf <;> cases hf <;> exact .inr ⟨_, _, by rw [getMap_some.1 hg]; rfl, rfl⟩
    · cases hc
  · unfold cMapUpdate at hc
    split at hc
    · rename_i kt e m k x hu hm hk hx
      cases hc
      simp only [eMup, ob_some] at hf
      obtain ⟨mv, hmv, kv, hkv, xv, hxv, hf⟩ := hf
      obtain ⟨h1, rfl⟩ := mup_ok hr hu (hco _ _ _ hm hmv) (hco _ _ _ hk hkv) (hco _ _ _ hx hxv) hf
      refine ⟨h1.en fun w => run_ubind _ w, ?_⟩
      cases mv <;> simp only [mupE, reduceCtorEq, ob_some] at hf
      obtain ⟨r, hg, q, _, hf⟩ := hf
      split at hf <;> cases hf <;> exact .inr ⟨_, _, by rw [getMap_some.1 hg]; rfl, rfl⟩
    · cases hc
  · unfold cMapEntry at hc
    split at hc
    · rename_i kt e m k hu hm hk
      simp only [Option.map_eq_some_iff, OpK.e.injEq] at hc
      obtain ⟨z, hz, rfl⟩ := hc
      simp only [eMen, ob_some] at hf
      obtain ⟨mv, hmv, kv, hkv, hf⟩ := hf
      refine ⟨(men_ok hr hu hz (hco _ _ _ hm hmv) (hco _ _ _ hk hkv) hf).en fun w => run_vbind _ w, ?_⟩
      cases mv <;> simp only [menE, reduceCtorEq, ob_some, fN_eq] at hf
      obtain ⟨r, hg, q, _, hf⟩ := hf
      split at hf <;> cases hf
      · exact .inl rfl
      · exact .inr ⟨_, _, by rw [getMap_some.1 hg]; rfl, rfl⟩
    · cases hc
  · -- entryStore
    split at hc
    · rename_i m s x hm hs hx
      cases hc
      simp only [eMes, ob_some] at hf
      obtain ⟨mv, hmv, sv, hsv, xv, hxv, hf⟩ := hf
      obtain ⟨h1, rfl⟩ := mes_ok hr (hco _ _ _ hm hmv) (hco _ _ _ hs hsv) (hco _ _ _ hx hxv) hf
      refine ⟨h1.en fun w => run_ubind _ w, ?_⟩
      cases mv <;> simp only [mesE, reduceCtorEq, ob_some, bif_none, Option.some.injEq, Prod.mk.injEq] at hf
      obtain ⟨st, _, r, hg, _, _, rfl⟩ := hf
      exact .inr ⟨_, _, by rw [getMap_some.1 hg]; rfl, rfl⟩
    · cases hc
  · split at hc
    · split at hc <;> simp at hc
    · cases hc
  · -- call
    rename_i c
    split at hc
    · split at hc <;> simp at hc
    · rename_i b hcal
      split at hc
      · rename_i as has
        obtain ⟨consts, hrun⟩ := run_call_builtin (P := G.P) ρ c b hcal dst type pos after guard
        have hargs : ∀ {l : List Operand}, c.args.toList = l → c.args.map ρ = (l.map ρ).toArray := fun h => by
          apply Array.ext'
          simp [h]
        have htys : ∀ {l : List TypeId}, c.argTypes.toList = l → c.argTypes = l.toArray := fun h => by
          apply Array.ext'
          simp [h]
        unfold cBuiltin at hc
        split at hc
        · unfold cAppend at hc; repeat' split at hc
          all_goals simp at hc
        · unfold cLen at hc; repeat' split at hc
          all_goals simp at hc
        · simp at hc
        · simp at hc
        · -- copy
          rename_i d s t u hty
          obtain ⟨a1, r1, e1, hs1, hr1⟩ := coL_cons has
          obtain ⟨a2, r2, e2, hs2, hr2⟩ := coL_cons hr1
          have e3 := coL_nil hr2
          subst e3 e2
          split at hc
          · rename_i e hu
            simp only [Option.map_eq_some_iff, OpK.e.injEq] at hc
            obtain ⟨sz, hsz, rfl⟩ := hc
            simp only [eCpy, ob_some] at hf
            obtain ⟨dv, hdv, sv, hsv, hf⟩ := hf
            refine ⟨(copy_ok (u := u) (ty := type) hr hu hsz (hco _ _ _ hs1 hdv) (hco _ _ _ hs2 hsv) hf).en fun w => ?_, ?_⟩
            · rw [hrun, hargs e1, htys hty]
              exact run_vbind _ w
            · simp only [cpyE, ob_some, fN_eq] at hf
              obtain ⟨m, _, k, _, cs, _, hf⟩ := hf
              cases dv <;> simp only [reduceCtorEq, ob_some, Option.some.injEq, Prod.mk.injEq] at hf
              · exact .inl hf.2.symm
              · exact .inl hf.2.symm
              · obtain ⟨h1, hst, _, rfl⟩ := hf; exact storeN_puts hst
          · cases hc
        · -- clear
          rename_i s t hty
          obtain ⟨a1, r1, e1, hs1, hr1⟩ := coL_cons has
          have e3 := coL_nil hr1
          subst e3
          split at hc
          · rename_i e hu
            split at hc
            · rename_i sz z hsz hz
              split at hc
              · cases hc
                simp only [eClr, ob_some] at hf
                obtain ⟨sv, hsv, hf⟩ := hf
                refine ⟨(clear_ok (ty := type) hr hu hsz hz (hco _ _ _ hs1 hsv) hf).en fun w => ?_, ?_⟩
                · rw [hrun, hargs e1, htys hty]
                  exact run_vbind _ w
                · simp only [clrE, ob_some] at hf
                  obtain ⟨n, _, hf⟩ := hf
                  split at hf
                  · cases hf; exact .inl rfl
                  · split at hf
                    · simp only [ob_some, Option.some.injEq, Prod.mk.injEq] at hf
                      obtain ⟨h1, hst, _, rfl⟩ := hf; exact storeN_puts hst
                    · cases hf
              · cases hc
            · cases hc
          · cases hc
        · simp at hc
        · simp at hc
        · cases hc
      · cases hc
    · cases hc

end
end Hx
