/- All code. -/
import Derived.Test.YtbkihikjgoedbaaGreatHxLeave
namespace Hx
open Go

section
variable {G : Gx} {V : Vn} {m : Option Nat} {F : Fence} {cf : CallFn} {L : Nat}

/-- the bodies of this code's ranges over functions, from n on -/
def BdOk (G : Gx) (V : Vn) (c : Code) (n : Nat) : Prop := ∀ i r, bodyAt c i = some r → G.BD (n + i) = some { vsl := V.vsl, ps := r.ps.toList, assign := r.assign, body := r.body, nt := V.nt }

/-- regions that draw their order -/
def PreOk (G : Gx) (V : Vn) (cf : CallFn) (L : Nat) : Prop := ∀ (m : Option Nat) (F : Fence) (id : Nat) (ops : Array Oper) (x : Cmd), plainF F → compPre G.P V ops = some x → CmdOk G V m F cf L (.region id ops true) x

theorem bodyAt_lt : ∀ (c : Code) (i : Nat) (r : RB), bodyAt c i = some r → i < nb c
  | .seq a b, i, r, h | .cond _ a b, i, r, h => by
    simp only [bodyAt] at h
    simp only [nb]
    split at h
    · omega
    · have := bodyAt_lt b _ _ h; omega
  | .block _ b, i, r, h | .loop b, i, r, h | .scope b, i, r, h => by
    simp only [bodyAt] at h
    simp only [nb]
    exact bodyAt_lt b _ _ h
  | .rangeFunc _ ps a b, i, r, h => by
    simp only [bodyAt] at h
    simp only [nb]
    split at h
    · omega
    · split at h
      · omega
      · have := bodyAt_lt b _ _ h; omega
  | .skip, i, r, h | .region .., i, r, h | .exit _, i, r, h | .label _, i, r, h | .goto _, i, r, h | .ret, i, r, h | .refuse _, i, r, h => by simp [bodyAt] at h

theorem BdOk.left {a b : Code} {n : Nat} (h : BdOk G V (.seq a b) n) : BdOk G V a n ∧ BdOk G V b (n + nb a) := by
  refine ⟨fun i r hi => h i r ?_, fun i r hi => ?_⟩
  · simp only [bodyAt]; rw [if_pos (bodyAt_lt _ _ _ hi)]; exact hi
  · have := h (nb a + i) r (by simp only [bodyAt]; rw [if_neg (by omega), Nat.add_sub_cancel_left]; exact hi)
    rwa [← Nat.add_assoc] at this

theorem scope_cmd {c : Code} {x : Cmd} (hF : F = Fence.wide) (hx : CmdOk G V m F cf L c x) : CmdOk G V m F cf L (.scope c) (cScope x) := by
  subst hF
  intro n ex s' K a s Q he hs hcx hp
  have he' : ob (x cf L s) noGoto = some (ex, s') := he
  rw [ob_some] at he'
  obtain ⟨⟨ex1, s1⟩, h1, h2⟩ := he'
  rw [wpIn_wide]
  refine wp_scope_straight ?_
  rw [← wpIn_wide (n := n)]
  refine hx n ex1 s1 K a s _ h1 hs hcx fun e a' K' st hs' hxe => ?_
  cases ex1 with
  | goto i => cases h2
  | _ =>
    simp only [noGoto, Option.some.injEq, Prod.mk.injEq] at h2
    obtain ⟨rfl, rfl⟩ := h2
    have := hp e a' K' st hs' hxe
    cases e <;> simp only [ExR] at hxe <;> exact this

theorem comp_ok (hpre : PreOk G V cf L) (hcf : CallOk G V.gl cf) (hv : V.vsl.Nodup) (hF : plainF F) {rd : Bool} (hrd : (F.round = none ∧ rd = false) ∨ rd = true) : ∀ (c : Code) (n : Nat) (x : Cmd), comp G.P V rd c n = some x → BdOk G V c n → (nb c = 0 ∨ m.isSome = true) → CmdOk G V m F cf L c x
  | .skip, n, x, hc, _, _ => by cases hc; exact nop_cmd
  | .label _, n, x, hc, _, _ => by cases hc; exact label_cmd
  | .region id ops draw, n, x, hc, _, _ => by
    simp only [comp] at hc
    cases draw with
    | true => exact hpre m F id ops x hF hc
    | false =>
      simp only [Bool.false_eq_true, if_false, Option.map_eq_some_iff] at hc
      obtain ⟨its, hi, rfl⟩ := hc
      exact ops_cmd hF (hrd.imp (fun h => h.1) fun h => h) hcf hv hi
  | .seq a b, n, x, hc, hb, hm => by
    simp only [comp] at hc
    split at hc
    · rename_i y z hy hz
      cases hc
      simp only [nb] at hm
      exact seq_cmd (comp_ok hpre hcf hv hF hrd a n y hy hb.left.1 (hm.imp (fun h => by omega) id)) (comp_ok hpre hcf hv hF hrd b _ z hz hb.left.2 (hm.imp (fun h => by omega) id))
    · cases hc
  | .cond o a b, n, x, hc, hb, hm => by
    simp only [comp] at hc
    split at hc
    · rename_i f y z hf hy hz
      cases hc
      simp only [nb] at hm
      have hb' : BdOk G V (.seq a b) n := fun i r h => hb i r h
      exact cnd_cmd hf (comp_ok hpre hcf hv hF hrd a n y hy hb'.left.1 (hm.imp (fun h => by omega) id)) (comp_ok hpre hcf hv hF hrd b _ z hz hb'.left.2 (hm.imp (fun h => by omega) id))
    · cases hc
  | .block id b, n, x, hc, hb, hm => by
    simp only [comp, Option.map_eq_some_iff] at hc
    obtain ⟨y, hy, rfl⟩ := hc
    exact blk_cmd (comp_ok hpre hcf hv hF hrd b n y hy (fun i r h => hb i r h) hm)
  | .loop b, n, x, hc, hb, hm => by
    simp only [comp, Option.map_eq_some_iff] at hc
    obtain ⟨y, hy, rfl⟩ := hc
    exact loop_cmd hF (comp_ok hpre hcf hv hF hrd b n y hy (fun i r h => hb i r h) hm)
  | .exit i, n, x, hc, _, _ => by cases hc; exact exit_cmd
  | .ret, n, x, hc, _, _ => by cases hc; exact ret_cmd
  | .scope b, n, x, hc, hb, hm => by
    simp only [comp] at hc
    split at hc
    · cases hc
    · rename_i hcond
      simp only [Option.map_eq_some_iff] at hc
      obtain ⟨y, hy, rfl⟩ := hc
      have hrd' : rd = false := by simp at hcond; exact hcond.2
      have hFw : F = Fence.wide := by
        rcases hrd with h | h
        · have h1 : F.plain = Fence.wide := hF
          have h2 : F.plain = F := by cases F; simp [Fence.plain] at h ⊢; exact h.1.symm
          rw [← h2]; exact h1
        · rw [hrd'] at h; cases h
      exact scope_cmd hFw (comp_ok hpre hcf hv hF hrd b n y hy (fun i r h => hb i r h) hm)
  | .rangeFunc f ps a b, n, x, hc, hb, hm => by
    simp only [comp] at hc
    split at hc
    · rename_i y l z1 z2 hy hl hz1 hz2
      cases hc
      have hms : m.isSome = true := hm.resolve_left (by simp [nb])
      exact rng_cmd hms hF hcf hy hl (by have := hb 0 ⟨ps, a, b⟩ (by simp [bodyAt]); simpa using this)
    · cases hc
  | .goto _, n, x, hc, _, _ => by cases hc
  | .refuse _, n, x, hc, _, _ => by cases hc


theorem compR_ok (hpre : PreOk G V cf L) (hcf : CallOk G V.gl cf) (hv : V.vsl.Nodup) : ∀ (c : Code) (n : Nat) (x : CmdR), compR G.P V c n = some x → nb c = 0 → CmdROk G V m cf L c x ∧ CmdRd x := by
  have plain : ∀ (c : Code) (n : Nat) (x : CmdR), (comp G.P V false c n).map rCmd = some x → nb c = 0 → CmdROk G V m cf L c x ∧ CmdRd x := by
    intro c n x h hb
    rw [Option.map_eq_some_iff] at h
    obtain ⟨y, hy, rfl⟩ := h
    refine ⟨rCmd_cmd (comp_ok (F := Fence.wide) hpre hcf hv rfl (.inl ⟨rfl, rfl⟩) c n y hy (fun i r hi => ?_) (.inl hb)), rCmd_d y⟩
    have := bodyAt_lt _ _ _ hi
    omega
  intro c
  induction c with
  | region id ops draw =>
    intro n x h hb
    simp only [compR] at h
    split at h
    · split at h
      · cases h
      · rename_i hd
        rw [Option.map_eq_some_iff] at h
        obtain ⟨its, hi, rfl⟩ := h
        have : draw = false := by simpa using hd
        subst this
        exact ⟨opsR_cmd hv hi, opsR_d its⟩
    · exact plain _ n x h hb
  | seq a b iha ihb =>
    intro n x h hb
    simp only [compR] at h
    simp only [nb] at hb
    split at h
    · split at h
      · rename_i y z hy hz
        cases h
        obtain ⟨h1, h2⟩ := iha n y hy (by omega)
        obtain ⟨h3, h4⟩ := ihb _ z hz (by omega)
        exact ⟨seqR_cmd h4 h1 h3, seqR_dd h2 h4⟩
      · cases h
    · exact plain _ n x h (by simp only [nb]; omega)
  | cond o a b iha ihb =>
    intro n x h hb
    simp only [compR] at h
    simp only [nb] at hb
    split at h
    · split at h
      · rename_i f y z hf hy hz
        cases h
        obtain ⟨h1, h2⟩ := iha n y hy (by omega)
        obtain ⟨h3, h4⟩ := ihb _ z hz (by omega)
        exact ⟨cndR_cmd hf h1 h3, cndR_d h2 h4⟩
      · cases h
    · exact plain _ n x h (by simp only [nb]; omega)
  | _ =>
    intro n x h hb
    simp only [compR] at h
    split at h
    · cases h
    · exact plain _ n x h hb

end
end Hx
