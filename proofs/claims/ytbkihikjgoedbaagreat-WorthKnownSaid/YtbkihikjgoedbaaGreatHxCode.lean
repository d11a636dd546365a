/- Code: the machine's commands are the model's walk. -/
import Derived.Test.YtbkihikjgoedbaaGreatHxStep
import Derived.Scope
namespace Hx
open Go

/-- how a piece of code is left -/
def ExR (P : Program) (K : Kx) : Ex → Exit → Prop
  | .normal, .normal => True
  | .exit i, .exit j => i = j
  | .goto i, .goto j => i = j
  | .ret, .ret => True
  | .panic v, .panic ch => ∃ x, ch = [{ v := x, recovered := false }] ∧ VR P K v x
  | _, _ => False

theorem ExR.mono {P : Program} {K K' : Kx} (hk : Kle K K') {x : Ex} {e : Exit} (h : ExR P K x e) : ExR P K' x e := by
  cases x <;> cases e <;> first
    | exact h
    | (obtain ⟨y, h1, h2⟩ := h; exact ⟨y, h1, h2.mono hk⟩)

/-- what is asked where a piece of code is left -/
def Post (G : Gx) (V : Vn) (m : Option Nat) (K : Kx) (h : Heap) (ex : Ex) (s' : St) (Q : Exit → Act → World → Prop) : Prop :=
  ∀ e a' K', Stp K h K' s'.h → SR G V m K' a' s'.vs s'.h s'.ds → ExR G.P K' ex e → Q e a' K'.w

/-- in a round: the loop's record is there; the heap is not smaller than where the function began -/
structure Cx (F : Fence) (m : Option Nat) (K : Kx) : Prop where
  rnd : ∀ l, F.round = some l → ∃ L : Loop, K.w.heap[l]? = some (.loop L)
  big : ∀ m0, m = some m0 → m0 ≤ K.w.heap.size
theorem Cx.mono {F : Fence} {m : Option Nat} {K K' : Kx} (hk : Kle K K') (h : Cx F m K) : Cx F m K' :=
  ⟨fun l hl => let ⟨L, h1⟩ := h.rnd l hl; hk.lps l L h1, fun m0 hm => Nat.le_trans (h.big m0 hm) hk.size⟩

def CmdOk (G : Gx) (V : Vn) (m : Option Nat) (F : Fence) (cf : CallFn) (L : Nat) (c : Code) (cmd : Cmd) : Prop :=
  ∀ n ex s' K a s Q, cmd cf L s = some (ex, s') → SR G V m K a s.vs s.h s.ds → Cx F m K → Post G V m K s.h ex s' Q → c.wpIn F n G.P Q a K.w

section
variable {G : Gx} {V : Vn} {m : Option Nat} {F : Fence} {cf : CallFn} {L : Nat}

theorem Post.step {K K1 : Kx} {h h1 : Heap} {ks : List Nat} {ex : Ex} {s' : St} {Q : Exit → Act → World → Prop} (hr : HR G K h ks) (st : Stp K h K1 h1) (hp : Post G V m K h ex s' Q) : Post G V m K1 h1 ex s' Q :=
  fun e a' K' st' hs he => hp e a' K' (st.trans hr st') hs he

theorem SR.mono {K K' : Kx} {a : Act} {vs : List AV} {h h' : Heap} {ds : Defs} (hs : SR G V m K a vs h ds) (st : Stp K h K' h') (hr : HR G K' h' []) : SR G V m K' a vs h' ds :=
  ⟨hs.slots.mono st.tn.le, hs.nt, hr, st.wf hs.wf, hs.dfr.mono st.tn.le, hs.gl.mono st.tn.le⟩

theorem seq_ok {rd : Bool} (hF : plainF F) (hrd : F.round = none ∨ rd = true) (hcf : CallOk G V.gl cf) (hv : V.vsl.Nodup) {all : Array Oper} {n : Nat} {ex : Ex} {s' : St} {Q : Exit → Act → World → Prop} :
    ∀ (l : List Oper) (i0 : Nat) (its : List IT) (ds : List (Option Nat)) (stk vs : List AV) (h : Heap) (dfs : Defs) (K : Kx) (a : Act), compIts G.P V rd all l ds = some its → (∀ j o, l[j]? = some o → all[i0 + j]? = some o) →
      evSeq cf its stk vs h dfs = some (ex, s') → SR G V m K a vs h dfs → Stk G.P K a stk ds → Post G V m K h ex s' Q → wpOpsIn F n G.P all Q (List.range' i0 l.length) a K.w
  | [], i0, its, ds, stk, vs, h, dfs, K, a, hc, _, he, hs, _, hp => by
    cases hc
    cases he
    exact hp .normal a K (Stp.refl _ _) hs trivial
  | o :: l, i0, its, ds, stk, vs, h, dfs, K, a, hc, hget, he, hs, ht, hp => by
    unfold compIts at hc
    split at hc
    · cases hc
    · rename_i hcond
      rw [Bool.not_eq_true, Bool.or_eq_false_iff, Bool.not_eq_false'] at hcond
      split at hc
      · rename_i k g its' hk hg hl
        cases hc
        have ho : all[i0]? = some o := by simpa using hget 0 o rfl
        have he' : ob (guardOk g stk vs) (fun b => bif_ b
          (ob (evStep cf stk vs h dfs k) fun r => match r with
            | .val v h ds => evSeq cf its' (v :: stk) (putV vs (o.dst.bind (idxN · V.vsl)) v) h ds
            | .pan v h => some (.panic v, ⟨vs, h, dfs⟩))
          (evSeq cf its' (undefA :: stk) (putV vs (o.dst.bind (idxN · V.vsl)) undefA) h dfs)) = some (ex, s') := he
        rw [ob_some] at he'
        obtain ⟨b, hb, he'⟩ := he'
        have hw := guard_ok ht hg hb o rfl
        have hget' : ∀ j o', l[j]? = some o' → all[i0 + 1 + j]? = some o' := fun j o' h => by
          have := hget (j + 1) o' (by simpa using h)
          rwa [show i0 + (j + 1) = i0 + 1 + j by omega] at this
        rw [List.length_cons, List.range'_succ]
        simp only [wpOpsIn, ho]
        cases b with
        | true =>
          rw [if_pos hw]
          have he2 : ob (evStep cf stk vs h dfs k) (fun r => match r with
            | .val v h ds => evSeq cf its' (v :: stk) (putV vs (o.dst.bind (idxN · V.vsl)) v) h ds
            | .pan v h => some (.panic v, ⟨vs, h, dfs⟩)) = some (ex, s') := he'
          rw [ob_some] at he2
          obtain ⟨r, hr, he2⟩ := he2
          have hk := (compOpB_some hk).resolve_right (fun e => by subst e; cases hr)
          refine step_ok hF hrd hcf hv hs ht hk hcond.1 hcond.2 hr (fun v h' dfs' e K' a' st hs' ht' => ?_) (fun v h' e K' x st hr' hx => ?_)
          · subst e
            exact seq_ok hF hrd hcf hv l (i0 + 1) its' _ _ _ _ _ K' a' hl hget' he2 hs' ht' (hp.step hs.hr st)
          · subst e
            cases he2
            exact hp _ a K' st (hs.mono st hr') ⟨x, rfl, hx⟩
        | false =>
          rw [if_neg (by rw [hw]; simp)]
          refine ⟨fun f _ => (plainF_fn hF).1 f, ?_⟩
          have he2 : evSeq cf its' (undefA :: stk) (putV vs (o.dst.bind (idxN · V.vsl)) undefA) h dfs = some (ex, s') := he'
          exact seq_ok hF hrd hcf hv l (i0 + 1) its' _ _ _ _ _ K (a.put o.dst undef) hl hget' he2 (put_ok hv hs (Kle.refl K) hs.hr hs.wf hcond.2 VR.undef rfl hs.dfr) (stk_ok hs ht (Kle.refl K) hcond.2 VR.undef rfl) hp
      · cases hc

theorem ops_cmd {rd : Bool} (hF : plainF F) (hrd : F.round = none ∨ rd = true) (hcf : CallOk G V.gl cf) (hv : V.vsl.Nodup) {id : Nat} {ops : Array Oper} {its : List IT} (hc : compIts G.P V rd ops ops.toList [] = some its) :
    CmdOk G V m F cf L (.region id ops false) (cOps its) := by
  intro n ex s' K a s Q he hs hcx hp
  refine wpIn_region ?_
  rw [List.range_eq_range']
  have := seq_ok (n := n) (Q := Q) hF hrd hcf hv ops.toList 0 its [] [] s.vs s.h s.ds K a hc (fun j o h => by simpa using h) he hs (fun t j h => by cases h) hp
  simpa using this

theorem loop_cmd {c : Code} {cmd : Cmd} (hF : plainF F) (hb : CmdOk G V m F cf L c cmd) : CmdOk G V m F cf L (.loop c) (cLoop cmd) := by
  intro n ex s' K a s Q he hs hcx hp b k cs hro hbf hroom
  have key : ∀ (q : Nat) (K1 : Kx) (a1 : Act) (s1 : St), loopN (cmd cf L) q s1 = some (ex, s') → SR G V m K1 a1 s1.vs s1.h s1.ds → Cx F m K1 → Post G V m K1 s1.h ex s' Q →
      ∃ e a' w', Q e a' w' ∧ ArrivesIn (Machine.fenced G.P F) G.P (lone (b.atR a1 (.code c :: .inLoop c :: k)) cs K1.w) b k cs e a' w' := by
    intro q
    induction q with
    | zero => intro K1 a1 s1 he; cases he
    | succ q ih =>
      intro K1 a1 s1 he hs1 hcx1 hp1
      have he' : ob (cmd cf L s1) (fun r => match r with
        | (.normal, s) => loopN (cmd cf L) q s
        | r => some r) = some (ex, s') := he
      rw [ob_some] at he'
      obtain ⟨⟨ex1, s2⟩, h1, h2⟩ := he'
      have hround := hb n ex1 s2 K1 a1 s1 (fun e a' w' => ∃ K2, w' = K2.w ∧ Stp K1 s1.h K2 s2.h ∧ SR G V m K2 a' s2.vs s2.h s2.ds ∧ ExR G.P K2 ex1 e) h1 hs1 hcx1
        (fun e a' K' st hs' hx => ⟨K', rfl, st, hs', hx⟩)
      obtain ⟨e, a₁, w₁, ⟨K2, rfl, st, hs2, hx⟩, harr⟩ := hround b (.inLoop c :: k) cs hro hbf hroom
      cases ex1 with
      | normal =>
        cases e <;> simp only [ExR] at hx
        obtain ⟨e₂, a₂, w₂, hq₂, harr₂⟩ := ih K2 a₁ s2 h2 hs2 (hcx1.mono st.tn.le) (hp1.step hs1.hr st)
        exact ⟨e₂, a₂, w₂, hq₂, .of_steps (StepsIn.trans harr (.one (fenced_calm hbf hroom rfl) stepR_inLoop)) harr₂⟩
      | exit i =>
        simp only [Option.some.injEq, Prod.mk.injEq] at h2
        obtain ⟨rfl, rfl⟩ := h2
        have hq := hp1 e a₁ K2 st hs2 hx
        cases e <;> simp only [ExR] at hx
        exact ⟨_, a₁, _, hq, .pass (x := .inLoop c) rfl (fun _ _ => .inl (by simp)) harr⟩
      | goto l =>
        simp only [Option.some.injEq, Prod.mk.injEq] at h2
        obtain ⟨rfl, rfl⟩ := h2
        have hq := hp1 e a₁ K2 st hs2 hx
        cases e <;> simp only [ExR] at hx
        exact ⟨_, a₁, _, hq, .pass (x := .inLoop c) rfl (fun _ _ => .inl (by simp)) harr⟩
      | ret =>
        simp only [Option.some.injEq, Prod.mk.injEq] at h2
        obtain ⟨rfl, rfl⟩ := h2
        have hq := hp1 e a₁ K2 st hs2 hx
        cases e <;> simp only [ExR] at hx
        exact ⟨_, a₁, _, hq, .pass (x := .inLoop c) rfl (fun _ _ => .inl (by simp)) harr⟩
      | panic v =>
        simp only [Option.some.injEq, Prod.mk.injEq] at h2
        obtain ⟨rfl, rfl⟩ := h2
        have hq := hp1 e a₁ K2 st hs2 hx
        cases e <;> simp only [ExR] at hx
        exact ⟨_, a₁, _, hq, .pass (x := .inLoop c) rfl (fun _ _ => .inl (by simp)) harr⟩
  obtain ⟨e, a', w', hq, harr⟩ := key L K a s he hs hcx hp
  exact ⟨e, a', w', hq, .of_steps (.one (fenced_calm hbf hroom rfl) stepR_loop) harr⟩

theorem seq_cmd {c d : Code} {x y : Cmd} (hx : CmdOk G V m F cf L c x) (hy : CmdOk G V m F cf L d y) : CmdOk G V m F cf L (.seq c d) (cSeq x y) := by
  intro n ex s' K a s Q he hs hcx hp
  have he' : thenR (x cf L s) (y cf L) = some (ex, s') := he
  unfold thenR at he'
  rw [ob_some] at he'
  obtain ⟨⟨ex1, s1⟩, h1, h2⟩ := he'
  refine wpIn_seq (hx n ex1 s1 K a s _ h1 hs hcx fun e a' K' st hs' hxe => ?_)
  cases ex1 with
  | normal =>
    cases e <;> simp only [ExR] at hxe
    exact hy n ex s' K' a' s1 Q h2 hs' (hcx.mono st.tn.le) (hp.step hs.hr st)
  | _ =>
    simp only [Option.some.injEq, Prod.mk.injEq] at h2
    obtain ⟨rfl, rfl⟩ := h2
    have hq := hp e a' K' st hs' hxe
    cases e <;> simp only [ExR] at hxe <;> exact hq

theorem cnd_cmd {o : Operand} {f : OF} {c d : Code} {x y : Cmd} (hf : compX V [] o = some f) (hx : CmdOk G V m F cf L c x) (hy : CmdOk G V m F cf L d y) : CmdOk G V m F cf L (.cond o c d) (cCnd f x y) := by
  intro n ex s' K a s Q he hs hcx hp
  have he' : ob (f [] s.vs) (fun v => match v with
    | .bool t => bif_ t (x cf L s) (y cf L s)
    | _ => none) = some (ex, s') := he
  rw [ob_some] at he'
  obtain ⟨v, hv, he'⟩ := he'
  have hvr := ops_ok hs (stk := []) (ds := []) (fun t j h => by cases h) _ _ _ hf hv
  split at he'
  · rename_i t
    generalize hρ : a.eval o = z at hvr
    cases hvr
    refine wpIn_cond hρ ?_
    rw [bif_eq] at he'
    cases t with
    | true => exact hx n ex s' K a s Q he' hs hcx hp
    | false => exact hy n ex s' K a s Q he' hs hcx hp
  · cases he'

theorem blk_cmd {id : Nat} {c : Code} {x : Cmd} (hx : CmdOk G V m F cf L c x) : CmdOk G V m F cf L (.block id c) (cBlk id x) := by
  intro n ex s' K a s Q he hs hcx hp
  have he' : ob (x cf L s) (fun r => some (blkX id r)) = some (ex, s') := he
  rw [ob_some] at he'
  obtain ⟨⟨ex1, s1⟩, h1, h2⟩ := he'
  simp only [Option.some.injEq] at h2
  refine wpIn_block (hx n ex1 s1 K a s _ h1 hs hcx fun e a' K' st hs' hxe => ?_)
  cases ex1 with
  | exit i =>
    cases e <;> simp only [ExR] at hxe
    subst hxe
    simp only [blkX, bif_eq, Nat.beq_eq, Prod.mk.injEq] at h2
    obtain ⟨h2, rfl⟩ := h2
    simp only [Exit.inBlock]
    split
    · rename_i e; rw [if_pos e] at h2; subst h2; exact hp .normal a' K' st hs' trivial
    · rename_i e; rw [if_neg e] at h2; subst h2; exact hp (.exit i) a' K' st hs' rfl
  | _ =>
    simp only [blkX, Prod.mk.injEq] at h2
    obtain ⟨rfl, rfl⟩ := h2
    have hq := hp e a' K' st hs' hxe
    cases e <;> simp only [ExR] at hxe <;> exact hq

end
end Hx
