/- Code with recover: the bodies of deferred functions. -/
import Derived.Test.YtbkihikjgoedbaaGreatHxRng
import Derived.RecoverIn
namespace Hx
open Go

/-- the panic that a deferred function may recover -/
def MdR (P : Program) (K : Kx) : Option AV → Bool → FrameMode → Prop
  | some v, false, u => ∃ x, u = .panicking [{ v := x, recovered := false }] ∧ VR P K v x
  | none, false, u => u = .returning
  | none, true, u => ∃ x, u = .panicking [{ v := x, recovered := true }]
  | some _, true, _ => False
theorem MdR.mono {P : Program} {K K' : Kx} (hk : Kle K K') {p : Option AV} {d : Bool} {u : FrameMode} (h : MdR P K p d u) : MdR P K' p d u := by
  cases p <;> cases d <;> first
    | exact h
    | (obtain ⟨x, h1, h2⟩ := h; exact ⟨x, h1, h2.mono hk⟩)

def PostS (G : Gx) (V : Vn) (m : Option Nat) (K : Kx) (h : Heap) (ex : Ex) (s' : St) (p : Option AV) (d' : Bool) (c₀ : Frame) (cs : List Frame) (Q : Exit → Act → List Frame → World → Prop) : Prop :=
  ∀ e a' K' u', Stp K h K' s'.h → SR G V m K' a' s'.vs s'.h s'.ds → ExR G.P K' ex e → MdR G.P K' (bif_ d' none p) d' u' → Q e a' ({ c₀ with mode := u' } :: cs) K'.w

def CmdROk (G : Gx) (V : Vn) (m : Option Nat) (cf : CallFn) (L : Nat) (c : Code) (cmd : CmdR) : Prop :=
  ∀ n ex d' s' K a s p d c₀ cs u Q, cmd cf L p d s = some (ex, d', s') → SR G V m K a s.vs s.h s.ds → Cx Fence.wide m K → MdR G.P K p d u → PostS G V m K s.h ex s' p d' c₀ cs Q →
    c.wpSIn Fence.wide n G.P Q a ({ c₀ with mode := u } :: cs) K.w

section
variable {G : Gx} {V : Vn} {m : Option Nat} {cf : CallFn} {L : Nat}

theorem seqR_d : ∀ (its : List IT) {p : Option AV} {stk vs : List AV} {h : Heap} {dfs : Defs} {ex : Ex} {d' : Bool} {s' : St}, evSeqR its p true stk vs h dfs = some (ex, d', s') → d' = true
  | [], p, stk, vs, h, dfs, ex, d', s', he => by cases he; rfl
  | o :: its, p, stk, vs, h, dfs, ex, d', s', he => by
    have he' : ob (guardOk o.grd stk vs) (fun g => bif_ g
        (match o.op with
         | .rcv => match p with
           | some v => evSeqR its none true (v :: stk) (putV vs o.wr v) h dfs
           | none => evSeqR its none true (.nili :: stk) (putV vs o.wr .nili) h dfs
         | .a f => ob (f stk vs h) fun r => evSeqR its p true (r.1 :: stk) (putV vs o.wr r.1) (r.2.1.killO r.2.2) dfs
         | .e f => ob (f stk vs h) fun r => evSeqR its p true (r.1 :: stk) (putV vs o.wr r.1) r.2 dfs
         | _ => none)
        (evSeqR its p true (undefA :: stk) (putV vs o.wr undefA) h dfs)) = some (ex, d', s') := he
    rw [ob_some] at he'
    obtain ⟨g, _, he'⟩ := he'
    rw [bif_eq] at he'
    split at he'
    · split at he'
      · split at he' <;> exact seqR_d its he'
      · rw [ob_some] at he'; obtain ⟨r, _, he'⟩ := he'; exact seqR_d its he'
      · rw [ob_some] at he'; obtain ⟨r, _, he'⟩ := he'; exact seqR_d its he'
      · cases he'
    · exact seqR_d its he'

theorem comp_rcv {P : Program} {co : CoF} {o : Op} (hc : compOp P co o = some .rcv) : ∃ c, o = .call c ∧ c.callee = .builtin .recover ∧ c.args.toList = [] := by
  rcases comp_none hc with ⟨f, h⟩ | ⟨f, h⟩ | ⟨f, args, c, x, h, _⟩ | ⟨f, args, c, x, h, _⟩ | ⟨f, x, h, _⟩ | ⟨_, h⟩
  · cases h
  · cases h
  · cases h
  · cases h
  · cases h
  · exact h

theorem seqR_ok (hv : V.vsl.Nodup) {all : Array Oper} {n : Nat} {ex : Ex} {d' : Bool} {s' : St} {c₀ : Frame} {cs : List Frame} {Q : Exit → Act → List Frame → World → Prop} :
    ∀ (l : List Oper) (i0 : Nat) (its : List IT) (ds : List (Option Nat)) (stk vs : List AV) (h : Heap) (dfs : Defs) (K : Kx) (a : Act) (p : Option AV) (d : Bool) (u : FrameMode), compIts G.P V true all l ds = some its → (∀ j o, l[j]? = some o → all[i0 + j]? = some o) →
      evSeqR its p d stk vs h dfs = some (ex, d', s') → SR G V m K a vs h dfs → Stk G.P K a stk ds → MdR G.P K p d u → PostS G V m K h ex s' p d' c₀ cs Q →
      wpOpsSIn Fence.wide n G.P all Q (List.range' i0 l.length) a ({ c₀ with mode := u } :: cs) K.w
  | [], i0, its, ds, stk, vs, h, dfs, K, a, p, d, u, hc, _, he, hs, _, hm, hp => by
    cases hc
    cases he
    refine hp .normal a K u (Stp.refl _ _) hs trivial ?_
    cases d' with
    | false => exact hm
    | true => cases p with
      | none => exact hm
      | some v => exact hm.elim
  | o :: l, i0, its, ds, stk, vs, h, dfs, K, a, p, d, u, hc, hget, he, hs, ht, hm, hp => by
    unfold compIts at hc
    split at hc
    · cases hc
    · rename_i hcond
      rw [Bool.not_eq_true, Bool.or_eq_false_iff, Bool.not_eq_false'] at hcond
      split at hc
      · rename_i k g its' hk hg hl
        cases hc
        have ho : all[i0]? = some o := by simpa using hget 0 o rfl
        have he' : ob (guardOk g stk vs) (fun b => bif_ b
          (match k with
           | .rcv => match p with
             | some v => evSeqR its' none true (v :: stk) (putV vs (o.dst.bind (idxN · V.vsl)) v) h dfs
             | none => evSeqR its' none d (.nili :: stk) (putV vs (o.dst.bind (idxN · V.vsl)) .nili) h dfs
           | .a f => ob (f stk vs h) fun r => evSeqR its' p d (r.1 :: stk) (putV vs (o.dst.bind (idxN · V.vsl)) r.1) (r.2.1.killO r.2.2) dfs
           | .e f => ob (f stk vs h) fun r => evSeqR its' p d (r.1 :: stk) (putV vs (o.dst.bind (idxN · V.vsl)) r.1) r.2 dfs
           | _ => none)
          (evSeqR its' p d (undefA :: stk) (putV vs (o.dst.bind (idxN · V.vsl)) undefA) h dfs)) = some (ex, d', s') := he
        rw [ob_some] at he'
        obtain ⟨b, hb, he'⟩ := he'
        have hw := guard_ok ht hg hb o rfl
        have hget' : ∀ j o', l[j]? = some o' → all[i0 + 1 + j]? = some o' := fun j o' h => by
          have := hget (j + 1) o' (by simpa using h)
          rwa [show i0 + (j + 1) = i0 + 1 + j by omega] at this
        rw [List.length_cons, List.range'_succ]
        simp only [wpOpsSIn, ho]
        refine ⟨fun f _ => trivial, ?_⟩
        have hco := ops_ok hs ht
        cases b with
        | false =>
          rw [if_neg (by rw [hw]; simp)]
          exact seqR_ok hv l (i0 + 1) its' _ _ _ _ _ K (a.put o.dst undef) p d u hl hget' he' (put_ok hv hs (Kle.refl K) hs.hr hs.wf hcond.2 VR.undef rfl hs.dfr) (stk_ok hs ht (Kle.refl K) hcond.2 VR.undef rfl) hm hp
        | true =>
          rw [if_pos hw]
          have he2 := he'
          simp only [bif_eq, if_true] at he2
          have hk := (compOpB_some hk).resolve_right (fun e => by subst e; cases he2)
          split at he2
          · -- recover
            obtain ⟨c, hcall, hcal, hargs⟩ := comp_rcv hk
            have hrun : (execOp a.eval o).run G.P K.w = .ok .recover K.w := by
              obtain ⟨dst, op, type, pos, after, guard⟩ := o
              simp only at hcall
              subst hcall
              obtain ⟨consts, hrun⟩ := run_call_builtin (P := G.P) a.eval c .recover hcal dst type pos after guard
              rw [hrun]; rfl
            rw [hrun]
            simp only
            split at he2
            · rename_i v
              cases d with
              | true => exact hm.elim
              | false =>
                obtain ⟨x, rfl, hx⟩ := hm
                have hrec : recoverD ({ c₀ with mode := .panicking [{ v := x, recovered := false }] } :: cs) = some (x, { c₀ with mode := .panicking [{ v := x, recovered := true }] } :: cs) := rfl
                rw [hrec]
                have hd' := seqR_d _ he2
                subst hd'
                exact seqR_ok hv l (i0 + 1) its' _ _ _ _ _ K (a.put o.dst x) none true (.panicking [{ v := x, recovered := true }]) hl hget' he2 (put_ok hv hs (Kle.refl K) hs.hr hs.wf hcond.2 hx rfl hs.dfr) (stk_ok hs ht (Kle.refl K) hcond.2 hx rfl)
                  ⟨x, rfl⟩ hp
            · have hrec : recoverD ({ c₀ with mode := u } :: cs) = none := by
                cases d with
                | false => have hm' : u = .returning := hm; subst hm'; rfl
                | true => obtain ⟨x, rfl⟩ := hm; rfl
              rw [hrec]
              exact seqR_ok hv l (i0 + 1) its' _ _ _ _ _ K (a.put o.dst .nilIface) none d u hl hget' he2 (put_ok hv hs (Kle.refl K) hs.hr hs.wf hcond.2 VR.nili rfl hs.dfr) (stk_ok hs ht (Kle.refl K) hcond.2 VR.nili rfl) hm hp
          · -- plain
            rw [ob_some] at he2
            obtain ⟨⟨v, h1, kill⟩, hf, he2⟩ := he2
            obtain ⟨x, K', g1, g2, g3, g4⟩ := astep_ok hco hs.hr hs.wf hk hf
            rw [g1]
            exact seqR_ok hv l (i0 + 1) its' _ _ _ _ _ K' (a.put o.dst x) p d u hl hget' he2 (put_ok hv hs g4.tn.le g3 (g4.wf hs.wf) hcond.2 g2 rfl (hs.dfr.mono g4.tn.le)) (stk_ok hs ht g4.tn.le hcond.2 g2 rfl) (hm.mono g4.tn.le)
              (fun e a' K'' u' st' hs' hx hm' => hp e a' K'' u' (g4.trans hs.hr st') hs' hx hm')
          · -- turns memory
            rw [ob_some] at he2
            obtain ⟨⟨v, h1⟩, hf, he2⟩ := he2
            obtain ⟨⟨nx, x, K', g1, g2, g3, g4, g5⟩, g6⟩ := eop_ok hco hk hf hs.hr
            have st : Stp K h K' h1 := ⟨g4, puts_ext g6, puts_wf g6, fun b hb => .inl (g5.2 b hb)⟩
            rw [g1]
            have go := seqR_ok (n := n) hv l (i0 + 1) its' _ _ _ _ _ K' (a.put o.dst x) p d u hl hget' he2 (put_ok hv hs st.tn.le g5.1 (st.wf hs.wf) hcond.2 g3 rfl (hs.dfr.mono st.tn.le)) (stk_ok hs ht st.tn.le hcond.2 g3 rfl) (hm.mono st.tn.le)
              (fun e a' K'' u' st' hs' hx hm' => hp e a' K'' u' (st.trans hs.hr st') hs' hx hm')
            rcases g2 with rfl | ⟨rfl, rfl⟩
            · exact go
            · exact go
          · cases he2
      · cases hc

theorem opsR_cmd (hv : V.vsl.Nodup) {id : Nat} {ops : Array Oper} {its : List IT} (hc : compIts G.P V true ops ops.toList [] = some its) : CmdROk G V m cf L (.region id ops false) (rOps its) := by
  intro n ex d' s' K a s p d c₀ cs u Q he hs hcx hm hp
  refine wpSIn_region ?_
  rw [List.range_eq_range']
  have := seqR_ok (n := n) (Q := Q) hv ops.toList 0 its [] [] s.vs s.h s.ds K a p d u hc (fun j o h => by simpa using h) he hs (fun t j h => by cases h) hm hp
  simpa using this

theorem rCmd_cmd {c : Code} {x : Cmd} (hx : CmdOk G V m Fence.wide cf L c x) : CmdROk G V m cf L c (rCmd x) := by
  intro n ex d' s' K a s p d c₀ cs u Q he hs hcx hm hp
  have he' : ob (x cf L s) (fun r => some (r.1, d, r.2)) = some (ex, d', s') := he
  rw [ob_some] at he'
  obtain ⟨⟨ex1, s1⟩, h1, h2⟩ := he'
  simp only [Option.some.injEq, Prod.mk.injEq] at h2
  obtain ⟨rfl, rfl, rfl⟩ := h2
  refine wpSIn_of_wpIn rfl (hx n ex1 s1 K a s _ h1 hs hcx fun e a' K' st hs' hxe => hp e a' K' u st hs' hxe ?_)
  have := hm.mono st.tn.le
  cases d with
  | false => exact this
  | true => cases p with
    | none => exact this
    | some v => exact this.elim

/-- what has been recovered stays so -/
def CmdRd (x : CmdR) : Prop := ∀ cf L p s ex d' s', x cf L p true s = some (ex, d', s') → d' = true
theorem opsR_d (its : List IT) : CmdRd (rOps its) := fun cf L p s ex d' s' he => seqR_d its he
theorem rCmd_d (x : Cmd) : CmdRd (rCmd x) := fun cf L p s ex d' s' he => by
  have he' : ob (x cf L s) (fun r => some (r.1, true, r.2)) = some (ex, d', s') := he
  rw [ob_some] at he'
  obtain ⟨r, _, h⟩ := he'
  cases h; rfl
theorem seqR_dd {x y : CmdR} (hx : CmdRd x) (hy : CmdRd y) : CmdRd (rSeq x y) := fun cf L p s ex d' s' he => by
  have he' : ob (x cf L p true s) (fun r => match r with
    | (.normal, d', s) => y cf L (bif_ d' none p) d' s
    | r => some r) = some (ex, d', s') := he
  rw [ob_some] at he'
  obtain ⟨⟨ex1, d1, s1⟩, h1, h2⟩ := he'
  have := hx _ _ _ _ _ _ _ h1
  subst this
  cases ex1 with
  | normal => exact hy _ _ _ _ _ _ _ h2
  | _ => simp only [Option.some.injEq, Prod.mk.injEq] at h2; exact h2.2.1.symm
theorem cndR_d {f : OF} {x y : CmdR} (hx : CmdRd x) (hy : CmdRd y) : CmdRd (rCnd f x y) := fun cf L p s ex d' s' he => by
  have he' : ob (f [] s.vs) (fun v => match v with
    | .bool t => bif_ t (x cf L p true s) (y cf L p true s)
    | _ => none) = some (ex, d', s') := he
  rw [ob_some] at he'
  obtain ⟨v, hv, he'⟩ := he'
  cases v <;> simp only [reduceCtorEq] at he'
  · rename_i t
    cases t
    · exact hy _ _ _ _ _ _ _ he'
    · exact hx _ _ _ _ _ _ _ he'

theorem seqR_cmd {c e : Code} {x y : CmdR} (hyd : CmdRd y) (hx : CmdROk G V m cf L c x) (hy : CmdROk G V m cf L e y) : CmdROk G V m cf L (.seq c e) (rSeq x y) := by
  intro n ex d' s' K a s p d c₀ cs u Q he hs hcx hm hp
  have he' : ob (x cf L p d s) (fun r => match r with
    | (.normal, d', s) => y cf L (bif_ d' none p) d' s
    | r => some r) = some (ex, d', s') := he
  rw [ob_some] at he'
  obtain ⟨⟨ex1, d1, s1⟩, h1, h2⟩ := he'
  refine wpSIn_seq (hx n ex1 d1 s1 K a s p d c₀ cs u _ h1 hs hcx hm fun e a' K' u' st hs' hxe hm' => ?_)
  cases ex1 with
  | normal =>
    cases e <;> simp only [ExR] at hxe
    refine hy n ex d' s' K' a' s1 _ d1 c₀ cs u' Q h2 hs' (hcx.mono st.tn.le) hm' fun e a'' K'' u'' st' hs'' hx' hm'' => hp e a'' K'' u'' (st.trans hs.hr st') hs'' hx' ?_
    cases d' with
    | true => exact hm''
    | false =>
      cases d1 with
      | false => exact hm''
      | true =>
        have := hyd _ _ _ _ _ _ _ h2
        cases this
  | _ =>
    simp only [Option.some.injEq, Prod.mk.injEq] at h2
    obtain ⟨rfl, rfl, rfl⟩ := h2
    have hq := hp e a' K' u' st hs' hxe hm'
    cases e <;> simp only [ExR] at hxe <;> exact hq

theorem cndR_cmd {o : Operand} {f : OF} {c e : Code} {x y : CmdR} (hf : compX V [] o = some f) (hx : CmdROk G V m cf L c x) (hy : CmdROk G V m cf L e y) : CmdROk G V m cf L (.cond o c e) (rCnd f x y) := by
  intro n ex d' s' K a s p d c₀ cs u Q he hs hcx hm hp
  have he' : ob (f [] s.vs) (fun v => match v with
    | .bool t => bif_ t (x cf L p d s) (y cf L p d s)
    | _ => none) = some (ex, d', s') := he
  rw [ob_some] at he'
  obtain ⟨v, hv, he'⟩ := he'
  have hvr := ops_ok hs (stk := []) (ds := []) (fun t j h => by cases h) _ _ _ hf hv
  split at he'
  · rename_i t
    generalize hρ : a.eval o = z at hvr
    cases hvr
    refine wpSIn_cond hρ ?_
    rw [bif_eq] at he'
    cases t with
    | true => exact hx n ex d' s' K a s p d c₀ cs u Q he' hs hcx hm hp
    | false => exact hy n ex d' s' K a s p d c₀ cs u Q he' hs hcx hm hp
  · cases he'

end
end Hx
