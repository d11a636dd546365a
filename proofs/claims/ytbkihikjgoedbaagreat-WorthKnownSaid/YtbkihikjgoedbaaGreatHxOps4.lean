/- Binary operations, the keys of maps, looking up, composite values. -/
import Derived.Test.YtbkihikjgoedbaaGreatHxEq
namespace Hx
open Go

section
variable {P : Program} {K : Kx}

theorem guard_none {op : BinOp} {t : TypeId} {x y : Operand} {a b : Value} {w : World} (h1 : ¬ (a = .nilIface ∧ b = .nilIface)) (h2 : ∀ xs ys, ¬ (a = .agg xs ∧ b = .agg ys)) :
    (eqGuard op t x y a b).run P w = .ok () w := by
  cases op <;> first
    | rfl
    | (unfold eqGuard
       rw [if_neg (by decide)]
       split
       · exact absurd ⟨rfl, rfl⟩ h1
       · exact absurd ⟨rfl, rfl⟩ (h2 _ _)
       · rfl)

theorem eqL_guard : ∀ (d : Nat) {t : TypeId} {ps : List Bool}, eqL P d t = some ps → ∀ {D : Nat}, d ≤ D → P.eqGuardType D t = false
  | 0, t, ps, he, _, _ => by simp [eqL] at he
  | d + 1, t, ps, he, D, hD => by
    obtain ⟨D, rfl⟩ : ∃ D', D = D' + 1 := ⟨D - 1, by omega⟩
    unfold eqL at he
    unfold Program.eqGuardType
    split at he
    · rename_i hu; rw [hu]
    · rename_i hu; rw [hu]
    · rename_i fs hu
      rw [hu]
      split at he
      · cases he
      · rw [Option.bind_eq_some_iff] at he
        obtain ⟨l, hf, _⟩ := he
        have key : ∀ (fl : List Field) (n : Nat) (l : List Bool), eqF (eqL P d) fl n = some l → (fl.any fun f => f.name != "_" && P.eqGuardType D f.type) = false := by
          intro fl
          induction fl with
          | nil => intro n l _; rfl
          | cons f fl ih =>
            intro n l h1
            simp only [eqF] at h1
            split at h1
            · rw [Option.bind_eq_some_iff] at h1
              obtain ⟨s, hs, h1⟩ := h1
              rw [Option.map_eq_some_iff] at h1
              obtain ⟨l', hl', rfl⟩ := h1
              rw [List.any_cons, eqL_guard d hs (D := D) (by omega), ih _ _ hl']
              simp
            · cases h1
        have := key fs.toList 0 l hf
        simp only [← Array.any_toList]
        exact this
    · rename_i m e hu
      rw [hu]
      rw [Option.bind_eq_some_iff] at he
      obtain ⟨s, hs, _⟩ := he
      exact eqL_guard d hs (by omega)
    · cases he

set_option maxHeartbeats 2000000 in
theorem eqIn_ok (D : Nat) {t : TypeId} {c : Bool} {a b : AV} {x y : Value} {w : World} (hx : VR P K a x) (hy : VR P K b y) {r : Bool} (h : eqAV (eqC P t c) a b = some r) :
    (Op.equalIn (D + 6) t x y).run P w = .ok r w ∧ ∀ op ox oy, (isCon ox || isCon oy) = c → (eqGuard op t ox oy x y).run P w = .ok () w := by
  unfold eqC at h
  split at h
  · rename_i hu
    simp only [eqAV] at h
    rcases eqCell_run hx hy h with ⟨_, u, v, rfl, rfl, rfl⟩ | ⟨h, _⟩
    · exact ⟨by rw [Op.equalIn]; simp [run_underlying hu], fun _ _ _ _ => guard_none (by simp) (by simp)⟩
    · cases h
  · rename_i k hu
    simp only [eqAV] at h
    rcases eqCell_run hx hy h with ⟨h, _⟩ | ⟨_, k', u, v, rfl, rfl, rfl⟩
    · cases h
    · exact ⟨run_equalIn_int w (D + 5) t k' k u v hu, fun _ _ _ _ => guard_none (by simp) (by simp)⟩
  · rename_i e hu
    split at h
    · rename_i n hz
      cases hx <;> simp only [eqAV, reduceCtorEq] at h <;> cases hy <;> simp only [Option.some.injEq, reduceCtorEq, bif_eq] at h
      case ptr.ptr b o _ b' o' _ =>
        split at h
        · rename_i hb
          have hb := Nat.eq_of_beq_eq_true hb
          subst hb
          simp only [Option.some.injEq] at h
          subst h
          refine ⟨?_, fun _ _ _ _ => guard_none (by simp) (by simp)⟩
          rw [Op.equalIn]
          simp [run_underlying hu, run_szT hz, sameAddr]
          rw [Bool.eq_iff_iff]; simp
        · cases h
      all_goals
        subst h
        exact ⟨by rw [Op.equalIn]; simp [run_underlying hu], fun _ _ _ _ => guard_none (by simp) (by simp)⟩
    · cases hx <;> simp only [eqAV, reduceCtorEq] at h <;> cases hy <;> simp only [Option.some.injEq, reduceCtorEq] at h <;> subst h <;>
        exact ⟨by rw [Op.equalIn]; simp [run_underlying hu], fun _ _ _ _ => guard_none (by simp) (by simp)⟩
  · rename_i hu
    cases hx <;> simp only [eqAV, reduceCtorEq] at h <;> cases hy <;> simp only [Option.some.injEq, reduceCtorEq] at h <;> subst h <;>
      exact ⟨by rw [Op.equalIn]; simp [run_underlying hu], fun _ _ _ _ => guard_none (by simp) (by simp)⟩
  · rename_i hu
    cases hx <;> simp only [eqAV, reduceCtorEq] at h <;> cases hy <;> simp only [Option.some.injEq, reduceCtorEq] at h <;> subst h <;>
      exact ⟨by rw [Op.equalIn]; simp [run_underlying hu], fun _ _ _ _ => guard_none (by simp) (by simp)⟩
  · rename_i hu
    cases hx <;> simp only [eqAV, reduceCtorEq] at h <;> cases hy <;> simp only [Option.some.injEq, reduceCtorEq] at h <;> subst h <;>
      exact ⟨by rw [Op.equalIn]; simp [run_underlying hu], fun _ _ _ _ => guard_none (by simp) (by simp)⟩
  · rename_i ms hu
    cases c with
    | false => simp [eqAV] at h
    | true =>
      have con : ∀ op ox oy, (isCon ox || isCon oy) = true → (eqGuard op t ox oy .nilIface .nilIface).run P w = .ok () w := fun op ox oy hc => by
        cases ox <;> cases oy <;> first | (simp [isCon] at hc; done) | (cases op <;> rfl)
      simp only [if_true] at h
      cases hx <;> simp only [eqAV, reduceCtorEq] at h <;> cases hy <;> simp only [Option.some.injEq, reduceCtorEq] at h <;> subst h <;>
        first
        | exact ⟨by rw [Op.equalIn]; simp [run_underlying hu], con⟩
        | exact ⟨by rw [Op.equalIn]; simp [run_underlying hu], fun _ _ _ _ => guard_none (by simp) (by simp)⟩
  all_goals first
    | (simp [eqAV] at h; done)
    | skip
  all_goals
    split at h
    · rename_i ps he
      cases hx <;> simp only [eqAV, reduceCtorEq] at h <;> cases hy <;> simp only [reduceCtorEq] at h
      rename_i as xs hxs bs ys hys
      have hg : agT P t = some true := by unfold agT; simp [*, aggD]
      refine ⟨equalIn_ok 6 he (by omega) hxs hys h (.inl ⟨hg, rfl⟩) (.inl ⟨hg, rfl⟩), fun op ox oy _ => ?_⟩
      have hG : P.eqGuardType P.depth t = false := eqL_guard 6 he (by unfold Program.depth Made.depth; omega)
      cases op <;> first
        | rfl
        | (unfold eqGuard
           rw [if_neg (by decide)]
           simp [hG])
    · simp [eqAV] at h

theorem eqAV_ok {t : TypeId} {c : Bool} {a b : AV} {x y : Value} {w : World} (hx : VR P K a x) (hy : VR P K b y) {r : Bool} (h : eqAV (eqC P t c) a b = some r) :
    (Op.equal t x y).run P w = .ok r w ∧ ∀ op ox oy, (isCon ox || isCon oy) = c → (eqGuard op t ox oy x y).run P w = .ok () w := eqIn_ok 9994 hx hy h

set_option maxHeartbeats 2000000 in
theorem bin_ok {t : TypeId} {op : BinOp} {ox oy : Operand} {a b r : AV} {x y : Value} (hx : VR P K a x) (hy : VR P K b y) (h : binop (eqC P t (isCon ox || isCon oy)) op a b = some r) :
    YP P K (do eqGuard op t ox oy x y; binOp op t x y) r := by
  have ints : ∀ {k k' : IntKind} {m n : Int}, a = .int k m → b = .int k' n → YP P K (do eqGuard op t ox oy x y; binOp op t x y) r := by
    rintro k k' m n rfl rfl
    cases hx; cases hy
    have hg : (eqGuard op t ox oy (.int k m) (.int k' n)).run P K.w = .ok () K.w := guard_none (by simp) (by simp)
    simp only [binop, bif_eq] at h
    split at h
    · obtain ⟨v, h1, h2⟩ := shift_run (P := P) (w := K.w) op k k' m n t h
      exact ⟨v, by simp [hg, h1], h2 K⟩
    · rename_i hs
      split at h
      · rename_i hk
        have := kEq_eq hk
        subst this
        obtain ⟨v, h1, h2⟩ := intOp_run (P := P) (w := K.w) op k m n t (by simpa using hs) h
        exact ⟨v, by simp [hg, h1], h2 K⟩
      · cases h
  by_cases hi : (∃ k m, a = .int k m) ∧ ∃ k m, b = .int k m
  · obtain ⟨⟨k, m, h1⟩, k', n, h2⟩ := hi
    exact ints h1 h2
  · have hb : ∀ (o : BinOp), binop (eqC P t (isCon ox || isCon oy)) o a b = (match o with
        | .eql => ob (eqAV (eqC P t (isCon ox || isCon oy)) a b) kB
        | .neq => ob (eqAV (eqC P t (isCon ox || isCon oy)) a b) fun b => kB (!b)
        | _ => none) := by
      intro o
      unfold binop
      split
      · exact absurd ⟨⟨_, _, rfl⟩, _, _, rfl⟩ hi
      · rfl
    rw [hb] at h
    have main : ∀ (q : Bool), eqAV (eqC P t (isCon ox || isCon oy)) a b = some q → (binOp .eql t x y).run P K.w = .ok (.bool q) K.w ∧ (binOp .neq t x y).run P K.w = .ok (.bool (!q)) K.w := by
      intro q hq
      obtain ⟨h1, _⟩ := eqAV_ok (w := K.w) hx hy hq
      constructor
      all_goals
        unfold eqC at hq
        split at hq
        all_goals first
          | (simp only [eqAV] at hq
             rcases eqCell_run hx hy hq with ⟨_, u, v, rfl, rfl, rfl⟩ | ⟨hf, _⟩
             · simp [binOp, h1]
             · cases hf)
          | (simp only [eqAV] at hq
             rcases eqCell_run hx hy hq with ⟨hf, _⟩ | ⟨_, k', u, v, rfl, rfl, rfl⟩
             · cases hf
             · simp [binOp, Op.intCmp, bne]; done)
          | (simp [eqAV] at hq; done)
          | (split at hq
             all_goals first
               | (simp [eqAV] at hq; done)
               | (cases hx <;> simp only [eqAV, reduceCtorEq] at hq <;> cases hy <;> first | exact absurd ⟨⟨_, _, rfl⟩, _, _, rfl⟩ hi | (simp only [reduceCtorEq] at hq; done) | (simp [binOp, h1]; done)))
          | (cases hx <;> simp only [eqAV, reduceCtorEq] at hq <;> cases hy <;> first | exact absurd ⟨⟨_, _, rfl⟩, _, _, rfl⟩ hi | (simp only [reduceCtorEq] at hq; done) | (simp [binOp, h1]; done))
    cases op <;> simp only [ob_some, kB_eq, Option.some.injEq, reduceCtorEq] at h
    all_goals
      obtain ⟨q, h1, rfl⟩ := h
      obtain ⟨_, h3⟩ := eqAV_ok (w := K.w) hx hy h1
      have h2 := main q h1
      exact ⟨_, by simp [h3 _ ox oy rfl, h2.1, h2.2], .bool _⟩

end
end Hx
