/- The operations that make blocks; composite values. -/
import Derived.Test.YtbkihikjgoedbaaGreatHxOps5
namespace Hx
open Go

section
variable {G : Gx} {K : Kx} {h : Heap} {ks : List Nat}

/-- a value and one more block -/
def NewP (G : Gx) (K : Kx) (n : Nat) (s : Sem Value) (v : AV) (blk : Blk) : Prop :=
  ∃ x w' o, s.run G.P K.w = .ok x w' ∧ (w'.heap = K.w.heap.push o ∧ FrW K.w w') ∧ VR G.P (K.new n w') v x ∧ BR G (K.new n w') n blk

theorem Kx.new_bl {K : Kx} {n : Nat} {w' : World} : (K.new n w').bl n = K.w.heap.size := if_pos rfl
theorem Kx.new_sh {K : Kx} {n : Nat} {w' : World} : (K.new n w').sh n = 0 := if_pos rfl

theorem BR.ofRow {n : Nat} {w' : World} {c : Array Value} {e : TypeId} {cs : List AV} (hw : w'.heap = K.w.heap.push (.cells c e (0, 0))) (hf : FrW K.w w') (hn : ¬ K.D n) (hv : VRs G.P K cs c.toList) : BR G (K.new n w') n (.row cs e) := by
  refine ⟨c, c.toList, ?_, hv.mono (Kx.new_le hf hw hn), fun i v hi => ?_, ?_⟩
  · rw [Kx.new_bl]; show w'.heap[_]? = _; rw [hw]; simp
  · rw [Kx.new_sh, Nat.zero_add]; simpa using hi
  · rw [Kx.new_sh]; have := hv.length; simp at this; omega

theorem BR.ofRowP {n : Nat} {w' : World} {c : Array Value} {e : TypeId} {cs : List AV} {cvs r : List Value} (hw : w'.heap = K.w.heap.push (.cells c e (0, 0))) (hf : FrW K.w w') (hn : ¬ K.D n) (hv : VRs G.P K cs cvs) (hc : c.toList = cvs ++ r) :
    BR G (K.new n w') n (.row cs e) := by
  refine ⟨c, cvs, ?_, hv.mono (Kx.new_le hf hw hn), fun i v hi => ?_, ?_⟩
  · rw [Kx.new_bl]; show w'.heap[_]? = _; rw [hw]; simp
  · rw [Kx.new_sh, Nat.zero_add, ← Array.getElem?_toList, hc, List.getElem?_append_left (List.getElem?_eq_some_iff.mp hi).1]; exact hi
  · rw [Kx.new_sh]; have := hv.length; have h2 := congrArg List.length hc; simp at h2; omega

theorem VR.newPtr {P : Program} {n : Nat} {w' : World} : VR P (K.new n w') (.ptr n 0) (.pointer (some ⟨K.w.heap.size, 0, none⟩)) := by
  have h := VR.ptr (P := P) (K := K.new n w') n 0 (.inr rfl)
  rw [Kx.new_bl, Kx.new_sh] at h
  exact h
theorem VR.newSlice {P : Program} {n : Nat} {w' : World} {c : Array Value} {e : TypeId} {len cap : Nat} (hw : w'.heap = K.w.heap.push (.cells c e (0, 0))) (hl : len ≤ cap) (hc : cap * P.cellsOf e ≤ c.size) :
    VR P (K.new n w') (.msl e n 0 len) (.slice (some ⟨K.w.heap.size, 0, none⟩) len cap) := by
  have h := VR.msl (P := P) (K := K.new n w') e n 0 len cap c e (0, 0) (.inr rfl) hl (by rw [Kx.new_bl]; show w'.heap[_]? = _; rw [hw]; simp) (by rw [Kx.new_sh]; omega)
  rw [Kx.new_bl, Kx.new_sh] at h
  exact h

theorem run_newRow {P : Program} {w : World} (e : TypeId) (c : Array Value) : (newRow e c).run P w = .ok ⟨w.heap.size, 0, none⟩ { w with heap := w.heap.push (.cells c e (0, 0)) } := rfl

theorem alloc_ok {n : Nat} {e : TypeId} {z : List AV} (hn : ¬ K.D n) (hz : zeT G.P e = some z) : NewP G K n (Instr.alloc e true (.tuple #[])) (.ptr n 0) (.row z e) := by
  obtain ⟨zv, h1, h2⟩ := run_zeT hz K.w
  exact ⟨_, { K.w with heap := K.w.heap.push (.cells zv.cells e (0, 0)) }, _, by simp [Instr.alloc, h1, newVar, run_newRow], ⟨rfl, FrW.push rfl rfl rfl rfl⟩, VR.newPtr, BR.ofRow rfl (FrW.push rfl rfl rfl rfl) hn (h2 K)⟩

theorem box_ok {n : Nat} {e : TypeId} {v : AV} {x : Value} (hn : ¬ K.D n) (hv : VR G.P K v x) : NewP G K n (Instr.box e x) (.ptr n 0) (.row v.cells e) :=
  ⟨_, { K.w with heap := K.w.heap.push (.cells x.cells e (0, 0)) }, _, by simp [Instr.box, newVar, run_newRow], ⟨rfl, FrW.push rfl rfl rfl rfl⟩, VR.newPtr, BR.ofRow rfl (FrW.push rfl rfl rfl rfl) hn hv.cells⟩

theorem mkm_ok {n : Nat} {t : TypeId} : NewP G K n (Instr.makeMap t none) (.mp n) (.mp [] 0) := by
  refine ⟨.map (some K.w.heap.size), { K.w with heap := K.w.heap.push (.map #[] 0) }, _, rfl, ⟨rfl, FrW.push rfl rfl rfl rfl⟩, ?_, ?_⟩
  · have h := VR.mp (P := G.P) (K := K.new n { K.w with heap := K.w.heap.push (.map #[] 0) }) n (.inr rfl)
    rw [Kx.new_bl] at h
    exact h
  · refine ⟨#[], ?_, .nil, fun i j a b h => by simp at h, fun i a h => by simp at h⟩
    rw [Kx.new_bl]; show (K.w.heap.push _)[_]? = _; simp

/-! parts over zeros -/
theorem foldl_set (B : List Value) : ∀ (A : Array Value) (off k : Nat), off + k + B.length ≤ A.size →
    ((B.zipIdx k).foldl (fun cs (p : Value × Nat) => cs.setIfInBounds (off + p.2) p.1) A).toList = A.toList.take (off + k) ++ B ++ A.toList.drop (off + k + B.length) := by
  induction B with
  | nil => intro A off k _; simp
  | cons v B ih =>
    intro A off k hl
    simp only [List.length_cons] at hl
    rw [List.zipIdx_cons, List.foldl_cons, ih _ off (k + 1) (by simp; omega), Array.toList_setIfInBounds]
    have e := list_seg_step A.toList (off + k) v B (by simp; omega)
    simpa [Nat.add_assoc] using e

theorem fill_ok {P : Program} {co : CoF} {ρ : Operand → Value} {stk vs : List AV} {place place' : Nat → Option (Nat × Nat)} (hco : ∀ x f v, co x = some f → f stk vs = some v → VR P K v (ρ x))
    (hpl : ∀ i q, place i = some q → place' i = some q) : ∀ (parts : List (Nat × Operand)) {ps : Parts}, coParts co place parts = some ps → ∀ {cs cs' : List AV} {cells : Array Value}, VRs P K cs cells.toList → fillParts stk vs ps cs = some cs' →
    ∃ cells', Instr.fill place' cells (parts.map fun p => (p.1, ρ p.2)) = some cells' ∧ VRs P K cs' cells'.toList
  | [], ps, hp, cs, cs', cells, hv, hf => by
    cases hp
    cases hf
    exact ⟨cells, rfl, hv⟩
  | p :: parts, ps, hp, cs, cs', cells, hv, hf => by
    unfold coParts at hp
    split at hp
    · rename_i q x l hq hx hl
      cases hp
      have hf' : ob (x stk vs) (fun v => bif_ (Nat.beq (lenL v.cells) q.2) (ob (setL q.1 v.cells cs) (fillParts stk vs l)) none) = some cs' := hf
      simp only [ob_some, bif_none, Nat.beq_eq, lenL_eq, setL_eq] at hf'
      obtain ⟨v, hx', hlen, c1, hc1, hf'⟩ := hf'
      split at hc1
      · rename_i hb
        cases hc1
        have hvx := hco _ _ _ hx hx'
        have hcs := hv.length
        have hvc := hvx.cells
        have hvl := hvc.length
        have hset := foldl_set (ρ p.2).cells.toList cells q.1 0 (by simp at hcs hvl ⊢; omega)
        have hvz : (ρ p.2).cells.zipIdx.foldl (fun cs (p : Value × Nat) => cs.setIfInBounds (q.1 + p.2) p.1) cells = ((ρ p.2).cells.toList.zipIdx 0).foldl (fun cs (p : Value × Nat) => cs.setIfInBounds (q.1 + p.2) p.1) cells := by
          rw [← Array.foldl_toList]; simp
        have hv2 : VRs P K (cs.take q.1 ++ v.cells ++ cs.drop (q.1 + v.cells.length)) (((ρ p.2).cells.zipIdx.foldl (fun cs (p : Value × Nat) => cs.setIfInBounds (q.1 + p.2) p.1) cells)).toList := by
          rw [hvz, hset, Nat.add_zero, hvl]
          exact ((hv.take _).append hvc).append (hv.drop _)
        obtain ⟨cells', h1, h2⟩ := fill_ok hco hpl parts hl hv2 hf'
        refine ⟨cells', ?_, h2⟩
        simp only [List.map_cons, Instr.fill]
        rw [hpl _ _ hq]
        simp only
        rw [if_neg]
        · exact h1
        · simp at hvl hcs ⊢; omega
      · cases hc1
    · cases hp

theorem build_ok {co : CoF} {ρ : Operand → Value} {stk vs : List AV} (hco : ∀ x f v, co x = some f → f stk vs = some v → VR G.P K v (ρ x)) {t : TypeId} {parts : Array (Nat × Operand)} {o : OpK} (hc : cBuild G.P co t parts = some o) :
    ∃ z ps, o = .a (aAgg z ps) ∧ ∀ cs, fillParts stk vs ps z = some cs → YP G.P K (Instr.build t (parts.map fun (i, x) => (i, ρ x))) (.agg cs) := by
  unfold cBuild at hc
  split at hc
  · rename_i fs z hu hz
    split at hc
    · rename_i l hl
      rw [Option.map_eq_some_iff] at hc
      obtain ⟨ps, hp, rfl⟩ := hc
      refine ⟨z, ps, rfl, fun cs hcs => ?_⟩
      obtain ⟨zv, h1, h2⟩ := run_zeT hz K.w
      obtain ⟨cells, h3, h4⟩ := fill_ok hco (place' := fun i => l[i]?) (fun i q h => h) parts.toList hp (h2 K) hcs
      refine ⟨.agg cells, ?_, by have := VR.agg (P := G.P) (K := K) cs cells.toList h4; simpa using this⟩
      have h5 := run_places (P := G.P) K.w _ _ hl
      simp [Instr.build, h1, run_underlying hu, Array.mapM_eq_mapM_toList, h5]
      rw [h3]; rfl
    · cases hc
  · rename_i n e z hu hz
    split at hc
    · rename_i sz hsz
      rw [Option.map_eq_some_iff] at hc
      obtain ⟨ps, hp, rfl⟩ := hc
      refine ⟨z, ps, rfl, fun cs hcs => ?_⟩
      obtain ⟨zv, h1, h2⟩ := run_zeT hz K.w
      obtain ⟨cells, h3, h4⟩ := fill_ok hco (place' := fun i => some (i * sz, sz)) (fun i q h => h) parts.toList hp (h2 K) hcs
      refine ⟨.agg cells, ?_, by have := VR.agg (P := G.P) (K := K) cs cells.toList h4; simpa using this⟩
      have e : (parts.map fun x => (x.1, ρ x.2)).toList = parts.toList.map fun p => (p.1, ρ p.2) := by simp
      simp [Instr.build, h1, run_underlying hu, run_szT hsz]
      rw [h3]; rfl
    · cases hc
  · cases hc

theorem rep_get (l : List Value) (n i : Nat) : ((List.replicate n l).flatten)[i]? = if i < n * l.length then l[i % l.length]? else none := by
  induction n generalizing i with
  | zero => simp
  | succ n ih =>
    rw [List.replicate_succ, List.flatten_cons, List.getElem?_append]
    by_cases h1 : i < l.length
    · rw [if_pos h1, if_pos (by rw [Nat.succ_mul]; omega), Nat.mod_eq_of_lt h1]
    · rw [if_neg h1, ih]
      by_cases h2 : i < (n + 1) * l.length
      · rw [if_pos (by rw [Nat.succ_mul] at h2; omega), if_pos h2, Nat.mod_eq_sub_mod (by omega : i ≥ l.length)]
      · rw [if_neg (by rw [Nat.succ_mul] at h2; omega), if_neg h2]

theorem range_mod (zero : Array Value) (n s : Nat) (hs : zero.size = s) : ((Array.range (n * s)).map (zero[· % zero.size]!)).toList = (List.replicate n zero.toList).flatten := by
  apply List.ext_getElem?
  intro i
  rw [rep_get]
  simp only [Array.toList_map, Array.toList_range, List.getElem?_map, Array.length_toList, hs]
  by_cases h : i < n * s
  · rw [if_pos h, List.getElem?_range h]
    have hp : 0 < s := by rcases Nat.eq_zero_or_pos s with h0 | h0; (· subst h0; simp at h); exact h0
    have : i % s < zero.size := by rw [hs]; exact Nat.mod_lt _ hp
    simp [this]
  · rw [if_neg h, List.getElem?_eq_none (by simpa using Nat.le_of_not_lt h)]; rfl

theorem bsl_ok {co : CoF} {ρ : Operand → Value} {stk vs : List AV} (hco : ∀ x f v, co x = some f → f stk vs = some v → VR G.P K v (ρ x)) {t : TypeId} {len : Nat} {parts : Array (Nat × Operand)} {o : OpK} (hc : cBuildSlice G.P co t len parts = some o) :
    ∃ e z ps, o = .a (aBsl e len z ps) ∧ ∀ n cs, ¬ K.D n → fillParts stk vs ps (rep z len) = some cs → NewP G K n (Instr.buildSlice t len (parts.map fun (i, x) => (i, ρ x))) (.msl e n 0 len) (.row cs e) := by
  unfold cBuildSlice at hc
  split at hc
  · rename_i e hu
    split at hc
    · rename_i sz z ps hsz hz hp
      split at hc
      · rename_i hl
        obtain ⟨hl, hzl⟩ := hl
        cases hc
        refine ⟨e, z, ps, rfl, fun n cs hn hcs => ?_⟩
        obtain ⟨zv, h1, h2⟩ := run_zeT hz K.w
        obtain ⟨_, _, _, hce⟩ := szT_some hsz
        have hzs : zv.cells.size = sz := by have := (h2 K).length; simpa [hzl] using this
        rw [rep_eq] at hcs
        have hz0 : VRs G.P K (List.replicate len z).flatten ((Array.range (len * sz)).map (zv.cells[· % zv.cells.size]!)).toList := by
          rw [range_mod _ _ _ hzs]; exact (h2 K).replicate len
        have hpl : ∀ (i : Nat) (q : Nat × Nat), elemPl ((szT G.P e).getD 0) i = some q → (fun i => some (i * sz, sz) : Nat → Option (Nat × Nat)) i = some q := fun i q h => by rw [hsz] at h; exact h
        obtain ⟨cells, h3, h4⟩ := fill_ok hco hpl parts.toList hp hz0 hcs
        have hw : cells.size = len * sz := by
          have h5 := h4.length
          have key : ∀ (ps : Parts) (c c' : List AV), fillParts stk vs ps c = some c' → c'.length = c.length := by
            intro ps
            induction ps with
            | nil => intro c c' h; cases h; rfl
            | cons p ps ih =>
              intro c c' h
              have h' : ob (p.2 stk vs) (fun v => bif_ (Nat.beq (lenL v.cells) p.1.2) (ob (setL p.1.1 v.cells c) (fillParts stk vs ps)) none) = some c' := h
              simp only [ob_some, bif_none, setL_eq] at h'
              obtain ⟨v, _, _, c1, h6, h7⟩ := h'
              split at h6
              · cases h6; rw [ih _ _ h7]; simp; omega
              · cases h6
          have h6 := key ps _ _ hcs
          simp only [Array.length_toList, List.length_flatten, List.map_replicate, List.sum_replicate_nat, hzl] at h5 h6
          omega
        refine ⟨_, { K.w with heap := K.w.heap.push (.cells cells e (0, 0)) }, _, ?_, ⟨rfl, FrW.push rfl rfl rfl rfl⟩, VR.newSlice rfl (Nat.le_refl _) (by rw [hce]; omega), BR.ofRow rfl (FrW.push rfl rfl rfl rfl) hn h4⟩
        by_cases h0 : len * sz = 0
        · have r0 : Array.range 0 = #[] := by simp
          have e2 : Instr.fill (fun i => some (i * sz, sz)) #[] (parts.toList.map fun p => (p.1, ρ p.2)) = some cells := by
            rw [← h3]; congr 1
            rw [h0, r0]; simp
          simp [Instr.buildSlice, run_underlying hu, run_szT hsz, h0, r0]
          rw [e2]
          simp [run_newRow]
        · simp [Instr.buildSlice, run_underlying hu, run_szT hsz, h0, h1, show ¬ (16777216 < len * sz) by omega]
          rw [h3]
          simp [run_newRow]
      · cases hc
    · cases hc
  · cases hc

theorem mks_ok {n sz by_ len m : Nat} {t e : TypeId} {z : List AV} {k k' : IntKind} (hu : G.P.underlying t = some (.slice e)) (hsz : szT G.P e = some sz) (hby : byT G.P e = some by_) (hz : zeT G.P e = some z) (hzl : z.length = sz) (hn : ¬ K.D n)
    (hlm : len ≤ m) (hr : roomy m by_ = true) : NewP G K n (Instr.makeSlice t (.int k (len : Int)) (.int k' (m : Int))) (.msl e n 0 len) (.row (rep z len) e) := by
  obtain ⟨zv, h1, h2⟩ := run_zeT hz K.w
  obtain ⟨i, hi1, hi2, hce⟩ := szT_some hsz
  have hzs : zv.cells.size = sz := by have := (h2 K).length; simpa [hzl] using this
  have hb : i.bytes = by_ := by unfold byT at hby; rw [hi1] at hby; simpa using hby
  simp only [roomy, Bool.and_eq_true, Nat.ble_eq] at hr
  have hwr : IntKind.i64.wrap (len : Int) = len := IntWalk.i64_in _ (by omega)
  have hwm : IntKind.i64.wrap (m : Int) = m := IntWalk.i64_in _ (by omega)
  have hroom : ∀ n, (askRoom n).run G.P K.w = .ok () K.w := fun n => by unfold askRoom; split <;> rfl
  have r0 : Array.range 0 = #[] := by simp
  have hr1 : ¬ ((281474976710656 : Int) < (by_ : Int) * (m : Int)) := by
    have : by_ * m ≤ 1099511627776 := by rw [Nat.mul_comm]; exact hr.1
    have h3 : ((by_ * m : Nat) : Int) ≤ 1099511627776 := by omega
    rw [Int.natCast_mul] at h3
    omega
  have hlt : ¬ ((m : Int) < (len : Int)) := by omega
  rw [rep_eq]
  by_cases h0 : m * sz = 0
  · refine ⟨_, { K.w with heap := K.w.heap.push (.cells #[] e (0, 0)) }, _, ?_, ⟨rfl, FrW.push rfl rfl rfl rfl⟩, VR.newSlice rfl hlm (by rw [hce]; simp; omega), BR.ofRow rfl (FrW.push rfl rfl rfl rfl) hn ?_⟩
    · simp [Instr.makeSlice, run_underlying hu, asInt, asIntOf, typeInfo, hi1, hb, hwr, hwm, hroom, run_szT hsz, h0, hr1, r0, show ¬ ((m : Int) < 0) by omega, show ¬ ((len : Int) < 0) by omega, hlt, Nat.not_lt.mpr hlm, run_newRow]
    · have : (List.replicate len z).flatten = [] := by
        apply List.eq_nil_of_length_eq_zero; simp [hzl]
        rcases Nat.mul_eq_zero.mp h0 with h | h
        · have : len = 0 := by omega
          simp [this]
        · simp [h]
      rw [this]; exact .nil
  · refine ⟨_, { K.w with heap := K.w.heap.push (.cells ((Array.range (m * sz)).map (zv.cells[· % zv.cells.size]!)) e (0, 0)) }, _, ?_, ⟨rfl, FrW.push rfl rfl rfl rfl⟩, VR.newSlice rfl hlm (by rw [hce]; simp), BR.ofRowP rfl (FrW.push rfl rfl rfl rfl) hn ((h2 K).replicate len) (r := (List.replicate (m - len) zv.cells.toList).flatten) ?_⟩
    · simp [Instr.makeSlice, run_underlying hu, asInt, asIntOf, typeInfo, hi1, hb, hwr, hwm, hroom, run_szT hsz, h0, hr1, h1, show ¬ ((m : Int) < 0) by omega, show ¬ ((len : Int) < 0) by omega, hlt, Nat.not_lt.mpr hlm, run_newRow]
    · rw [range_mod _ _ _ hzs, ← List.flatten_append, List.replicate_append_replicate, Nat.add_sub_cancel' hlm]

end
end Hx
