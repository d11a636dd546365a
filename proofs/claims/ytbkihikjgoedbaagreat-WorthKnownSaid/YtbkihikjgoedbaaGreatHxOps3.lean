/- Slicing, equality, maps, composite values, lengths. -/
import Derived.Test.YtbkihikjgoedbaaGreatHxOps2
namespace Hx
open Go

section
variable {G : Gx} {K : Kx} {h : Heap} {ks : List Nat}

/-- a slice bound, as a value -/
def BoundV (d : Nat) (lo : Option Value) (l : Nat) : Prop := (lo = none ∧ l = d) ∨ ∃ k, lo = some (.int k (l : Int))

theorem run_sliceBound {P : Program} {w : World} {k : IntKind} {n m : Nat} {c : BoundsCode} (hn : n ≤ m) : (Instr.sliceBound (.int k (n : Int)) m c).run P w = .ok n w := by
  simp [Instr.sliceBound, asIntOf, hn]
theorem run_sliceBounds {P : Program} {w : World} {s : Bool} {len cap l u : Nat} {lo hi : Option Value} (hl : BoundV 0 lo l) (hu : BoundV len hi u) (h1 : l ≤ u) (h2 : u ≤ cap) :
    (Instr.sliceBounds s len cap lo hi none).run P w = .ok (l, u, cap) w := by
  rcases hl with ⟨rfl, rfl⟩ | ⟨k, rfl⟩ <;> rcases hu with ⟨rfl, rfl⟩ | ⟨k', rfl⟩
  · simp [Instr.sliceBounds]
  · simp [Instr.sliceBounds, run_sliceBound h2]
  · simp [Instr.sliceBounds, run_sliceBound h1]
  · simp [Instr.sliceBounds, run_sliceBound h2, run_sliceBound h1]

theorem slc_ok {v r : AV} {x : Value} {t e sz : Nat} {lo hi : Option Value} {l u len : Nat} (hu : G.P.underlying t = some (.slice e)) (hn : szT G.P e = some sz)
    (hv : VR G.P K v x) (hlen : lenA v = some len) (hlo : BoundV 0 lo l) (hhi : BoundV len hi u) (hc : slcA e sz v l u len = some r) : YP G.P K (Instr.sliceAt t x lo hi none) r := by
  simp only [slcA, bif_none, Bool.and_eq_true, Nat.ble_eq] at hc
  obtain ⟨⟨h1, h2⟩, hc⟩ := hc
  obtain ⟨_, _, _, hce⟩ := szT_some hn
  have hp : ∀ (a : Option Addr) (cap : Nat), len ≤ cap → (Instr.sliceAt t (.slice a len cap) lo hi none).run G.P K.w =
      .ok (.slice (if cap = l then a else a.map (·.add (l * sz))) (u - l) (cap - l)) K.w := fun a cap hcap => by
    simp [Instr.sliceAt, run_underlying hu, Instr.slice, run_sliceBounds hlo hhi h1 (Nat.le_trans h2 hcap), run_szT hn]
  cases hv <;> simp only [lenA, Option.some.injEq, reduceCtorEq] at hlen <;> subst hlen <;> simp only [fN_eq, ob_some, bif_none, Option.some.injEq, reduceCtorEq] at hc
  case nils =>
    subst hc
    have : u = 0 := by omega
    have : l = 0 := by omega
    subst_vars
    exact ⟨_, hp none 0 (Nat.le_refl _), by simpa using VR.nils⟩
  case emp0 =>
    subst hc
    have : u = 0 := by omega
    have : l = 0 := by omega
    subst_vars
    exact ⟨_, hp none 0 (Nat.le_refl _), by simpa using VR.emp0⟩
  case emp1 a cap =>
    subst hc
    have : u = 0 := by omega
    have : l = 0 := by omega
    subst_vars
    refine ⟨_, hp (some a) cap (Nat.zero_le _), ?_⟩
    split
    · exact VR.emp1 _ _
    · exact VR.emp1 _ _
  case msl e' b o n cap c t' fr hd hcap h3 h4 =>
    obtain ⟨he, rfl⟩ := hc
    rw [Nat.beq_eq] at he; subst he
    refine ⟨_, hp _ cap hcap, ?_⟩
    by_cases hcl : cap = l
    · rw [if_pos hcl]
      have e1 : u - l = 0 := by omega
      have e2 : cap - l = 0 := by omega
      rw [e1, e2]
      exact .msl0 _ _ _ _ hd
    · rw [if_neg hcl]
      simp only [Option.map_some, addr_add]
      rw [show o + K.sh b + l * sz = o + l * sz + K.sh b by omega]
      refine .msl _ _ _ _ _ c t' fr hd (by omega) h3 ?_
      rw [hce] at h4 ⊢
      have : l * sz + (cap - l) * sz = cap * sz := by rw [← Nat.add_mul]; congr 1; omega
      omega
  case msl0 e' b o a hd =>
    obtain ⟨he, rfl⟩ := hc
    rw [Nat.beq_eq] at he; subst he
    have : u = 0 := by omega
    have : l = 0 := by omega
    subst_vars
    refine ⟨_, hp (some a) 0 (Nat.zero_le _), ?_⟩
    simp only [if_true, Nat.sub_self]
    exact .msl0 _ _ _ _ hd
  case isl cs n b q cap cvs h3 h4 h5 h6 h7 =>
    obtain ⟨cs', hcs, rfl⟩ := hc
    obtain ⟨h8, rfl⟩ := cut_some.1 hcs
    refine ⟨_, hp _ cap h7, ?_⟩
    by_cases hcl : cap = l
    · rw [if_pos hcl]
      have e1 : u - l = 0 := by omega
      rw [e1]
      refine .isl _ _ _ _ _ [] (by simpa using VRs.nil) (fun i v hi => by simp at hi) h5 h6 (by omega)
    · rw [if_neg hcl]
      simp only [Option.map_some, addr_add]
      exact .isl _ _ _ _ _ _ ((h3.drop _).take _) (h4.cut _ _) h5 h6 (by omega)

theorem run_sliceBounds3 {P : Program} {w : World} {s : Bool} {len cap l u m : Nat} {lo : Option Value} {k k' : IntKind} (hl : BoundV 0 lo l) (h1 : l ≤ u) (h2 : u ≤ m) (h3 : m ≤ cap) :
    (Instr.sliceBounds s len cap lo (some (.int k (u : Int))) (some (.int k' (m : Int)))).run P w = .ok (l, u, m) w := by
  rcases hl with ⟨rfl, rfl⟩ | ⟨k, rfl⟩
  · simp [Instr.sliceBounds, run_sliceBound h3, run_sliceBound h2]
  · simp [Instr.sliceBounds, run_sliceBound h3, run_sliceBound h2, run_sliceBound h1]

theorem slc3_ok {v r : AV} {x : Value} {t e sz : Nat} {lo : Option Value} {l u m len : Nat} {k k' : IntKind} (hu : G.P.underlying t = some (.slice e)) (hn : szT G.P e = some sz)
    (hv : VR G.P K v x) (hlen : lenA v = some len) (hlo : BoundV 0 lo l) (hum : u ≤ m) (hml : m ≤ len) (hc : slcA e sz v l u len = some r) : YP G.P K (Instr.sliceAt t x lo (some (.int k (u : Int))) (some (.int k' (m : Int)))) r := by
  simp only [slcA, bif_none, Bool.and_eq_true, Nat.ble_eq] at hc
  obtain ⟨⟨h1, h2⟩, hc⟩ := hc
  obtain ⟨_, _, _, hce⟩ := szT_some hn
  have hp : ∀ (a : Option Addr) (cap : Nat), len ≤ cap → (Instr.sliceAt t (.slice a len cap) lo (some (.int k (u : Int))) (some (.int k' (m : Int)))).run G.P K.w =
      .ok (.slice (if m = l then a else a.map (·.add (l * sz))) (u - l) (m - l)) K.w := fun a cap hcap => by
    simp [Instr.sliceAt, run_underlying hu, Instr.slice, run_sliceBounds3 hlo h1 hum (Nat.le_trans hml hcap), run_szT hn]
  cases hv <;> simp only [lenA, Option.some.injEq, reduceCtorEq] at hlen <;> subst hlen <;> simp only [fN_eq, ob_some, bif_none, Option.some.injEq, reduceCtorEq] at hc
  case nils =>
    subst hc
    have : u = 0 := by omega
    have : l = 0 := by omega
    have : m = 0 := by omega
    subst_vars
    exact ⟨_, hp none 0 (Nat.le_refl _), by simpa using VR.nils⟩
  case emp0 =>
    subst hc
    have : u = 0 := by omega
    have : l = 0 := by omega
    have : m = 0 := by omega
    subst_vars
    exact ⟨_, hp none 0 (Nat.le_refl _), by simpa using VR.emp0⟩
  case emp1 a cap =>
    subst hc
    have : u = 0 := by omega
    have : l = 0 := by omega
    have : m = 0 := by omega
    subst_vars
    refine ⟨_, hp (some a) cap (Nat.zero_le _), ?_⟩
    split
    · exact VR.emp1 _ _
    · exact VR.emp1 _ _
  case msl e' b o n cap c t' fr hd hcap h3 h4 =>
    obtain ⟨he, rfl⟩ := hc
    rw [Nat.beq_eq] at he; subst he
    refine ⟨_, hp _ cap hcap, ?_⟩
    by_cases hcl : m = l
    · rw [if_pos hcl]
      have e1 : u - l = 0 := by omega
      have e2 : m - l = 0 := by omega
      rw [e1, e2]
      exact .msl0 _ _ _ _ hd
    · rw [if_neg hcl]
      simp only [Option.map_some, addr_add]
      rw [show o + K.sh b + l * sz = o + l * sz + K.sh b by omega]
      refine .msl _ _ _ _ _ c t' fr hd (by omega) h3 ?_
      rw [hce] at h4 ⊢
      have : l * sz + (m - l) * sz = m * sz := by rw [← Nat.add_mul]; congr 1; omega
      have : m * sz ≤ cap * sz := Nat.mul_le_mul_right _ (by omega)
      omega
  case msl0 e' b o a hd =>
    obtain ⟨he, rfl⟩ := hc
    rw [Nat.beq_eq] at he; subst he
    have : u = 0 := by omega
    have : l = 0 := by omega
    have : m = 0 := by omega
    subst_vars
    refine ⟨_, hp (some a) 0 (Nat.zero_le _), ?_⟩
    simp only [if_true, Nat.sub_self]
    exact .msl0 _ _ _ _ hd
  case isl cs n b q cap cvs h3 h4 h5 h6 h7 =>
    obtain ⟨cs', hcs, rfl⟩ := hc
    obtain ⟨h8, rfl⟩ := cut_some.1 hcs
    refine ⟨_, hp _ cap h7, ?_⟩
    by_cases hcl : m = l
    · rw [if_pos hcl]
      have e1 : u - l = 0 := by omega
      rw [e1]
      refine .isl _ _ _ _ _ [] (by simpa using VRs.nil) (fun i v hi => by simp at hi) h5 h6 (by omega)
    · rw [if_neg hcl]
      simp only [Option.map_some, addr_add]
      exact .isl _ _ _ _ _ _ ((h3.drop _).take _) (h4.cut _ _) h5 h6 (by omega)

theorem sla_ok (hr : HR G K h ks) {v r : AV} {x : Value} {t e sz n : Nat} {lo hi : Option Value} {l u : Nat} (hu : G.P.underlying t = some (.array n e)) (hn : szT G.P e = some sz)
    (hv : VR G.P K v x) (hlo : BoundV 0 lo l) (hhi : BoundV n hi u) (hc : slaA h e sz n v l u = some r) : YP G.P K (Instr.sliceAt t x lo hi none) r := by
  simp only [slaA, bif_none, Bool.and_eq_true, Nat.ble_eq] at hc
  obtain ⟨⟨h1, h2⟩, hc⟩ := hc
  obtain ⟨_, _, _, hce⟩ := szT_some hn
  have hp : ∀ (a : Addr), (Instr.sliceAt t (.pointer (some a)) lo hi none).run G.P K.w =
      .ok (.slice (some (if n = l then a else a.add (l * sz))) (u - l) (n - l)) K.w := fun a => by
    simp [Instr.sliceAt, run_underlying hu, Instr.sureAddr, run_sliceBounds hlo hhi h1 h2, run_szT hn]
  cases hv <;> simp only [fN_eq, ob_some, bif_none, Nat.ble_eq, Option.some.injEq, reduceCtorEq] at hc
  case ptr b o hd =>
    obtain ⟨row, hg, hle, rfl⟩ := hc
    rw [lenL_eq] at hle
    obtain ⟨c, cvs, h3, h4, h5, h6⟩ := hr.blk b _ hd (getRow_some.1 hg)
    refine ⟨_, hp _, ?_⟩
    by_cases hcl : n = l
    · rw [if_pos hcl]
      have e1 : u - l = 0 := by omega
      have e2 : n - l = 0 := by omega
      rw [e1, e2]
      exact .msl0 _ _ _ _ hd
    · rw [if_neg hcl, addr_add, show o + K.sh b + l * sz = o + l * sz + K.sh b by omega]
      refine .msl _ _ _ _ _ c _ _ hd (by omega) h3 ?_
      rw [hce]
      have : l * sz + (n - l) * sz = n * sz := by rw [← Nat.add_mul]; congr 1; omega
      omega
  case iptr cs o b q cvs h3 h4 h5 h6 =>
    obtain ⟨cs', hcs, rfl⟩ := hc
    obtain ⟨h8, rfl⟩ := cut_some.1 hcs
    refine ⟨_, hp _, ?_⟩
    by_cases hcl : n = l
    · rw [if_pos hcl]
      have e1 : u - l = 0 := by omega
      rw [e1]
      exact .isl _ _ _ _ _ [] (by simpa using VRs.nil) (fun i v hi => by simp at hi) h5 h6 (by omega)
    · rw [if_neg hcl, addr_add, Nat.add_assoc]
      exact .isl _ _ _ _ _ _ ((h3.drop _).take _) (h4.cut _ _) h5 h6 (by omega)

theorem lens_ok {v r : AV} {x : Value} {t e ty : TypeId} (hu : G.P.underlying t = some (.slice e)) (hv : VR G.P K v x) (hc : lensA v = some r) : YP G.P K (Builtin.len_ #[t] ty #[x]) r := by
  simp only [lensA, ob_some, fN_eq, Option.some.injEq] at hc
  obtain ⟨n, h1, rfl⟩ := hc
  cases hv <;> simp only [lenA, Option.some.injEq, reduceCtorEq] at h1 <;> try subst h1
  all_goals exact ⟨_, by simp [Builtin.len_, run_underlying hu]; rfl, .int _ _⟩


/-! The number of entries; looking a key up. -/
theorem MR.length {l : List (AV × AV × Nat)} {r : List MapEntry} {P : Program} {K : Kx} (hm : MR P K l r) : r.length = l.length := by
  induction hm with
  | nil => rfl
  | cons => simp [*]
theorem HR.map (hr : HR G K h ks) {b : Nat} {es : List (AV × AV × Nat)} {n : Nat} (hd : K.D b) (hg : h.get b = some (.mp es n)) :
    ∃ ces, K.w.heap[K.bl b]? = some (.map ces n) ∧ MR G.P K es ces.toList ∧ Stamps es n := hr.blk b _ hd hg
theorem run_getObj_map {P : Program} {w : World} {b : Nat} {es : Array MapEntry} {n : Nat} (hb : w.heap[b]? = some (.map es n)) : (getObj b).run P w = .ok (.map es n) w := by
  simp [getObj, Sem.run, hb]

theorem lenm_ok (hr : HR G K h ks) {v r : AV} {x : Value} {t k e ty : TypeId} (hu : G.P.underlying t = some (.map k e)) (hv : VR G.P K v x) (hc : lenmA h v = some r) : YP G.P K (Builtin.len_ #[t] ty #[x]) r := by
  cases hv <;> simp only [lenmA, ob_some, fN_eq, lenL_eq, Option.some.injEq, reduceCtorEq] at hc
  case nilm => subst hc; exact ⟨_, by simp [Builtin.len_, run_underlying hu]; rfl, .int _ _⟩
  case mp b hd =>
    obtain ⟨m, h1, rfl⟩ := hc
    obtain ⟨ces, h2, h3, _⟩ := hr.map hd (getMap_some.1 h1)
    have := h3.length
    refine ⟨goInt ces.size, by simp [Builtin.len_, run_underlying hu, run_getObj_map h2], ?_⟩
    have e : ces.size = m.1.length := by simpa using this
    rw [e]
    exact .int _ _

end
end Hx
