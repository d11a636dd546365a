/- The operations that read: what the machine computes is what the model computes. -/
import Derived.Test.YtbkihikjgoedbaaGreatHxOps1
import Derived.Test.YtbkihikjgoedbaaGreatHxComp
namespace Hx
open Go

theorem addr_add (b o j : Nat) : (⟨b, o, none⟩ : Addr).add j = ⟨b, o + j, none⟩ := by
  unfold Addr.add
  split
  · simp_all
  · rfl
theorem cell_of {w : World} {b : Nat} {c : Array Value} {e : TypeId} {fr : Nat × Nat} (h : w.heap[b]? = some (.cells c e fr)) (i : Nat) : w.cell? ⟨b, i, none⟩ = c[i]? := by
  simp [World.cell?, h]

section
variable {G : Gx} {K : Kx} {h : Heap} {ks : List Nat}

theorem getRow_some {b : Nat} {r : List AV × TypeId} : getRow h b = some r ↔ h.get b = some (.row r.1 r.2) := by
  unfold getRow
  rw [ob_some]
  constructor
  · rintro ⟨x, hx, hm⟩
    cases x <;> simp at hm
    subst hm; exact hx
  · intro hg; exact ⟨_, hg, rfl⟩
theorem getMap_some {b : Nat} {r : List (AV × AV × Nat) × Nat} : getMap h b = some r ↔ h.get b = some (.mp r.1 r.2) := by
  unfold getMap
  rw [ob_some]
  constructor
  · rintro ⟨x, hx, hm⟩
    cases x <;> simp at hm
    subst hm; exact hx
  · intro hg; exact ⟨_, hg, rfl⟩

theorem cut_some {l r : List AV} {o n : Nat} : cut l o n = some r ↔ n ≤ l.length - o ∧ r = (l.drop o).take n := by
  rw [cut_eq]
  constructor
  · intro hc; split at hc
    · rename_i hn; cases hc; exact ⟨hn, rfl⟩
    · cases hc
  · rintro ⟨hn, rfl⟩; rw [if_pos hn]

/-- the cells of a row, in the world -/
theorem HR.cellsAt (hr : HR G K h ks) {b : Nat} {cs : List AV} {e : TypeId} (hd : K.D b) (hg : h.get b = some (.row cs e)) :
    ∃ cvs, VRs G.P K cs cvs ∧ K.at (K.bl b) (K.sh b) cvs := by
  obtain ⟨c, cvs, h1, h2, h3, h4⟩ := hr.blk b _ hd hg
  exact ⟨cvs, h2, fun i v hv => by rw [cell_of h1]; exact h3 i v hv⟩

theorem Kx.at.cut {K : Kx} {b q : Nat} {cvs : List Value} (h : K.at b q cvs) (o n : Nat) : K.at b (q + o) ((cvs.drop o).take n) := by
  intro i v hv
  rw [List.getElem?_take] at hv
  split at hv
  · rw [List.getElem?_drop] at hv
    have := h (o + i) v hv
    rwa [← Nat.add_assoc] at this
  · cases hv

theorem loadN_ok (hr : HR G K h ks) {n : Nat} {v : AV} {x : Value} {l : List AV} (hv : VR G.P K v x) (hl : loadN h n v = some l) :
    ∃ b o cvs, x = .pointer (some ⟨b, o, none⟩) ∧ l.length = n ∧ VRs G.P K l cvs ∧ K.at b o cvs := by
  cases hv <;> simp only [loadN, ob_some, cut_some, reduceCtorEq] at hl
  case ptr b o hd =>
    obtain ⟨r, hg, hn, rfl⟩ := hl
    obtain ⟨cvs, h1, h2⟩ := hr.cellsAt hd (getRow_some.1 hg)
    refine ⟨_, _, _, rfl, ?_, (h1.drop o).take n, ?_⟩
    · simp; omega
    · rw [Nat.add_comm o]; exact h2.cut o n
  case iptr cs o b q cvs h1 h2 h3 h4 =>
    obtain ⟨hn, rfl⟩ := hl
    exact ⟨_, _, _, rfl, by simp; omega, (h1.drop o).take n, h2.cut o n⟩

theorem run_loadCells_at {P : Program} (w : World) (b o : Nat) (cvs : List Value) (hc : ∀ i v, cvs[i]? = some v → w.cell? ⟨b, o + i, none⟩ = some v) (n : Nat) (hn : cvs.length = n) :
    (loadCells ⟨b, o, none⟩ n).run P w = .ok cvs.toArray w := by
  subst hn
  exact run_loadCells_list w _ cvs fun j v hv => by rw [addr_add]; exact hc j v hv

theorem run_isAgg {P : Program} {t : TypeId} {g : Bool} (hg : agT P t = some g) (w : World) : (isAgg t).run P w = .ok g w := by
  unfold agT at hg
  cases hu : P.underlying t with
  | none => rw [hu] at hg; cases hg
  | some d =>
    rw [hu] at hg
    simp only [Option.map_some, Option.some.injEq] at hg
    subst hg
    simp only [isAgg, Sem.run_bind, run_underlying hu, Result.andThen]
    cases d <;> rfl
theorem szT_some {P : Program} {t : TypeId} {n : Nat} (hn : szT P t = some n) : ∃ i, P.info? t = some i ∧ i.size = n ∧ P.cellsOf t = n := by
  unfold szT at hn
  cases hi : P.info? t with
  | none => rw [hi] at hn; cases hn
  | some i => rw [hi] at hn; cases hn; exact ⟨i, rfl, rfl, by simp [Program.cellsOf, hi]⟩
theorem run_szT {P : Program} {t : TypeId} {n : Nat} (hn : szT P t = some n) (w : World) : (Go.sizeOf t).run P w = .ok n w := by
  obtain ⟨i, h1, h2, _⟩ := szT_some hn
  simp [Go.sizeOf, typeInfo, h1, h2]

theorem pack_some {g : Bool} {cs : List AV} {v : AV} (hp : pack g cs = some v) {cvs : List Value} {K : Kx} (hv : VRs G.P K cs cvs) :
    (g = true ∧ VR G.P K v (.agg cvs.toArray)) ∨ (g = false ∧ ∃ x, cvs = [x] ∧ VR G.P K v x) := by
  unfold pack at hp
  rw [bif_eq] at hp
  cases g with
  | true => simp at hp; subst hp; exact .inl ⟨rfl, .agg _ _ hv⟩
  | false =>
    simp at hp
    split at hp
    · cases hp
      cases hv with
      | cons _ x _ r h1 h2 => cases h2; exact .inr ⟨rfl, x, rfl, h1⟩
    · cases hp

theorem run_loadVar_at {P : Program} {w : World} {t : TypeId} {n b o : Nat} {g : Bool} {cvs : List Value} (hn : szT P t = some n) (hg : agT P t = some g)
    (hc : ∀ i v, cvs[i]? = some v → w.cell? ⟨b, o + i, none⟩ = some v) (hl : cvs.length = n) :
    (g = true → (loadVar t ⟨b, o, none⟩).run P w = .ok (.agg cvs.toArray) w) ∧ (g = false → ∀ x, cvs = [x] → (loadVar t ⟨b, o, none⟩).run P w = .ok x w) := by
  constructor
  · rintro rfl
    simp [loadVar, run_isAgg hg, run_szT hn, run_loadCells_at w b o cvs hc n hl]
  · rintro rfl x rfl
    have := hc 0 x rfl
    rw [Nat.add_zero] at this
    simp [loadVar, run_isAgg hg, this]

theorem load_ok (hr : HR G K h ks) {t : TypeId} {n : Nat} {g : Bool} (hn : szT G.P t = some n) (hg : agT G.P t = some g) {v : AV} {x : Value} (hv : VR G.P K v x) {l : List AV} (hl : loadN h n v = some l)
    {u : AV} (hp : pack g l = some u) : YP G.P K (Instr.loadAt t x) u := by
  obtain ⟨b, o, cvs, rfl, hlen, h1, h2⟩ := loadN_ok hr hv hl
  have hlen' : cvs.length = n := h1.length.trans hlen
  have hlv := run_loadVar_at hn hg h2 hlen'
  rcases pack_some hp h1 with ⟨rfl, h3⟩ | ⟨rfl, y, rfl, h3⟩
  · exact ⟨_, by simp [Instr.loadAt, Instr.sureAddr, hlv.1 rfl], h3⟩
  · exact ⟨_, by simp [Instr.loadAt, Instr.sureAddr, hlv.2 rfl y rfl], h3⟩

/-! constants -/
theorem ofCell_ok {P : Program} {K : Kx} {c : Value} {v : AV} (hc : ofCell c = some v) : VR P K v c := by
  unfold ofCell at hc
  split at hc <;> cases hc
  · exact .bool _
  · exact .int _ _
  · exact .str _
  · exact .nilp
  · exact .nils
  · exact .nilm
  · exact .nilf
  · exact .nili
theorem ofCells_ok {P : Program} {K : Kx} {l : List Value} {r : List AV} (hc : ofCells l = some r) : VRs P K r l := by
  induction l generalizing r with
  | nil => cases hc; exact .nil
  | cons c l ih =>
    unfold ofCells at hc
    split at hc
    · rename_i x y hx hy; cases hc; exact .cons _ _ _ _ (ofCell_ok hx) (ih hy)
    · cases hc
theorem ofValue_ok {P : Program} {K : Kx} {c : Value} {v : AV} (hc : ofValue c = some v) : VR P K v c := by
  unfold ofValue at hc
  split at hc
  · rename_i cs
    cases ho : ofCells cs.toList with
    | none => rw [ho] at hc; cases hc
    | some l => rw [ho] at hc; cases hc; have := VR.agg (P := P) (K := K) _ _ (ofCells_ok ho); simpa using this
  · rename_i cs
    cases ho : ofCells cs.toList with
    | none => rw [ho] at hc; cases hc
    | some l => rw [ho] at hc; cases hc; have := VR.tup (P := P) (K := K) _ _ (ofCells_ok ho); simpa using this
  · exact ofCell_ok hc
theorem zeT_some {P : Program} {t : TypeId} {l : List AV} (hz : zeT P t = some l) : ∃ i z, P.info? t = some i ∧ i.zero = some z ∧ ∀ K, VRs P K l z.cells.toList := by
  unfold zeT at hz
  split at hz
  · split at hz
    · rename_i i hi _ z hz'; exact ⟨i, z, hi, hz', fun K => ofCells_ok hz⟩
    · cases hz
  · cases hz
theorem run_zeT {P : Program} {t : TypeId} {l : List AV} (hz : zeT P t = some l) (w : World) : ∃ z, (zeroValue t).run P w = .ok z w ∧ ∀ K, VRs P K l z.cells.toList := by
  obtain ⟨i, z, h1, h2, h3⟩ := zeT_some hz
  exact ⟨z, by simp [zeroValue, typeInfo, h1, h2], h3⟩
theorem run_z1T {P : Program} {t : TypeId} {v : AV} (hz : z1T P t = some v) (w : World) : ∃ z, (zeroValue t).run P w = .ok z w ∧ ∀ K, VR P K v z := by
  unfold z1T at hz
  split at hz
  · split at hz
    · rename_i i hi _ z hz'; exact ⟨z, by simp [zeroValue, typeInfo, hi, hz'], fun K => ofValue_ok hz⟩
    · cases hz
  · cases hz

/-! addresses -/
theorem chk_ok {v u : AV} {x : Value} (hv : VR G.P K v x) (hc : chkA v = some u) : u = v ∧ ((∃ a, x = .pointer (some a)) ∨ (∃ f a b, x = .func (.func f) a b) ∨ ∃ l a b, x = .func (.yield l) a b) := by
  cases hv <;> simp [chkA] at hc <;> simp [hc]

theorem fad_ok {v u : AV} {x : Value} {s : TypeId} {fs : Array Field} {f : Nat} {fd : Field} {n : Nat} (hu : G.P.underlying s = some (.struct fs)) (hf : fs[f]? = some fd) (hn : szT G.P fd.type = some (n + 1))
    (hv : VR G.P K v x) (hc : fadA fd.offset v = some u) : YP G.P K (Instr.fieldAt s x f) u := by
  have hp : ∀ a : Addr, (fieldPlace a fd).run G.P K.w = .ok (a.add fd.offset) K.w := fun a => by simp [fieldPlace, run_szT hn]
  cases hv <;> simp only [fadA, fN_eq, Option.some.injEq, reduceCtorEq] at hc <;> subst hc
  case ptr b o hd => exact ⟨.pointer (some ⟨K.bl b, o + K.sh b + fd.offset, none⟩), by simp [Instr.fieldAt, run_underlying hu, hf, Instr.sureAddr, hp, addr_add], by rw [show o + K.sh b + fd.offset = o + fd.offset + K.sh b by omega]; exact .ptr _ _ hd⟩
  case iptr cs o b q cvs h1 h2 h3 h4 => exact ⟨.pointer (some ⟨b, q + o + fd.offset, none⟩), by simp [Instr.fieldAt, run_underlying hu, hf, Instr.sureAddr, hp, addr_add], by rw [Nat.add_assoc]; exact .iptr _ _ _ _ _ h1 h2 h3 h4⟩

theorem natOf_ok {v : AV} {x : Value} {n : Nat} (hv : VR G.P K v x) (hn : natOf v = some n) : ∃ k, x = .int k (n : Int) := by
  cases hv <;> simp [natOf] at hn
  rename_i k i
  cases i <;> simp at hn
  subst hn; exact ⟨k, rfl⟩

theorem ixs_ok {v u : AV} {x y : Value} {t e : TypeId} {sz i : Nat} {k : IntKind} (hu : G.P.underlying t = some (.slice e)) (hn : szT G.P e = some sz)
    (hv : VR G.P K v x) (hy : y = .int k (i : Int)) (hc : ixsA sz v i = some u) : YP G.P K (Instr.indexAt t x y) u := by
  subst hy
  have hp : ∀ (a : Addr) (len cap : Nat), i < len → (Instr.indexAt t (.slice (some a) len cap) (.int k (i : Int))).run G.P K.w = .ok (.pointer (some (a.add (i * sz)))) K.w := fun a len cap hl => by
    simp [Instr.indexAt, asIntOf, run_underlying hu, run_szT hn, hl]
  cases hv <;> simp only [ixsA, bif_none, fN_eq, Nat.ble_eq, Option.some.injEq, reduceCtorEq] at hc
  case msl e' b o n cap c t' fr hd h1 h2 h3 =>
    obtain ⟨hl, rfl⟩ := hc
    exact ⟨_, hp _ _ _ (by omega), by rw [addr_add, show o + K.sh b + i * sz = o + i * sz + K.sh b by omega]; exact .ptr _ _ hd⟩
  case msl0 e' b o a hd =>
    obtain ⟨hl, _⟩ := hc
    omega
  case isl cs n b q cap cvs h1 h2 h3 h4 h5 =>
    obtain ⟨hl, rfl⟩ := hc
    exact ⟨_, hp _ _ _ (by omega), by rw [addr_add]; exact .iptr _ _ _ _ _ h1 h2 h3 h4⟩

theorem ixa_ok {v u : AV} {x y : Value} {t e : TypeId} {len sz i : Nat} {k : IntKind} (hu : G.P.underlying t = some (.array len e)) (hn : szT G.P e = some sz)
    (hv : VR G.P K v x) (hy : y = .int k (i : Int)) (hc : ixaA len sz v i = some u) : YP G.P K (Instr.indexAt t x y) u := by
  subst hy
  simp only [ixaA, bif_none, Nat.ble_eq] at hc
  obtain ⟨hl, hc⟩ := hc
  have hp : ∀ (a : Addr), (Instr.indexAt t (.pointer (some a)) (.int k (i : Int))).run G.P K.w = .ok (.pointer (some (a.add (i * sz)))) K.w := fun a => by
    have : i < len := by omega
    simp [Instr.indexAt, asIntOf, run_underlying hu, run_szT hn, this, Instr.sureAddr]
  cases hv <;> simp only [fN_eq, Option.some.injEq, reduceCtorEq] at hc <;> subst hc
  case ptr b o hd => exact ⟨_, hp _, by rw [addr_add, show o + K.sh b + i * sz = o + i * sz + K.sh b by omega]; exact .ptr _ _ hd⟩
  case iptr cs o b q cvs h1 h2 h3 h4 => exact ⟨_, hp _, by rw [addr_add, Nat.add_assoc]; exact .iptr _ _ _ _ _ h1 h2 h3 h4⟩

theorem extract_ok {P : Program} {K : Kx} {t : TypeId} {n o : Nat} {g : Bool} (hn : szT P t = some n) (hg : agT P t = some g) {cs l : List AV} {cvs : List Value} (hv : VRs P K cs cvs) (hl : cut cs o n = some l)
    {u : AV} (hp : pack g l = some u) : YP P K (Go.part t cvs.toArray o) u := by
  obtain ⟨h1, rfl⟩ := cut_some.1 hl
  have hv' := (hv.drop o).take n
  have hlen := hv.length
  rcases pack_some (G := ⟨P, fun _ => none, fun _ => False, 0⟩) hp hv' with ⟨rfl, h3⟩ | ⟨rfl, y, hy, h3⟩
  · refine ⟨_, by simp [Go.part, run_isAgg hg, run_szT hn]; rfl, ?_⟩
    simpa [List.take_drop] using h3
  · refine ⟨y, ?_, h3⟩
    have hy' : cvs[o]? = some y := by
      have : ((cvs.drop o).take n)[0]? = some y := by rw [hy]; rfl
      rw [List.getElem?_take] at this
      split at this
      · rw [List.getElem?_drop] at this; simpa using this
      · cases this
    simp [Go.part, run_isAgg hg, hy']

theorem fld_ok {v u : AV} {x : Value} {t : TypeId} {fs : Array Field} {f : Nat} {fd : Field} {n : Nat} {g : Bool} (hu : G.P.underlying t = some (.struct fs)) (hf : fs[f]? = some fd) (hn : szT G.P fd.type = some n)
    (hg : agT G.P fd.type = some g) (hv : VR G.P K v x) (hc : fldA fd.offset n g v = some u) : YP G.P K (Instr.field t x f) u := by
  cases hv <;> simp only [fldA, ob_some, reduceCtorEq] at hc
  case agg cs vs hv =>
    obtain ⟨l, hl, hp⟩ := hc
    obtain ⟨y, h1, h2⟩ := extract_ok hn hg hv hl hp
    exact ⟨y, by simp [Instr.field, run_underlying hu, hf, asAgg, h1], h2⟩

theorem ix_ok {v u : AV} {x y : Value} {t e : TypeId} {len sz i : Nat} {k : IntKind} {g : Bool} (hu : G.P.underlying t = some (.array len e)) (hn : szT G.P e = some sz) (hg : agT G.P e = some g)
    (hv : VR G.P K v x) (hy : y = .int k (i : Int)) (hc : ixA len sz g v i = some u) : YP G.P K (Instr.index t x y) u := by
  subst hy
  simp only [ixA, bif_none, Nat.ble_eq] at hc
  obtain ⟨hl, hc⟩ := hc
  cases hv <;> simp only [ob_some, reduceCtorEq] at hc
  case agg cs vs hv =>
    obtain ⟨l, hl', hp⟩ := hc
    obtain ⟨y, h1, h2⟩ := extract_ok hn hg hv hl' hp
    have : i < len := by omega
    exact ⟨y, by simp [Instr.index, run_underlying hu, asIntOf, this, run_szT hn, h1], h2⟩
theorem ixc_ok {v u : AV} {x y : Value} {t : TypeId} {i : Nat} {k : IntKind} (hu : G.P.underlying t = some .string)
    (hv : VR G.P K v x) (hy : y = .int k (i : Int)) (hc : ixcA v i = some u) : YP G.P K (Instr.index t x y) u := by
  subst hy
  cases hv <;> simp only [ixcA, ob_some, kI_eq, Option.some.injEq, reduceCtorEq] at hc
  case str s =>
    obtain ⟨b, hb, rfl⟩ := hc
    have hb' : s[i]? = some b := hb
    exact ⟨_, by simp [Instr.index, run_underlying hu, asIntOf, hb'], .int _ _⟩

theorem ext_ok {v u : AV} {x : Value} {i : Nat} (hv : VR G.P K v x) (hc : extA v i = some u) : YP G.P K (Instr.extract x i) u := by
  cases hv <;> simp only [extA, getL_eq, reduceCtorEq] at hc
  case tup cs vs hv =>
    obtain ⟨y, h1, h2⟩ := hv.get hc
    exact ⟨y, by simp [Instr.extract, h1], h2⟩

theorem tas_ok {v u z : AV} {x : Value} {xt t : TypeId} {ok : Bool} {d : TypeDesc} (hu : G.P.underlying t = some d) (hd : ∀ ms, d ≠ .interface ms) (hz : z1T G.P t = some z)
    (hv : VR G.P K v x) (hc : tasA t z ok v = some u) : YP G.P K (Instr.typeAssert x xt t ok) u := by
  obtain ⟨zv, hz1, hz2⟩ := run_z1T hz K.w
  have no : ok = true → ∀ (st dy : Option TypeId) (m : String), True := fun _ _ _ _ => trivial
  cases hv <;> simp only [tasA, reduceCtorEq] at hc
  case nili =>
    rw [bif_none] at hc
    obtain ⟨rfl, hc⟩ := hc
    cases hc
    refine ⟨.tuple #[zv, .bool false], ?_, VR.tup _ [zv, .bool false] (.cons _ _ _ _ (hz2 K) (.cons _ _ _ _ (.bool _) .nil))⟩
    cases d <;> first | exact absurd rfl (hd _) | simp [Instr.typeAssert, run_underlying hu, hz1]
  case ifc s w y hy =>
    rw [bif_eq] at hc
    by_cases hst : Nat.beq s t = true
    · rw [if_pos hst] at hc
      rw [Nat.beq_eq] at hst
      subst hst
      simp only [Option.some.injEq] at hc
      cases ok with
      | true =>
        simp [bif_] at hc; subst hc
        refine ⟨.tuple #[y, .bool true], ?_, VR.tup _ [y, .bool true] (.cons _ _ _ _ hy (.cons _ _ _ _ (.bool _) .nil))⟩
        cases d <;> first | exact absurd rfl (hd _) | simp [Instr.typeAssert, run_underlying hu]
      | false =>
        simp [bif_] at hc; subst hc
        refine ⟨y, ?_, hy⟩
        cases d <;> first | exact absurd rfl (hd _) | simp [Instr.typeAssert, run_underlying hu]
    · rw [if_neg hst] at hc
      have hne : s ≠ t := fun e => hst (by rw [Nat.beq_eq]; exact e)
      cases ok with
      | true =>
        simp [bif_] at hc; subst hc
        refine ⟨.tuple #[zv, .bool false], ?_, VR.tup _ [zv, .bool false] (.cons _ _ _ _ (hz2 K) (.cons _ _ _ _ (.bool _) .nil))⟩
        cases d <;> first | exact absurd rfl (hd _) | simp [Instr.typeAssert, run_underlying hu, hne, hz1]
      | false => simp [bif_] at hc

theorem conv_ok {v u : AV} {x : Value} {s t : TypeId} {k : IntKind} {d : TypeDesc} (hs : G.P.underlying s = some d) (hu : G.P.underlying t = some (.int k)) (hv : VR G.P K v x) (hc : convA k v = some u) :
    YP G.P K (convert s t x) u := by
  cases hv <;> simp only [convA, kI_eq, wrapF_eq, Option.some.injEq, reduceCtorEq] at hc
  case int k' n => subst hc; exact ⟨_, by simp [convert, run_underlying hs, run_underlying hu, Conv.intToInt], .int _ _⟩

theorem un_ok {v u : AV} {x : Value} {op : UnOp} (hv : VR G.P K v x) (hc : unop op v = some u) : YP G.P K (Op.unary op x) u := by
  cases hv <;> cases op <;> simp only [unop, kI_eq, kB_eq, wrapF_eq, bitsSlow, ob_some, Option.some.injEq, reduceCtorEq] at hc
  case int.neg k n => subst hc; exact ⟨_, by simp [Op.unary, Op.intArith], .int _ _⟩
  case int.xor k n => obtain ⟨m, h1, rfl⟩ := hc; subst h1; exact ⟨_, by simp [Op.unary, Op.intBits], .int _ _⟩
  case bool.not b => subst hc; exact ⟨_, by simp [Op.unary], .bool _⟩

theorem mm_ok {mx : Bool} {v : AV} {l : List AV} {u : AV} {x : Value} {xs : List Value} (hv : VR G.P K v x) (hl : VRs G.P K l xs) (hc : mmA mx v l = some u) :
    YP G.P K (xs.foldlM (if mx then Builtin.max2 else Builtin.min2) x) u := by
  induction l generalizing v x xs with
  | nil =>
    cases hl
    have : v = u := by simpa [mmA] using hc
    subst this
    exact ⟨x, by simp, hv⟩
  | cons y l ih =>
    cases hl with
    | cons _ y' _ r hy hr =>
      have hc' : ob (mm2 mx v y) (fun v => mmA mx v l) = some u := hc
      rw [ob_some] at hc'
      obtain ⟨z, hz, hc'⟩ := hc'
      cases hv <;> simp only [mm2, reduceCtorEq] at hz
      case int k a =>
        cases hy <;> simp only [mm2, bif_eq, Option.some.injEq, reduceCtorEq] at hz
        case int k' b =>
          subst hz
          obtain ⟨x', h1, h2⟩ := ih (x := .int k (if (if mx then ltI a b else ltI b a) = true then b else a)) (.int _ _) hr hc'
          refine ⟨x', ?_, h2⟩
          rw [← h1]
          cases mx <;> simp [List.foldlM_cons, Builtin.max2, Builtin.min2, ltI_eq]

end
end Hx
