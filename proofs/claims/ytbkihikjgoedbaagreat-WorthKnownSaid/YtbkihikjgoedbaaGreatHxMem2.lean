/- The operations that turn blocks: stores, copies, entries of maps. -/
import Derived.Test.YtbkihikjgoedbaaGreatHxMem1
namespace Hx
open Go

section
variable {G : Gx} {K : Kx} {h : Heap}

/-- an operation that turns memory -/
def WP (G : Gx) (K : Kx) (h : Heap) (s : Sem Value) (v : AV) (h' : Heap) : Prop :=
  ∃ x K', s.run G.P K.w = .ok x K'.w ∧ VR G.P K' v x ∧ Tn (fun i => h'.low ≤ i) h K K' ∧ HR G K' h' [] ∧ ∀ i, K'.D i → K.D i
/-- one without a result -/
def UP (G : Gx) (K : Kx) (h : Heap) (s : Sem Unit) (h' : Heap) : Prop :=
  ∃ K', s.run G.P K.w = .ok () K'.w ∧ Tn (fun i => h'.low ≤ i) h K K' ∧ HR G K' h' [] ∧ ∀ i, K'.D i → K.D i

theorem flat_ok {P : Program} {l : List AV} {xs : List Value} (hv : VRs P K l xs) (hf : flat l = true) : ∀ v ∈ xs, v.oneCell' = true := by
  induction l generalizing xs with
  | nil => cases hv; simp
  | cons a l ih =>
    cases hv with
    | cons _ x _ r h1 h2 =>
      have key : x.oneCell' = true ∧ flat l = true := by
        cases h1 <;> first
          | exact ⟨rfl, hf⟩
          | (have hf' : false = true := hf; cases hf')
      intro v hv
      rcases List.mem_cons.1 hv with rfl | hv
      · exact key.1
      · exact ih h2 key.2 v hv

theorem clear_cells (z : Array Value) (n : Nat) : (Builtin.zeroCells z n).toList = (List.replicate n z.toList).flatten := range_mod _ _ _ rfl

/-- one part of a row is turned -/
theorem store_ok (hr : HR G K h []) {b o : Nat} {r : List AV × TypeId} {l cs : List AV} {xs : List Value} (hd : K.D b) (hg : getRow h b = some r) (hs : setL o l r.1 = some cs) (hl : VRs G.P K l xs) (hf : flat l = true) :
    UP G K h (storeCells ⟨K.bl b, o + K.sh b, none⟩ xs) (h.put b (.row cs r.2)) := by
  have hg' := getRow_some.1 hg
  obtain ⟨c, cvs, h1, h2, h3, h4⟩ := hr.blk b _ hd hg'
  rw [setL_eq] at hs
  split at hs
  · rename_i hb
    cases hs
    have hxl := hl.length
    have hcl := h2.length
    have hst := run_storeCells_at G.P (K.bl b) (o + K.sh b) r.2 xs 0 c K.w h1 (by omega) (flat_ok hl hf)
    simp only [Nat.add_zero] at hst
    have hcz : c.toList.length = c.size := by simp
    obtain ⟨hw1, hw2⟩ := hr.write (x := .row (r.1.take o ++ l ++ r.1.drop (o + l.length)) r.2) (w' := K.w.setRow (K.bl b) (c.toList.take (o + K.sh b) ++ xs ++ c.toList.drop (o + K.sh b + xs.length)).toArray)
      (FrW.set (b := K.bl b) rfl rfl (fun k hk => setRow_other _ _ _ _ hk) (by rw [setRow_heap _ _ _ _ _ _ h1, h1]; rfl)) hd (by rw [hg']; rfl) (fun k hk => setRow_other _ _ _ _ hk) (by simp [World.setRow]) (fun c' e fr hc => by
        rw [h1] at hc; cases hc
        refine ⟨_, _, setRow_heap _ _ _ _ _ _ h1, ?_⟩
        simp only [List.size_toArray, List.length_append, List.length_take, List.length_drop, hcz]; omega) (fun L hL => by rw [h1] at hL; cases hL) (fun hle => by
        refine ⟨_, cvs.take o ++ xs ++ cvs.drop (o + xs.length), setRow_heap _ _ _ _ _ _ h1, ?_, fun i v hi => ?_, ?_⟩
        · have := (((h2.take o).append hl).append (h2.drop (o + l.length))).mono hle
          simpa only [hxl] using this
        · show (c.toList.take (o + K.sh b) ++ xs ++ c.toList.drop (o + K.sh b + xs.length)).toArray[K.sh b + i]? = some v
          rw [List.getElem?_toArray]
          simp only [List.getElem?_append, List.length_append, List.length_take, List.getElem?_take, List.getElem?_drop, hcz] at hi ⊢
          by_cases i1 : i < o
          · rw [if_pos (by omega), if_pos (by omega), if_pos (by omega)] at hi
            rw [if_pos (by omega), if_pos (by omega), if_pos (by omega)]
            have := h3 i v hi
            simpa using this
          · by_cases i2 : i < o + xs.length
            · rw [if_pos (by omega), if_neg (by omega)] at hi
              rw [if_pos (by omega), if_neg (by omega)]
              rw [show K.sh b + i - min (o + K.sh b) c.size = i - min o cvs.length by omega]
              exact hi
            · rw [if_neg (by omega)] at hi
              rw [if_neg (by omega)]
              have := h3 _ v hi
              rw [← this, ← Array.getElem?_toList]
              congr 1
              omega
        · show K.sh b + _ ≤ _
          simp only [List.size_toArray, List.length_append, List.length_take, List.length_drop, hcz]; omega)
    exact ⟨_, hst, hw2, hw1, fun _ h => h⟩
  · cases hs

theorem storeAt_ok (hr : HR G K h []) {t : TypeId} {n : Nat} {a v : AV} {x y : Value} {h' : Heap} (hn : szT G.P t = some n) (ha : VR G.P K a x) (hv : VR G.P K v y) (hl : lenL v.cells = n) (hs : storeN h a v.cells = some h') :
    UP G K h (Instr.storeAt t x y) h' := by
  cases ha <;> simp only [storeN, reduceCtorEq, bif_none, ob_some, Option.some.injEq] at hs
  case ptr b o hd =>
    obtain ⟨hf, r, hg, cs, hs, rfl⟩ := hs
    obtain ⟨K', h1, h2, h3⟩ := store_ok hr hd hg hs hv.cells hf
    have hsz : y.cells.size = n := by have := hv.cells.length; rw [lenL_eq] at hl; simpa [hl] using this
    exact ⟨K', by simp [Instr.storeAt, Instr.sureAddr, storeVar, run_szT hn, hsz, h1], h2, h3⟩

/-- all elements of a slice are cleared -/
theorem clear_ok (hr : HR G K h []) {t ty e : TypeId} {sz : Nat} {z : List AV} {s u : AV} {x : Value} {h' : Heap} (hu : G.P.underlying t = some (.slice e)) (hsz : szT G.P e = some sz) (hz : zeT G.P e = some z) (hs : VR G.P K s x) (hc : clrE h z s = some (u, h')) :
    WP G K h (Builtin.clear_ #[t] ty #[x]) u h' := by
  simp only [clrE, ob_some] at hc
  obtain ⟨n, hn, hc⟩ := hc
  obtain ⟨i', zv, hi3, hi4, hz2⟩ := zeT_some hz
  have stay : n = 0 → u = undefA ∧ h' = h → WP G K h (Builtin.clear_ #[t] ty #[x]) u h' := by
    rintro rfl ⟨rfl, rfl⟩
    refine ⟨.tuple #[], K, ?_, VR.tup [] [] .nil, Tn.refl _ _ _, hr, fun _ h => h⟩
    cases hs <;> simp only [lenA, reduceCtorEq, Option.some.injEq] at hn <;> (try subst hn) <;> simp [Builtin.clear_, run_underlying hu]
  split at hc
  · cases hc; exact stay rfl ⟨rfl, rfl⟩
  · rename_i hn0
    split at hc
    · rename_i e' b o m
      simp only [ob_some, Option.some.injEq, Prod.mk.injEq] at hc
      obtain ⟨h1, hst, rfl, rfl⟩ := hc
      simp only [lenA, Option.some.injEq] at hn
      subst hn
      simp only [storeN, bif_none, ob_some, Option.some.injEq] at hst
      obtain ⟨hf, r, hg, cs, hst, rfl⟩ := hst
      cases hs with
      | msl _ _ _ _ cap c t' fr hd hcap h3 h4 =>
        have hzr : VRs G.P K (rep z m) (List.replicate m zv.cells.toList).flatten := by rw [rep_eq]; exact (hz2 K).replicate m
        obtain ⟨K', g1, g2, g3, g4⟩ := store_ok hr hd hg hst hzr hf
        refine ⟨.tuple #[], K', ?_, VR.tup [] [] .nil, g2, g3, g4⟩
        have hm : m ≠ 0 := hn0
        have hzc : (Builtin.zeroCells zv.cells m).toList = (List.replicate m zv.cells.toList).flatten := clear_cells zv.cells m
        have hzv : (zeroValue e).run G.P K.w = .ok zv K.w := by simp [zeroValue, typeInfo, hi3, hi4]
        cases m with
        | zero => exact absurd rfl hm
        | succ m => simp [Builtin.clear_, run_underlying hu, hzv, hzc, g1]
      | msl0 => exact absurd rfl hn0
    · cases hc

/-- the first elements of a slice -/
theorem firstCells_ok {ks : List Nat} (hr : HR G K h ks) {sz n : Nat} {v : AV} {x : Value} {l : List AV} (hv : VR G.P K v x) (hs : sliceCells h sz n v = some l) :
    ∃ xs : List Value, (∀ w, w.heap = K.w.heap → (Builtin.firstCells sz n x).run G.P w = .ok xs.toArray w) ∧ VRs G.P K l xs ∧ l.length = n * sz := by
  have hcell : ∀ (w : World), w.heap = K.w.heap → ∀ a, w.cell? a = K.w.cell? a := fun w hw a => by simp [World.cell?, hw]
  cases hv <;> simp only [sliceCells, reduceCtorEq, bif_none, ob_some, cut_some, Nat.ble_eq, Nat.beq_eq, Option.some.injEq] at hs
  case nils => obtain ⟨rfl, rfl⟩ := hs; exact ⟨[], fun w hw => by simp [Builtin.firstCells], .nil, by simp⟩
  case emp0 => obtain ⟨rfl, rfl⟩ := hs; exact ⟨[], fun w hw => by simp [Builtin.firstCells], .nil, by simp⟩
  case emp1 a cap => obtain ⟨rfl, rfl⟩ := hs; exact ⟨[], fun w hw => by simp [Builtin.firstCells, loadCells, loadCellsFrom], .nil, by simp⟩
  case msl e b o m cap c t fr hd h1 h2 h3 =>
    obtain ⟨h5, r, hg, h6, rfl⟩ := hs
    obtain ⟨cvs, h7, h8⟩ := hr.cellsAt hd (getRow_some.1 hg)
    have h9 := (h7.drop o).take (n * sz)
    have h10 := h9.length
    refine ⟨_, fun w hw => ?_, h9, by simp; omega⟩
    have := h8.cut o (n * sz)
    rw [Nat.add_comm] at this
    exact run_loadCells_at (P := G.P) w _ _ _ (fun i v hi => (hcell w hw _).trans (this i v hi)) _ (by rw [h10]; simp; omega)
  case msl0 e b o a hd =>
    obtain ⟨h5, r, hg, h6, rfl⟩ := hs
    have : n = 0 := by omega
    subst this
    exact ⟨[], fun w hw => by simp [Builtin.firstCells, loadCells, loadCellsFrom], by simpa using VRs.nil, by simp⟩
  case isl cs m b q cap cvs h1 h2 h3 h4 h5 =>
    obtain ⟨h5, h6, rfl⟩ := hs
    have h9 := (h1.drop 0).take (n * sz)
    have h10 := h9.length
    refine ⟨_, fun w hw => ?_, h9, by simp at h6 ⊢; omega⟩
    have := h2.cut 0 (n * sz)
    exact run_loadCells_at (P := G.P) w _ _ _ (fun i v hi => (hcell w hw _).trans (this i v hi)) _ (by rw [h10]; simp at h6 ⊢; omega)

theorem lenOf_ok {v : AV} {x : Value} {n : Nat} (hv : VR G.P K v x) (hl : lenA v = some n) (w : World) : (Builtin.lenOf x).run G.P w = .ok n w := by
  cases hv <;> simp only [lenA, Option.some.injEq, reduceCtorEq] at hl <;> subst hl <;> rfl

theorem copy_ok (hr : HR G K h []) {t u ty e : TypeId} {sz : Nat} {d s r : AV} {x y : Value} {h' : Heap} (hu : G.P.underlying t = some (.slice e)) (hsz : szT G.P e = some sz) (hd : VR G.P K d x) (hs : VR G.P K s y)
    (hc : cpyE h sz d s = some (r, h')) : WP G K h (Builtin.copy_ #[t, u] ty #[x, y]) r h' := by
  simp only [cpyE, ob_some, fN_eq, bif_eq, Nat.ble_eq] at hc
  obtain ⟨m, hm, k, hk, cs, hcs, hc⟩ := hc
  have hmin : (if m ≤ k then m else k) = min m k := by rw [Nat.min_def]
  rw [hmin] at hcs hc
  obtain ⟨xs, h1, h2, h3⟩ := firstCells_ok hr hs hcs
  replace h1 := h1 K.w rfl
  have hl := lenOf_ok hs hm K.w
  have same : h' = h → ∀ (a : Option Addr) (cap : Nat), x = .slice a k cap → r = .int .i64 (min m k : Nat) → (a = none ∨ xs = []) → WP G K h (Builtin.copy_ #[t, u] ty #[x, y]) r h' := by
    rintro rfl a cap rfl rfl ha
    refine ⟨_, K, ?_, .int _ _, Tn.refl _ _ _, hr, fun _ h => h⟩
    have hmn : Nat.min m k = min m k := rfl
    rcases ha with rfl | rfl
    · simp [Builtin.copy_, run_underlying hu, hl, run_szT hsz, hmn, h1]; rfl
    · cases a <;> (simp [Builtin.copy_, run_underlying hu, hl, run_szT hsz, hmn, h1, storeCells]; rfl)
  have hkk : ∀ (a : Option Addr) (cap : Nat) (q : Nat), x = .slice a q cap → lenA d = some q → q = k := fun _ _ q _ hq => by rw [hk] at hq; cases hq; rfl
  have hk0 : k = 0 → xs = [] := by
    rintro rfl
    have := h2.length
    rw [Nat.min_zero] at h3
    apply List.eq_nil_of_length_eq_zero
    omega
  cases hd <;> simp only [reduceCtorEq, ob_some, Option.some.injEq, Prod.mk.injEq] at hc
  case nils => obtain ⟨rfl, rfl⟩ := hc; simp only [lenA, Option.some.injEq] at hk; subst hk; exact same rfl none 0 rfl rfl (.inl rfl)
  case emp0 => obtain ⟨rfl, rfl⟩ := hc; simp only [lenA, Option.some.injEq] at hk; subst hk; exact same rfl none 0 rfl rfl (.inl rfl)
  case emp1 a cap => obtain ⟨rfl, rfl⟩ := hc; simp only [lenA, Option.some.injEq] at hk; subst hk; exact same rfl (some a) cap rfl rfl (.inr (hk0 rfl))
  case msl e' b o q cap c t' fr hd h5 h6 h7 =>
    simp only [lenA, Option.some.injEq] at hk; subst hk
    obtain ⟨h1', hst, rfl, rfl⟩ := hc
    simp only [storeN, bif_none, ob_some, Option.some.injEq] at hst
    obtain ⟨hf, row, hg, cs', hset, rfl⟩ := hst
    obtain ⟨K', g1, g2, g3⟩ := store_ok hr hd hg hset h2 hf
    refine ⟨_, K', ?_, .int _ _, g2, g3⟩
    have hmn : Nat.min m q = min m q := rfl
    simp [Builtin.copy_, run_underlying hu, hl, run_szT hsz, hmn, h1, g1]; rfl
  case msl0 e' b o a hd =>
    simp only [lenA, Option.some.injEq] at hk; subst hk
    obtain ⟨h1', hst, rfl, rfl⟩ := hc
    simp only [storeN, bif_none, ob_some, Option.some.injEq] at hst
    obtain ⟨hf, row, hg, cs', hset, rfl⟩ := hst
    have hx0 := hk0 rfl
    subst hx0
    cases h2
    obtain ⟨K', g1, g2, g3⟩ := store_ok hr hd hg hset .nil hf
    refine ⟨_, K', ?_, .int _ _, g2, g3⟩
    have hmn : Nat.min m 0 = min m 0 := rfl
    simp [storeCells] at g1
    rw [← g1]
    have h1' : (Builtin.firstCells sz 0 y).run G.P K.w = .ok #[] K.w := by simpa using h1
    simp [Builtin.copy_, run_underlying hu, hl, run_szT hsz, h1', storeCells]; rfl

end
end Hx
