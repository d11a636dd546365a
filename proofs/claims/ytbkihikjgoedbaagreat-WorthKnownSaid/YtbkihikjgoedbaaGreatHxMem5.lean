/- append; the common form of the operations that leave old blocks alone. -/
import Derived.Test.YtbkihikjgoedbaaGreatHxMem4
import Derived.Laws.AppendOwn
namespace Hx
open Go

/-- what is there is there also -/
def Sub (h H : Heap) : Prop := ∀ i x, h.get i = some x → H.get i = some x
def Heap.wf (h : Heap) : Prop := ∀ i, h.next ≤ i → h.get i = none

theorem Sub.refl (h : Heap) : Sub h h := fun _ _ h => h
theorem Sub.trans {a b c : Heap} (h : Sub a b) (h' : Sub b c) : Sub a c := fun i x hx => h' i x (h i x hx)
theorem Sub.push {h : Heap} (hw : h.wf) (x : Blk) : Sub h (h.push x) := fun i y hy => by
  rw [Heap.get_push]
  split
  · rename_i e; subst e; rw [hw _ (Nat.le_refl _)] at hy; cases hy
  · exact hy
theorem Heap.wf_push {h : Heap} (hw : h.wf) (x : Blk) : (h.push x).wf := fun i hi => by
  rw [Heap.next_push] at hi
  rw [Heap.get_push, if_neg (by omega)]
  exact hw i (by omega)

/-- an operation that leaves old blocks alone -/
def AP (G : Gx) (K : Kx) (H : Heap) (s : Sem Value) (v : AV) (ks' : List Nat) (n m : Nat) : Prop :=
  ∃ x K', s.run G.P K.w = .ok x K'.w ∧ VR G.P K' v x ∧ HR G K' H ks' ∧ Tn (fun i => i ∈ ks') H K K' ∧ ∀ i, K'.D i → K.D i ∨ (i = n ∧ n < m)

section
variable {G : Gx} {K : Kx} {H : Heap} {ks : List Nat}

theorem YP.ap {s : Sem Value} {v : AV} (hr : HR G K H ks) (h : YP G.P K s v) (n m : Nat) : AP G K H s v ks n m := by
  obtain ⟨x, h1, h2⟩ := h
  exact ⟨x, K, h1, h2, hr, Tn.refl _ _ _, fun i h => .inl h⟩
theorem NewP.ap {s : Sem Value} {v : AV} {n m : Nat} {blk : Blk} (hm : n < m) (hr : HR G K H ks) (hn : ¬ K.D n) (hl : n < H.next) (hg : H.get n = some blk) (h : NewP G K n s v blk) : AP G K H s v ks n m := by
  obtain ⟨x, w', o, h1, ⟨h2, hf⟩, h3, h4⟩ := h
  exact ⟨x, K.new n w', h1, h3, hr.add hf h2 hn hl hg h4, Kx.new_tn hf h2 hn hr.inh _ _, fun i h => h.imp id fun e => ⟨e, hm⟩⟩

theorem sliceCells_sub {h : Heap} (hs : Sub h H) {sz n : Nat} {v : AV} {l : List AV} (hc : sliceCells h sz n v = some l) : sliceCells H sz n v = some l := by
  cases v <;> simp only [sliceCells, reduceCtorEq, bif_none, ob_some] at hc ⊢
  case msl e b o m => obtain ⟨h1, r, h2, h3⟩ := hc; exact ⟨h1, r, getRow_some.2 (hs _ _ (getRow_some.1 h2)), h3⟩
  all_goals exact hc

theorem zeroCells_size (z : Array Value) (n : Nat) : (Builtin.zeroCells z n).size = n * z.size := by simp [Builtin.zeroCells]

theorem run_grow {P : Program} (w : World) {t u ty e ue : TypeId} {i : TypeInfo} {z : Value} (ht : P.underlying t = some (.slice e)) (hu : P.underlying u = some (.slice ue)) (hi : P.info? e = some i) (hz : i.zero = some z)
    (base : Option Addr) (sLen sCap n : Nat) (y : Value) (olds news : Array Value) (hlen : ∀ w, (Builtin.lenOf y).run P w = .ok n w) (ho : (Builtin.firstCells i.size sLen (.slice base sLen sCap)).run P w.drew = .ok olds w.drew)
    (hn : (Builtin.firstCells i.size n y).run P w.drew = .ok news w.drew) (hg : sCap < sLen + n) (h63 : ((sLen + n : Nat) : Int) ≤ 9223372036854775807) (hfit : Builtin.nextslicecap (sLen + n) sCap * i.bytes ≤ 281474976710656) :
    (Builtin.append_ #[t, u] ty #[.slice base sLen sCap, y]).run P w =
      .ok (.slice (some ⟨w.heap.size, 0, none⟩) (sLen + n) (grownCap w (sLen + n) sCap e))
        (w.drew.alloc (.cells (olds ++ news ++ Builtin.zeroCells z.cells (grownCap w (sLen + n) sCap e - (sLen + n))) e)) := by
  have hn' : ¬ (sLen + n ≤ sCap) := by omega
  have h63' : ¬ (9223372036854775807 < ((sLen : Int) + (n : Int))) := by omega
  have h48' : ¬ (281474976710656 < Builtin.nextslicecap (sLen + n) sCap * i.bytes) := by omega
  simp [Builtin.append_, run_underlying ht, run_underlying hu, Go.sizeOf, typeInfo, zeroValue, hi, hz, hlen, hn', h63', h48', Question.forced, hn, ho, newRow, grownCap]

/-- a row that has grown, in a block of its own -/
theorem grow_ok {n0 : Nat} {t u ty e ue sz by_ n sLen sCap : Nat} {z : List AV} {y : Value} {base : Option Addr} {old new : List AV} {olds news : List Value} (hu : G.P.underlying t = some (.slice e)) (hue : G.P.underlying u = some (.slice ue)) (hsz : szT G.P e = some sz)
    (hby : byT G.P e = some by_) (hz : zeT G.P e = some z) (hzl : z.length = sz) (hn : ¬ K.D n0) (hlen : ∀ w, (Builtin.lenOf y).run G.P w = .ok n w) (ho : (Builtin.firstCells sz sLen (.slice base sLen sCap)).run G.P K.w.drew = .ok olds.toArray K.w.drew)
    (hnw : (Builtin.firstCells sz n y).run G.P K.w.drew = .ok news.toArray K.w.drew) (h1 : VRs G.P K old olds) (h2 : VRs G.P K new news) (h3 : old.length = sLen * sz) (h4 : new.length = n * sz)
    (hg : sCap < sLen + n) (hr : roomy (sLen + n) by_ = true) : NewP G K n0 (Builtin.append_ #[t, u] ty #[.slice base sLen sCap, y]) (.msl e n0 0 (sLen + n)) (.row (old ++ new) e) := by
  obtain ⟨i, hi1, hi2, hce⟩ := szT_some hsz
  obtain ⟨i', zv, hi3, hi4, hz2⟩ := zeT_some hz
  rw [hi1] at hi3; cases hi3
  have hzs : zv.cells.size = sz := by have := (hz2 K).length; simpa [hzl] using this
  have hb : i.bytes = by_ := by unfold byT at hby; rw [hi1] at hby; simpa using hby
  simp only [roomy, Bool.and_eq_true, Nat.ble_eq] at hr
  subst hi2
  have hfit := growslice_fits (bytes := i.bytes) hg (by rw [hb]; omega)
  have hrun := run_grow (ty := ty) K.w hu hue hi1 hi4 base sLen sCap n y olds.toArray news.toArray hlen ho hnw hg (by omega) hfit
  have hcap := grownCap_ge K.w (sLen + n) sCap e
  have l1 := h1.length
  have l2 := h2.length
  refine ⟨_, K.w.drew.alloc (.cells (olds.toArray ++ news.toArray ++ Builtin.zeroCells zv.cells (grownCap K.w (sLen + n) sCap e - (sLen + n))) e (0, 0)), _, hrun, ⟨rfl, FrW.push rfl rfl rfl rfl⟩, VR.newSlice rfl hcap ?_, ?_⟩
  · rw [hce]
    simp only [Array.size_append, List.size_toArray, zeroCells_size, hzs]
    rw [l1, l2, h3, h4, ← Nat.add_mul, ← Nat.add_mul]
    exact Nat.le_of_eq (by congr 1; omega)
  · refine ⟨_, olds ++ news, by rw [Kx.new_bl]; show (K.w.heap.push _)[_]? = _; simp; rfl, (h1.append h2).mono (Kx.new_le (w' := K.w.drew.alloc (.cells (olds.toArray ++ news.toArray ++ Builtin.zeroCells zv.cells (grownCap K.w (sLen + n) sCap e - (sLen + n))) e (0, 0))) (FrW.push (o := (.cells (olds.toArray ++ news.toArray ++ Builtin.zeroCells zv.cells (grownCap K.w (sLen + n) sCap e - (sLen + n))) e (0, 0))) rfl rfl rfl rfl) rfl hn), fun j v hj => ?_, ?_⟩
    · rw [Kx.new_sh, Nat.zero_add]
      have hjl := (List.getElem?_eq_some_iff.1 hj).1
      rw [← Array.getElem?_toList]
      simp only [Array.toList_append]
      rw [List.getElem?_append, if_pos hjl]
      exact hj
    · rw [Kx.new_sh]; simp; omega

theorem roomy_mono {n m b : Nat} (h : roomy n b = true) (hm : m ≤ n) : roomy m b = true := by
  simp only [roomy, Bool.and_eq_true, Nat.ble_eq] at h ⊢
  have := Nat.mul_le_mul_right b hm
  omega

theorem app_ok {h h' : Heap} {kill : Option Nat} (hr : HR G K H ks) {t u ty e sz by_ : Nat} {z : List AV} {s a v : AV} {x y : Value} (hu : G.P.underlying t = some (.slice e)) (hu2 : slcT G.P u = true) (hsz : szT G.P e = some sz) (hby : byT G.P e = some by_)
    (hz : zeT G.P e = some z) (hzl : z.length = sz) (hx : VR G.P K s x) (hy : VR G.P K a y) (hwf : h.wf) (hn0 : h.next < h'.next → ¬ K.D h.next) (hc : appA h e sz by_ s a = some (v, h', kill)) (hs : Sub h' H) (hl : h'.next ≤ H.next) (hk : ∀ b, kill = some b → b ∉ ks) :
    AP G K H (Builtin.append_ #[t, u] ty #[x, y]) v (kill.toList ++ ks) h.next h'.next ∧ (h' = h ∨ ∃ blk, h' = h.push blk) := by
  obtain ⟨i, hi1, hi2, hce⟩ := szT_some hsz
  obtain ⟨ue, hue⟩ : ∃ ue, G.P.underlying u = some (.slice ue) := by
    unfold slcT at hu2
    split at hu2
    · exact ⟨_, by assumption⟩
    · cases hu2
  simp only [appA, ob_some] at hc
  obtain ⟨n, hna, new, hnew, hc⟩ := hc
  have hlen : ∀ w, (Builtin.lenOf y).run G.P w = .ok n w := lenOf_ok hy hna
  have grown : ∀ {b o len : Nat} {e' : Nat} {base : Option Addr} {cap : Nat} {old : List AV}, len * sz ≤ old.length - o → old.length = o + len * sz → h.get b = some (.row old e) → cap < len + n → roomy (len + n) by_ = true → h' = h.push (.row (old.drop o ++ new) e) → v = .msl e h.next 0 (len + n) →
      kill = some b → (Builtin.firstCells sz len (.slice base len cap)).run G.P K.w.drew = (Builtin.firstCells sz len (.slice base len cap)).run G.P K.w.drew →
      (∃ olds : List Value, (Builtin.firstCells sz len (.slice base len cap)).run G.P K.w.drew = .ok olds.toArray K.w.drew ∧ VRs G.P K (old.drop o) olds) → AP G K H (Builtin.append_ #[t, u] ty #[.slice base len cap, y]) v (kill.toList ++ ks) h.next h'.next := by
    rintro b o len e' base cap old ho1 ho2 hgb hcap hrm rfl rfl rfl _ ⟨olds, g1, g2⟩
    have hn : ¬ K.D h.next := hn0 (by rw [Heap.next_push]; omega)
    have hsh : Sub h H := (Sub.push hwf _).trans hs
    obtain ⟨xs, h1, h2, h3⟩ := firstCells_ok hr hy (sliceCells_sub hsh hnew)
    have hnp := grow_ok (ty := ty) hu hue hsz hby hz hzl hn hlen g1 (h1 _ rfl) g2 h2 (by rw [List.length_drop]; omega) h3 hcap hrm
    exact hnp.ap (by rw [Heap.next_push]; omega) (hr.more fun i hi => by simp [hi]) hn (by rw [Heap.next_push] at hl; omega) (hs _ _ (by rw [Heap.get_push, if_pos rfl]))
  cases hx <;> simp only [reduceCtorEq] at hc
  case nils =>
    rw [bif_eq] at hc
    split at hc
    · rename_i hn0
      rw [Nat.beq_eq] at hn0; subst hn0
      simp only [Option.some.injEq, Prod.mk.injEq] at hc
      obtain ⟨rfl, rfl, rfl⟩ := hc
      obtain ⟨xs, h1, h2, h3⟩ := firstCells_ok hr hy (sliceCells_sub hs hnew)
      refine ⟨YP.ap hr ⟨_, ?_, .nils⟩ _ _, .inl rfl⟩
      simp [Builtin.append_, run_underlying hu, run_underlying hue, run_szT hsz, hlen, h1 K.w rfl]
    · rename_i hn0
      have hn1 : n ≠ 0 := fun e => hn0 (by rw [Nat.beq_eq]; exact e)
      simp only [bif_none, fN_eq, Option.some.injEq, Prod.mk.injEq] at hc
      obtain ⟨hrm, rfl, rfl, rfl⟩ := hc
      have hn : ¬ K.D h.next := hn0 (by rw [Heap.next_push]; omega)
      have hsh : Sub h H := (Sub.push hwf _).trans hs
      obtain ⟨xs, h1, h2, h3⟩ := firstCells_ok hr hy (sliceCells_sub hsh hnew)
      have hnp := grow_ok (ty := ty) (base := none) (sLen := 0) (sCap := 0) (old := []) (olds := []) hu hue hsz hby hz hzl hn hlen (by simp [Builtin.firstCells]) (h1 _ rfl) .nil h2 (by simp) h3 (by omega) (by rw [Nat.zero_add]; exact hrm)
      rw [Nat.zero_add] at hnp
      exact ⟨hnp.ap (by rw [Heap.next_push]; omega) hr hn (by rw [Heap.next_push] at hl; omega) (hs _ _ (by rw [Heap.get_push, if_pos rfl]; rfl)), .inr ⟨_, rfl⟩⟩
  case msl e' b o len cap c ct fr hd hcap h3 h4 =>
    simp only [ob_some, bif_none, fN_eq, Bool.and_eq_true, Nat.beq_eq, Nat.ble_eq, Option.some.injEq, Prod.mk.injEq, lenL_eq, catL_eq, dropL_eq] at hc
    obtain ⟨row, hg, ⟨⟨⟨⟨⟨⟨he1, he2⟩, hrm⟩, hrl⟩, hn1⟩, hs1⟩, hfl⟩, rfl, rfl, rfl⟩ := hc
    have hn : ¬ K.D h.next := hn0 (by rw [Heap.next_push]; omega)
    subst he1
    have hg' := getRow_some.1 hg
    rw [← he2] at hg'
    have hsh : Sub h H := (Sub.push hwf _).trans hs
    obtain ⟨xs, h1, h2, h5⟩ := firstCells_ok hr hy (sliceCells_sub hsh hnew)
    refine ⟨?_, .inr ⟨_, rfl⟩⟩
    by_cases hroom : len + n ≤ cap
    · obtain ⟨c2, cvs, q1, q2, q3, q4⟩ := hr.blk b _ hd (hsh _ _ hg')
      rw [h3] at q1; cases q1
      have hlenm : (len + n) * sz ≤ cap * sz := Nat.mul_le_mul_right _ hroom
      rw [Nat.add_mul] at hlenm
      rw [hce] at h4
      have hl1 := h2.length
      obtain ⟨w1, w2⟩ := hr.share (n := h.next) (o := o) (new := new) hd (hsh _ _ hg') hn (by rw [Heap.next_push] at hl; omega) (hs _ _ (by rw [Heap.get_push, if_pos rfl])) (by omega) (hk b rfl) h3 h2 (by omega) rfl
      have hst := run_storeCells_at G.P (K.bl b) (o + K.sh b + len * sz) e xs 0 c K.w h3 (by omega) (flat_ok h2 hfl)
      simp only [Nat.add_zero] at hst
      rw [show o + K.sh b + len * sz = K.sh b + row.1.length by omega] at hst
      refine ⟨.slice (some ⟨K.bl b, o + K.sh b, none⟩) (len + n) cap, _, ?_, ?_, w1, w2, fun i h => h.imp id fun e => ⟨e, by rw [Heap.next_push]; omega⟩⟩
      rotate_left
      · have hv := VR.msl (P := G.P) (K := K.share h.next b o (K.w.setRow (K.bl b) (c.toList.take (K.sh b + row.1.length) ++ xs ++ c.toList.drop (K.sh b + row.1.length + xs.length)).toArray)) e h.next 0 (len + n) cap _ e (0, 0) (.inr rfl) hroom
          (by rw [show (Kx.share K h.next b o _).bl h.next = K.bl b from if_pos rfl]; exact setRow_heap _ _ _ _ _ _ h3)
          (by
            rw [show (Kx.share K h.next b o _).sh h.next = K.sh b + o from if_pos rfl, hce]
            simp only [List.size_toArray, List.length_append, List.length_take, List.length_drop, Array.length_toList]; omega)
        rw [show (Kx.share K h.next b o _).bl h.next = K.bl b from if_pos rfl, show (Kx.share K h.next b o _).sh h.next = K.sh b + o from if_pos rfl, Nat.zero_add, Nat.add_comm (K.sh b) o] at hv
        exact hv
      · simp [Builtin.append_, run_underlying hu, run_underlying hue, run_szT hsz, hlen, hroom, h1 K.w rfl, addr_add]
        rw [show o + K.sh b + len * sz = K.sh b + row.1.length by omega, hst]
        simp only [List.append_assoc, Result.andThen_ok]
        rfl
    · refine grown (e' := e) (o := o) (by omega) hrl.symm hg' (by omega) hrm rfl rfl rfl rfl ?_
      have hx' := VR.msl (P := G.P) (K := K) e b o len cap c ct fr hd hcap h3 h4
      have hsc : sliceCells H sz len (.msl e b o len) = some ((row.1.drop o).take (len * sz)) := by
        simp only [sliceCells, bif_none, ob_some, cut_some, Nat.ble_eq]
        exact ⟨Nat.le_refl _, (row.1, e), getRow_some.2 (hsh _ _ hg'), by show _ ≤ row.1.length - o; omega, rfl⟩
      obtain ⟨olds, g1, g2, g3⟩ := firstCells_ok hr hx' hsc
      refine ⟨olds, g1 _ rfl, ?_⟩
      rwa [List.take_of_length_le (by rw [List.length_drop]; omega)] at g2
  case msl0 e' b o ad hd =>
    simp only [ob_some, bif_none, fN_eq, Bool.and_eq_true, Nat.beq_eq, Nat.ble_eq, Option.some.injEq, Prod.mk.injEq, lenL_eq, catL_eq, dropL_eq] at hc
    obtain ⟨row, hg, ⟨⟨⟨⟨⟨⟨he1, he2⟩, hrm⟩, hrl⟩, hn1⟩, hs1⟩, hfl⟩, rfl, rfl, rfl⟩ := hc
    have hn : ¬ K.D h.next := hn0 (by rw [Heap.next_push]; omega)
    subst he1
    have hg' := getRow_some.1 hg
    rw [← he2] at hg'
    refine ⟨grown (e' := e) (o := o) (by omega) hrl.symm hg' (by omega) hrm rfl rfl rfl rfl ⟨[], by simp [Builtin.firstCells, loadCells, loadCellsFrom], ?_⟩, .inr ⟨_, rfl⟩⟩
    rw [List.drop_eq_nil_of_le (by omega)]
    exact .nil

end
end Hx
