/- The operations that leave memory alone: what the machine computes is what the model computes. -/
import Derived.Test.YtbkihikjgoedbaaGreatHxHeap
import Derived.Laws.Cells
import Derived.Laws.CopyRow
import Derived.IntWalk
namespace Hx
open Go

theorem VR.cells {P : Program} {K : Kx} {v : AV} {x : Value} (h : VR P K v x) : VRs P K v.cells x.cells.toList := by
  have one : ∀ {u : AV} {y : Value}, VR P K u y → VRs P K [u] [y] := fun h => .cons _ _ _ _ h .nil
  cases h with
  | agg cs vs hv => simpa [AV.cells, Value.cells] using hv
  | bool b => exact one (.bool b)
  | int k n => exact one (.int k n)
  | str s => exact one (.str s)
  | nilp => exact one .nilp
  | ptr b o hb => exact one (.ptr b o hb)
  | iptr cs o b q cvs hv ha ho hb => exact one (.iptr cs o b q cvs hv ha ho hb)
  | nils => exact one .nils
  | emp0 => exact one .emp0
  | emp1 a cap => exact one (.emp1 a cap)
  | msl e b o n cap c t fr hb hn hc hs => exact one (.msl e b o n cap c t fr hb hn hc hs)
  | msl0 e b o a hb => exact one (.msl0 e b o a hb)
  | isl cs n b q cap cvs hv ha ho hb hn => exact one (.isl cs n b q cap cvs hv ha ho hb hn)
  | nilm => exact one .nilm
  | mp b hb => exact one (.mp b hb)
  | fn f a c va vc ha hc => exact one (.fn f a c va vc ha hc)
  | yield l hl => exact one (.yield l hl)
  | nilf => exact one .nilf
  | ifc t v x hv => exact one (.ifc t v x hv)
  | nili => exact one .nili
  | tup cs vs hv => exact one (.tup cs vs hv)

/-- a value, without a change -/
def YP (P : Program) (K : Kx) (s : Sem Value) (v : AV) : Prop := ∃ x, s.run P K.w = .ok x K.w ∧ VR P K v x

/-! Integers. -/
theorem fI_some {α : Type} (n : Int) (K : Int → α) : fI n K = K n := fI_eq n K
theorem kI_eq (k : IntKind) (n : Int) : kI k n = some (.int k n) := by unfold kI; rw [fI_eq]
theorem kB_eq (b : Bool) : kB b = some (.bool b) := by unfold kB; rw [fB_eq]
theorem ltI_eq (a b : Int) : ltI a b = decide (a < b) := by
  cases a <;> cases b <;> simp [ltI]
  · rename_i m n; rw [Bool.eq_iff_iff]; simp; omega
  · rename_i m n; omega
  · rename_i m n; omega
  · rename_i m n; rw [Bool.eq_iff_iff]; simp; omega
theorem eqI_eq (a b : Int) : eqI a b = (a == b) := by
  rw [Bool.eq_iff_iff]
  cases a <;> cases b <;> simp [eqI]
  omega
theorem kEq_eq {a b : IntKind} (h : kEq a b = true) : a = b := by cases a <;> cases b <;> simp_all [kEq]

theorem wrap_top (k : IntKind) (m : Nat) (h : m ≤ topOf k) : k.wrap (m : Int) = m := by
  cases k <;> simp only [topOf] at h
  · exact IntWalk.i8_in _ (by omega)
  · exact IntWalk.i16_in _ (by omega)
  · exact IntWalk.i32_in _ (by omega)
  · exact IntWalk.i64_in _ (by omega)
  · exact IntWalk.u8_in _ (by omega)
  · exact IntWalk.u16_in _ (by omega)
  · exact IntWalk.u32_in _ (by omega)
  · exact IntWalk.u64_in _ (by omega)
theorem wrap_neg (k : IntKind) (m : Nat) (hs : k.signed = true) (h : m ≤ topOf k) : k.wrap (Int.negSucc m) = Int.negSucc m := by
  cases k <;> simp only [topOf] at h <;> simp only [IntKind.signed] at hs <;> first | cases hs | skip
  · exact IntWalk.i8_in _ (by omega)
  · exact IntWalk.i16_in _ (by omega)
  · exact IntWalk.i32_in _ (by omega)
  · exact IntWalk.i64_in _ (by omega)

theorem wrapF_eq (k : IntKind) (n : Int) : wrapF k n = k.wrap n := by
  cases n with
  | ofNat m =>
    show bif_ (Nat.ble m (topOf k)) (Int.ofNat m) (k.wrap (.ofNat m)) = _
    rw [bif_eq]
    split
    · rename_i h; rw [Nat.ble_eq] at h; exact (wrap_top k m h).symm
    · rfl
  | negSucc m =>
    show bif_ (k.signed && Nat.ble m (topOf k)) (Int.negSucc m) (k.wrap (.negSucc m)) = _
    rw [bif_eq]
    split
    · rename_i h; rw [Bool.and_eq_true, Nat.ble_eq] at h; exact (wrap_neg k m h.1 h.2).symm
    · rfl

theorem top_lt (k : IntKind) : topOf k < 2 ^ k.bits := by cases k <;> decide
theorem top_pow (k : IntKind) : ∃ j, topOf k + 1 = 2 ^ j ∧ j ≤ k.bits := by
  cases k
  · exact ⟨7, by decide, by decide⟩
  · exact ⟨15, by decide, by decide⟩
  · exact ⟨31, by decide, by decide⟩
  · exact ⟨63, by decide, by decide⟩
  · exact ⟨8, by decide, by decide⟩
  · exact ⟨16, by decide, by decide⟩
  · exact ⟨32, by decide, by decide⟩
  · exact ⟨64, by decide, by decide⟩
theorem ofInt_nat (k : IntKind) (x : Nat) (h : x ≤ topOf k) : (BitVec.ofInt k.bits (x : Int)).toNat = x := by
  rw [BitVec.ofInt_natCast, BitVec.toNat_ofNat]
  exact Nat.mod_eq_of_lt (Nat.lt_of_le_of_lt h (top_lt k))
theorem andNot_nat {n : Nat} (a b : BitVec n) : (a &&& ~~~b) = a ^^^ (a &&& b) := by
  ext i hi
  simp
  cases a[i] <;> cases b[i] <;> rfl

theorem bitsN_eq (op : BinOp) (k : IntKind) (x y : Nat) (hx : x ≤ topOf k) (hy : y ≤ topOf k) : bitsN op x y = bitsSlow op k (x : Int) (y : Int) := by
  obtain ⟨j, hj, _⟩ := top_pow k
  have hx' : x < 2 ^ j := by omega
  have hy' : y < 2 ^ j := by omega
  cases op <;> simp only [bitsN, bitsSlow] <;> congr 1
  · have h : (BitVec.ofInt k.bits (x : Int) &&& BitVec.ofInt k.bits (y : Int)).toNat = x &&& y := by rw [BitVec.toNat_and, ofInt_nat k x hx, ofInt_nat k y hy]
    rw [h]
    have := Nat.and_lt_two_pow x hy'
    exact (wrap_top k (x &&& y) (by omega)).symm
  · have h : (BitVec.ofInt k.bits (x : Int) ||| BitVec.ofInt k.bits (y : Int)).toNat = x ||| y := by rw [BitVec.toNat_or, ofInt_nat k x hx, ofInt_nat k y hy]
    rw [h]
    have := Nat.or_lt_two_pow hx' hy'
    exact (wrap_top k (x ||| y) (by omega)).symm
  · have h : (BitVec.ofInt k.bits (x : Int) ^^^ BitVec.ofInt k.bits (y : Int)).toNat = x ^^^ y := by rw [BitVec.toNat_xor, ofInt_nat k x hx, ofInt_nat k y hy]
    rw [h]
    have := Nat.xor_lt_two_pow hx' hy'
    exact (wrap_top k (x ^^^ y) (by omega)).symm
  · have h : (BitVec.ofInt k.bits (x : Int) &&& ~~~ BitVec.ofInt k.bits (y : Int)).toNat = x ^^^ (x &&& y) := by
      rw [andNot_nat, BitVec.toNat_xor, BitVec.toNat_and, ofInt_nat k x hx, ofInt_nat k y hy]
    rw [h]
    have := Nat.xor_lt_two_pow hx' (Nat.and_lt_two_pow x hy')
    exact (wrap_top k (x ^^^ (x &&& y)) (by omega)).symm
theorem bitsF_eq (op : BinOp) (k : IntKind) (a b : Int) : bitsF op k a b = bitsSlow op k a b := by
  cases a with
  | negSucc m => cases b <;> rfl
  | ofNat x =>
    cases b with
    | negSucc n => rfl
    | ofNat y =>
      show bif_ (Nat.ble x (topOf k) && Nat.ble y (topOf k)) (bitsN op x y) (bitsSlow op k (x : Int) (y : Int)) = _
      rw [bif_eq]
      split
      · rename_i h; rw [Bool.and_eq_true, Nat.ble_eq, Nat.ble_eq] at h; exact bitsN_eq op k x y h.1 h.2
      · rfl
theorem shlF_eq (k : IntKind) (a : Int) (y : Nat) : shlF k a y = k.wrap (a * 2 ^ (min y k.bits)) := by
  cases a with
  | negSucc m => rfl
  | ofNat x =>
    show wrapF k (.ofNat (x * 2 ^ (min y k.bits))) = _
    rw [wrapF_eq]
    congr 1
theorem shrF_eq (k : IntKind) (a : Int) (y : Nat) : shrF k a y = a.fdiv (2 ^ (min y k.bits)) := by
  cases a with
  | negSucc m => rfl
  | ofNat x =>
    show Int.ofNat (x / 2 ^ (min y k.bits)) = Int.fdiv (x : Int) _
    rw [Int.fdiv_eq_ediv_of_nonneg _ (Int.pow_nonneg (by decide))]
    simp

/-- the operations on two integers -/
theorem intOp_run {P : Program} {w : World} (op : BinOp) (k : IntKind) (a b : Int) (t : TypeId) (hs : isShift op = false) {v : AV} (h : intOp op k a b = some v) :
    ∃ x, (binOp op t (.int k a) (.int k b)).run P w = .ok x w ∧ ∀ K, VR P K v x := by
  cases op <;> simp only [intOp, kI_eq, kB_eq, bif_none', eqI_eq, ltI_eq, wrapF_eq, ob_some, bitsF_eq, Option.some.injEq, reduceCtorEq] at h
  case quo => obtain ⟨h0, rfl⟩ := h; simp at h0; exact ⟨_, by simp [binOp, Op.intDiv, h0], fun K => .int _ _⟩
  case rem => obtain ⟨h0, rfl⟩ := h; simp at h0; exact ⟨_, by simp [binOp, Op.intDiv, h0], fun K => .int _ _⟩
  case add => subst h; exact ⟨_, by simp [binOp, Op.intArith], fun K => .int _ _⟩
  case sub => subst h; exact ⟨_, by simp [binOp, Op.intArith], fun K => .int _ _⟩
  case mul => subst h; exact ⟨_, by simp [binOp, Op.intArith], fun K => .int _ _⟩
  case eql => subst h; exact ⟨_, by simp [binOp, Op.intCmp], fun K => .bool _⟩
  case neq => subst h; exact ⟨.bool (a != b), by simp [binOp, Op.intCmp], fun K => .bool _⟩
  case lss => subst h; exact ⟨_, by simp [binOp, Op.intCmp], fun K => .bool _⟩
  case gtr => subst h; exact ⟨_, by simp [binOp, Op.intCmp], fun K => .bool _⟩
  case leq => subst h; exact ⟨.bool (decide (a ≤ b)), by simp [binOp, Op.intCmp], fun K => by rw [show (!decide (b < a)) = decide (a ≤ b) from by rw [Bool.eq_iff_iff]; simp]; exact .bool _⟩
  case geq => subst h; exact ⟨.bool (decide (a ≥ b)), by simp [binOp, Op.intCmp], fun K => by rw [show (!decide (a < b)) = decide (a ≥ b) from by rw [Bool.eq_iff_iff]; simp]; exact .bool _⟩
  case and => obtain ⟨n, h1, rfl⟩ := h; simp only [bitsSlow, Option.some.injEq] at h1; subst h1; exact ⟨_, by simp [binOp, Op.intBits], fun K => .int _ _⟩
  case or => obtain ⟨n, h1, rfl⟩ := h; simp only [bitsSlow, Option.some.injEq] at h1; subst h1; exact ⟨_, by simp [binOp, Op.intBits], fun K => .int _ _⟩
  case xor => obtain ⟨n, h1, rfl⟩ := h; simp only [bitsSlow, Option.some.injEq] at h1; subst h1; exact ⟨_, by simp [binOp, Op.intBits], fun K => .int _ _⟩
  case andNot => obtain ⟨n, h1, rfl⟩ := h; simp only [bitsSlow, Option.some.injEq] at h1; subst h1; exact ⟨_, by simp [binOp, Op.intBits], fun K => .int _ _⟩

theorem shift_run {P : Program} {w : World} (op : BinOp) (k k' : IntKind) (a b : Int) (t : TypeId) {v : AV} (h : shiftOp op k a b = some v) :
    ∃ x, (binOp op t (.int k a) (.int k' b)).run P w = .ok x w ∧ ∀ K, VR P K v x := by
  cases b with
  | negSucc n => simp [shiftOp] at h
  | ofNat y =>
    cases op <;> simp only [shiftOp, kI_eq, shlF_eq, shrF_eq, Option.some.injEq, reduceCtorEq] at h
    · subst h; exact ⟨.int k (k.wrap (a * 2 ^ min y k.bits)), by simp [binOp, Op.shift, show ¬ ((y : Int) < 0) by omega], fun K => .int _ _⟩
    · subst h; exact ⟨.int k (a.fdiv (2 ^ min y k.bits)), by simp [binOp, Op.shift, show ¬ ((y : Int) < 0) by omega], fun K => .int _ _⟩

end Hx
