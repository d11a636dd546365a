/- The machine (part 1). -/
import Derived.Test.YtpjkppnbnopmmaaGreatHx0
import Derived.Laws.Cells
import Derived.Laws.CopyRow
import Derived.IntWalk
import Derived.Laws.StructEq
/- The operations that leave memory alone: what the machine computes is what the model computes. -/
namespace Hx
open Go

theorem VR.cells {P : Program} {K : Kx} {v : AV} {x : Value} (h : VR P K v x) : VRs P K v.cells x.cells.toList := by
  have one : ∀ {u : AV} {y : Value}, VR P K u y → VRs P K [u] [y] := fun h => .cons _ _ _ _ h .nil
  cases h with
  | agg cs vs hv => simpa [AV.cells, Value.cells] using hv
  | bool b => exact one (.bool b)
  | int k n => exact one (.int k n)
  | str s => exact one (.str s)
  | nilp => exact one .nilp
  | ptr b o hb => exact one (.ptr b o hb)
  | iptr cs o b q cvs hv ha ho hb => exact one (.iptr cs o b q cvs hv ha ho hb)
  | nils => exact one .nils
  | emp0 => exact one .emp0
  | emp1 a cap => exact one (.emp1 a cap)
  | msl e b o n cap c t fr hb hn hc hs => exact one (.msl e b o n cap c t fr hb hn hc hs)
  | msl0 e b o a hb => exact one (.msl0 e b o a hb)
  | isl cs n b q cap cvs hv ha ho hb hn => exact one (.isl cs n b q cap cvs hv ha ho hb hn)
  | nilm => exact one .nilm
  | mp b hb => exact one (.mp b hb)
  | fn f a c va vc ha hc => exact one (.fn f a c va vc ha hc)
  | yield l hl => exact one (.yield l hl)
  | nilf => exact one .nilf
  | ifc t v x hv => exact one (.ifc t v x hv)
  | nili => exact one .nili
  | tup cs vs hv => exact one (.tup cs vs hv)

/-- a value, without a change -/
def YP (P : Program) (K : Kx) (s : Sem Value) (v : AV) : Prop := ∃ x, s.run P K.w = .ok x K.w ∧ VR P K v x

/-! Integers. -/
theorem fI_some {α : Type} (n : Int) (K : Int → α) : fI n K = K n := fI_eq n K
theorem kI_eq (k : IntKind) (n : Int) : kI k n = some (.int k n) := by unfold kI; rw [fI_eq]
theorem kB_eq (b : Bool) : kB b = some (.bool b) := by unfold kB; rw [fB_eq]
theorem ltI_eq (a b : Int) : ltI a b = decide (a < b) := by
  cases a <;> cases b <;> simp [ltI]
  · rename_i m n; rw [Bool.eq_iff_iff]; simp; omega
  · rename_i m n; omega
  · rename_i m n; omega
  · rename_i m n; rw [Bool.eq_iff_iff]; simp; omega
theorem eqI_eq (a b : Int) : eqI a b = (a == b) := by
  rw [Bool.eq_iff_iff]
  cases a <;> cases b <;> simp [eqI]
  omega
theorem kEq_eq {a b : IntKind} (h : kEq a b = true) : a = b := by cases a <;> cases b <;> simp_all [kEq]

theorem wrap_top (k : IntKind) (m : Nat) (h : m ≤ topOf k) : k.wrap (m : Int) = m := by
  cases k <;> simp only [topOf] at h
  · exact IntWalk.i8_in _ (by omega)
  · exact IntWalk.i16_in _ (by omega)
  · exact IntWalk.i32_in _ (by omega)
  · exact IntWalk.i64_in _ (by omega)
  · exact IntWalk.u8_in _ (by omega)
  · exact IntWalk.u16_in _ (by omega)
  · exact IntWalk.u32_in _ (by omega)
  · exact IntWalk.u64_in _ (by omega)
theorem wrap_neg (k : IntKind) (m : Nat) (hs : k.signed = true) (h : m ≤ topOf k) : k.wrap (Int.negSucc m) = Int.negSucc m := by
  cases k <;> simp only [topOf] at h <;> simp only [IntKind.signed] at hs <;> first | cases hs | skip
  · exact IntWalk.i8_in _ (by omega)
  · exact IntWalk.i16_in _ (by omega)
  · exact IntWalk.i32_in _ (by omega)
  · exact IntWalk.i64_in _ (by omega)

theorem wrapF_eq (k : IntKind) (n : Int) : wrapF k n = k.wrap n := by
  cases n with
  | ofNat m =>
    show bif_ (Nat.ble m (topOf k)) (Int.ofNat m) (k.wrap (.ofNat m)) = _
    rw [bif_eq]
    split
    · rename_i h; rw [Nat.ble_eq] at h; exact (wrap_top k m h).symm
    · rfl
  | negSucc m =>
    show bif_ (k.signed && Nat.ble m (topOf k)) (Int.negSucc m) (k.wrap (.negSucc m)) = _
    rw [bif_eq]
    split
    · rename_i h; rw [Bool.and_eq_true, Nat.ble_eq] at h; exact (wrap_neg k m h.1 h.2).symm
    · rfl

theorem top_lt (k : IntKind) : topOf k < 2 ^ k.bits := by cases k <;> decide
theorem top_pow (k : IntKind) : ∃ j, topOf k + 1 = 2 ^ j ∧ j ≤ k.bits := by
  cases k
  · exact ⟨7, by decide, by decide⟩
  · exact ⟨15, by decide, by decide⟩
  · exact ⟨31, by decide, by decide⟩
  · exact ⟨63, by decide, by decide⟩
  · exact ⟨8, by decide, by decide⟩
  · exact ⟨16, by decide, by decide⟩
  · exact ⟨32, by decide, by decide⟩
  · exact ⟨64, by decide, by decide⟩
theorem ofInt_nat (k : IntKind) (x : Nat) (h : x ≤ topOf k) : (BitVec.ofInt k.bits (x : Int)).toNat = x := by
  rw [BitVec.ofInt_natCast, BitVec.toNat_ofNat]
  exact Nat.mod_eq_of_lt (Nat.lt_of_le_of_lt h (top_lt k))
theorem andNot_nat {n : Nat} (a b : BitVec n) : (a &&& ~~~b) = a ^^^ (a &&& b) := by
  ext i hi
  simp
  cases a[i] <;> cases b[i] <;> rfl

theorem bitsN_eq (op : BinOp) (k : IntKind) (x y : Nat) (hx : x ≤ topOf k) (hy : y ≤ topOf k) : bitsN op x y = bitsSlow op k (x : Int) (y : Int) := by
  obtain ⟨j, hj, _⟩ := top_pow k
  have hx' : x < 2 ^ j := by omega
  have hy' : y < 2 ^ j := by omega
  cases op <;> simp only [bitsN, bitsSlow] <;> congr 1
  · have h : (BitVec.ofInt k.bits (x : Int) &&& BitVec.ofInt k.bits (y : Int)).toNat = x &&& y := by rw [BitVec.toNat_and, ofInt_nat k x hx, ofInt_nat k y hy]
    rw [h]
    have := Nat.and_lt_two_pow x hy'
    exact (wrap_top k (x &&& y) (by omega)).symm
  · have h : (BitVec.ofInt k.bits (x : Int) ||| BitVec.ofInt k.bits (y : Int)).toNat = x ||| y := by rw [BitVec.toNat_or, ofInt_nat k x hx, ofInt_nat k y hy]
    rw [h]
    have := Nat.or_lt_two_pow hx' hy'
    exact (wrap_top k (x ||| y) (by omega)).symm
  · have h : (BitVec.ofInt k.bits (x : Int) ^^^ BitVec.ofInt k.bits (y : Int)).toNat = x ^^^ y := by rw [BitVec.toNat_xor, ofInt_nat k x hx, ofInt_nat k y hy]
    rw [h]
    have := Nat.xor_lt_two_pow hx' hy'
    exact (wrap_top k (x ^^^ y) (by omega)).symm
  · have h : (BitVec.ofInt k.bits (x : Int) &&& ~~~ BitVec.ofInt k.bits (y : Int)).toNat = x ^^^ (x &&& y) := by
      rw [andNot_nat, BitVec.toNat_xor, BitVec.toNat_and, ofInt_nat k x hx, ofInt_nat k y hy]
    rw [h]
    have := Nat.xor_lt_two_pow hx' (Nat.and_lt_two_pow x hy')
    exact (wrap_top k (x ^^^ (x &&& y)) (by omega)).symm
theorem bitsF_eq (op : BinOp) (k : IntKind) (a b : Int) : bitsF op k a b = bitsSlow op k a b := by
  cases a with
  | negSucc m => cases b <;> rfl
  | ofNat x =>
    cases b with
    | negSucc n => rfl
    | ofNat y =>
      show bif_ (Nat.ble x (topOf k) && Nat.ble y (topOf k)) (bitsN op x y) (bitsSlow op k (x : Int) (y : Int)) = _
      rw [bif_eq]
      split
      · rename_i h; rw [Bool.and_eq_true, Nat.ble_eq, Nat.ble_eq] at h; exact bitsN_eq op k x y h.1 h.2
      · rfl
theorem shlF_eq (k : IntKind) (a : Int) (y : Nat) : shlF k a y = k.wrap (a * 2 ^ (min y k.bits)) := by
  cases a with
  | negSucc m => rfl
  | ofNat x =>
    show wrapF k (.ofNat (x * 2 ^ (min y k.bits))) = _
    rw [wrapF_eq]
    congr 1
theorem shrF_eq (k : IntKind) (a : Int) (y : Nat) : shrF k a y = a.fdiv (2 ^ (min y k.bits)) := by
  cases a with
  | negSucc m => rfl
  | ofNat x =>
    show Int.ofNat (x / 2 ^ (min y k.bits)) = Int.fdiv (x : Int) _
    rw [Int.fdiv_eq_ediv_of_nonneg _ (Int.pow_nonneg (by decide))]
    simp

/-- the operations on two integers -/
theorem intOp_run {P : Program} {w : World} (op : BinOp) (k : IntKind) (a b : Int) (t : TypeId) (hs : isShift op = false) {v : AV} (h : intOp op k a b = some v) :
    ∃ x, (binOp op t (.int k a) (.int k b)).run P w = .ok x w ∧ ∀ K, VR P K v x := by
  cases op <;> simp only [intOp, kI_eq, kB_eq, bif_none', eqI_eq, ltI_eq, wrapF_eq, ob_some, bitsF_eq, Option.some.injEq, reduceCtorEq] at h
  case quo => obtain ⟨h0, rfl⟩ := h; simp at h0; exact ⟨_, by simp [binOp, Op.intDiv, h0], fun K => .int _ _⟩
  case rem => obtain ⟨h0, rfl⟩ := h; simp at h0; exact ⟨_, by simp [binOp, Op.intDiv, h0], fun K => .int _ _⟩
  case add => subst h; exact ⟨_, by simp [binOp, Op.intArith], fun K => .int _ _⟩
  case sub => subst h; exact ⟨_, by simp [binOp, Op.intArith], fun K => .int _ _⟩
  case mul => subst h; exact ⟨_, by simp [binOp, Op.intArith], fun K => .int _ _⟩
  case eql => subst h; exact ⟨_, by simp [binOp, Op.intCmp], fun K => .bool _⟩
  case neq => subst h; exact ⟨.bool (a != b), by simp [binOp, Op.intCmp], fun K => .bool _⟩
  case lss => subst h; exact ⟨_, by simp [binOp, Op.intCmp], fun K => .bool _⟩
  case gtr => subst h; exact ⟨_, by simp [binOp, Op.intCmp], fun K => .bool _⟩
  case leq => subst h; exact ⟨.bool (decide (a ≤ b)), by simp [binOp, Op.intCmp], fun K => by rw [show (!decide (b < a)) = decide (a ≤ b) from by rw [Bool.eq_iff_iff]; simp]; exact .bool _⟩
  case geq => subst h; exact ⟨.bool (decide (a ≥ b)), by simp [binOp, Op.intCmp], fun K => by rw [show (!decide (a < b)) = decide (a ≥ b) from by rw [Bool.eq_iff_iff]; simp]; exact .bool _⟩
  case and => obtain ⟨n, h1, rfl⟩ := h; simp only [bitsSlow, Option.some.injEq] at h1; subst h1; exact ⟨_, by simp [binOp, Op.intBits], fun K => .int _ _⟩
  case or => obtain ⟨n, h1, rfl⟩ := h; simp only [bitsSlow, Option.some.injEq] at h1; subst h1; exact ⟨_, by simp [binOp, Op.intBits], fun K => .int _ _⟩
  case xor => obtain ⟨n, h1, rfl⟩ := h; simp only [bitsSlow, Option.some.injEq] at h1; subst h1; exact ⟨_, by simp [binOp, Op.intBits], fun K => .int _ _⟩
  case andNot => obtain ⟨n, h1, rfl⟩ := h; simp only [bitsSlow, Option.some.injEq] at h1; subst h1; exact ⟨_, by simp [binOp, Op.intBits], fun K => .int _ _⟩

theorem shift_run {P : Program} {w : World} (op : BinOp) (k k' : IntKind) (a b : Int) (t : TypeId) {v : AV} (h : shiftOp op k a b = some v) :
    ∃ x, (binOp op t (.int k a) (.int k' b)).run P w = .ok x w ∧ ∀ K, VR P K v x := by
  cases b with
  | negSucc n => simp [shiftOp] at h
  | ofNat y =>
    cases op <;> simp only [shiftOp, kI_eq, shlF_eq, shrF_eq, Option.some.injEq, reduceCtorEq] at h
    · subst h; exact ⟨.int k (k.wrap (a * 2 ^ min y k.bits)), by simp [binOp, Op.shift, show ¬ ((y : Int) < 0) by omega], fun K => .int _ _⟩
    · subst h; exact ⟨.int k (a.fdiv (2 ^ min y k.bits)), by simp [binOp, Op.shift, show ¬ ((y : Int) < 0) by omega], fun K => .int _ _⟩

end Hx

/- The model's code, compiled to the machine's commands. -/
namespace Hx
open Go
noncomputable section

def ofCell : Value → Option AV
  | .bool b => some (.bool b)
  | .int k n => some (.int k n)
  | .string s => some (.str s)
  | .pointer none => some .nilp
  | .slice none 0 0 => some .nils
  | .map none => some .nilm
  | .nilFunc => some .nilf
  | .nilIface => some .nili
  | _ => none
def ofCells : List Value → Option (List AV)
  | [] => some []
  | v :: r => match ofCell v, ofCells r with
    | some x, some l => some (x :: l)
    | _, _ => none
def ofValue : Value → Option AV
  | .agg cs => (ofCells cs.toList).map .agg
  | .tuple cs => (ofCells cs.toList).map .tup
  | v => ofCell v

def szT (P : Program) (t : TypeId) : Option Nat := (P.info? t).map (·.size)
/-- the fields' cells lie one behind the other -/
def eqF (f : TypeId → Option (List Bool)) : List Field → Nat → Option (List Bool)
  | [], _ => some []
  | x :: r, n => if x.name != "_" && x.offset == n then (f x.type).bind fun s => (eqF f r (n + s.length)).map fun l => s ++ l else none
/-- the cells of a type whose values are compared cell by cell: bools (true) or integers -/
def eqL (P : Program) : Nat → TypeId → Option (List Bool)
  | 0, _ => none
  | d + 1, t => match P.underlying t with
    | some .bool => if szT P t = some 1 then some [true] else none
    | some (.int _) => if szT P t = some 1 then some [false] else none
    | some (.struct fs) => if P.stoodInHeld t then none else (eqF (eqL P d) fs.toList 0).bind fun l => if szT P t = some l.length then some l else none
    | some (.array n e) => (eqL P d e).bind fun s => if szT P t = some (n * s.length) then some (List.replicate n s).flatten else none
    | _ => none
def eqC (P : Program) (t : TypeId) (const : Bool) : EqC :=
  match P.underlying t with
  | some .bool => .boo
  | some (.int _) => .num
  | some (.pointer e) => match szT P e with
    | some (_ + 1) => .ptz
    | _ => .ptr
  | some (.slice _) => .slc
  | some (.map _ _) => .map
  | some (.func _ _ _) => .fnc
  | some (.interface _) => if const then .ifc else .no
  | some (.struct _) | some (.array _ _) => match eqL P 6 t with
    | some l => .agg l
    | none => .no
  | _ => .no
def isCon : Operand → Bool
  | .const _ => true
  | _ => false
def zeT (P : Program) (t : TypeId) : Option (List AV) :=
  match P.info? t with
  | some i => match i.zero with
    | some z => ofCells z.cells.toList
    | none => none
  | none => none
def byT (P : Program) (t : TypeId) : Option Nat := (P.info? t).map (·.bytes)
def aggD : TypeDesc → Bool
  | .struct _ | .array .. => true
  | _ => false
def agT (P : Program) (t : TypeId) : Option Bool := (P.underlying t).map aggD
def z1T (P : Program) (t : TypeId) : Option AV :=
  match P.info? t with
  | some i => match i.zero with
    | some z => ofValue z
    | none => none
  | none => none

abbrev CoF := Operand → Option OF

def coL (co : CoF) : List Operand → Option (List OF)
  | [] => some []
  | x :: r => match co x, coL co r with
    | some y, some l => some (y :: l)
    | _, _ => none
def coO (co : CoF) : Option Operand → Option (Option OF)
  | none => some none
  | some x => (co x).map some
def coParts (co : CoF) (place : Nat → Option (Nat × Nat)) : List (Nat × Operand) → Option Parts
  | [] => some []
  | p :: r => match place p.1, co p.2, coParts co place r with
    | some q, some x, some l => some ((q, x) :: l)
    | _, _, _ => none
def places (P : Program) (fs : Array Field) : Option (List (Nat × Nat)) := fs.toList.mapM fun f => (P.info? f.type).map fun i => (f.offset, i.size)
def fieldPl (l : List (Nat × Nat)) (i : Nat) : Option (Nat × Nat) := l[i]?
def elemPl (sz i : Nat) : Option (Nat × Nat) := some (i * sz, sz)

def cBuild (P : Program) (co : CoF) (t : TypeId) (parts : Array (Nat × Operand)) : Option OpK :=
  match P.underlying t, zeT P t with
  | some (.struct fs), some z => match places P fs with
    | some l => (coParts co (fieldPl l) parts.toList).map fun ps => .a (aAgg z ps)
    | none => none
  | some (.array _ e), some z => match szT P e with
    | some sz => (coParts co (elemPl sz) parts.toList).map fun ps => .a (aAgg z ps)
    | none => none
  | _, _ => none
def cBuildSlice (P : Program) (co : CoF) (t : TypeId) (len : Nat) (parts : Array (Nat × Operand)) : Option OpK :=
  match P.underlying t with
  | some (.slice e) => match szT P e, zeT P e, coParts co (elemPl ((szT P e).getD 0)) parts.toList with
    | some sz, some z, some ps => if len * sz ≤ 16777216 ∧ z.length = sz then some (.a (aBsl e len z ps)) else none
    | _, _, _ => none
  | _ => none
def cSlice (P : Program) (co : CoF) (t : TypeId) (x : Operand) (lo hi : Option Operand) : Option OpK :=
  match co x, coO co lo, coO co hi with
  | some x, some lo, some hi => match P.underlying t with
    | some (.slice e) => (szT P e).map fun sz => .a (aSlc e sz x lo hi)
    | some (.array n e) => (szT P e).map fun sz => .a (aSla e sz n x lo hi)
    | _ => none
  | _, _, _ => none
def cSlice3 (P : Program) (co : CoF) (t : TypeId) (x : Operand) (lo : Option Operand) (hi mx : Operand) : Option OpK :=
  match co x, coO co lo, co hi, co mx with
  | some x, some lo, some hi, some mx => match P.underlying t with
    | some (.slice e) => (szT P e).map fun sz => .a (aSlc3 e sz x lo hi mx)
    | _ => none
  | _, _, _, _ => none
def cFieldAddr (P : Program) (co : CoF) (s : TypeId) (x : Operand) (f : Nat) : Option OpK :=
  match P.underlying s, co x with
  | some (.struct fs), some x => match fs[f]? with
    | some fd => match szT P fd.type with
      | some (_ + 1) => some (.a (aFad fd.offset x))
      | _ => none
    | none => none
  | _, _ => none
def cField (P : Program) (co : CoF) (t : TypeId) (x : Operand) (f : Nat) : Option OpK :=
  match P.underlying t, co x with
  | some (.struct fs), some x => match fs[f]? with
    | some fd => match szT P fd.type, agT P fd.type with
      | some n, some a => some (.a (aFld fd.offset n a x))
      | _, _ => none
    | none => none
  | _, _ => none
def cIndexAddr (P : Program) (co : CoF) (t : TypeId) (x i : Operand) : Option OpK :=
  match co x, co i with
  | some x, some i => match P.underlying t with
    | some (.slice e) => (szT P e).map fun sz => .a (aIxs sz x i)
    | some (.array n e) => (szT P e).map fun sz => .a (aIxa n sz x i)
    | _ => none
  | _, _ => none
def cIndex (P : Program) (co : CoF) (t : TypeId) (x i : Operand) : Option OpK :=
  match co x, co i with
  | some x, some i => match P.underlying t with
    | some (.array n e) => match szT P e, agT P e with
      | some sz, some a => some (.a (aIx n sz a x i))
      | _, _ => none
    | some .string => some (.a (aIxc x i))
    | _ => none
  | _, _ => none
def cMakeSlice (P : Program) (co : CoF) (t : TypeId) (l c : Operand) : Option OpK :=
  match P.underlying t, co l, co c with
  | some (.slice e), some l, some c => match szT P e, byT P e, zeT P e with
    | some sz, some by_, some z => if z.length = sz then some (.a (aMks e sz by_ z l c)) else none
    | _, _, _ => none
  | _, _, _ => none
def cLookup (P : Program) (co : CoF) (t : TypeId) (m k : Operand) (ok : Bool) : Option OpK :=
  match P.underlying t, co m, co k with
  | some (.map kt e), some m, some k => (z1T P e).map fun z => .a (aLook (eqC P kt false) z ok m k)
  | _, _, _ => none
def cTypeAssert (P : Program) (co : CoF) (x : Operand) (t : TypeId) (ok : Bool) : Option OpK :=
  match P.underlying t, co x, z1T P t with
  | some (.interface _), _, _ => none
  | some _, some x, some z => some (.a (aTas t z ok x))
  | _, _, _ => none
def cMapUpdate (P : Program) (co : CoF) (t : TypeId) (m k x : Operand) : Option OpK :=
  match P.underlying t, co m, co k, co x with
  | some (.map kt _), some m, some k, some x => some (.e (eMup (eqC P kt false) m k x))
  | _, _, _, _ => none
def cMapEntry (P : Program) (co : CoF) (t : TypeId) (m k : Operand) : Option OpK :=
  match P.underlying t, co m, co k with
  | some (.map kt e), some m, some k => (z1T P e).map fun z => .e (eMen (eqC P kt false) z m k)
  | _, _, _ => none
def slcT (P : Program) (t : TypeId) : Bool := match P.underlying t with | some (.slice _) => true | _ => false
def cAppend (P : Program) (s x : OF) (t u : TypeId) : Option OpK :=
  match P.underlying t with
  | some (.slice e) => match szT P e, byT P e, zeT P e with
    | some sz, some by_, some z => if slcT P u = true ∧ z.length = sz then some (.a (aApp e sz by_ s x)) else none
    | _, _, _ => none
  | _ => none
def cLen (P : Program) (x : OF) (t : TypeId) : Option OpK :=
  match P.underlying t with
  | some (.slice _) => some (.a (aLens x))
  | some (.map _ _) => some (.a (aLenm x))
  | _ => none
def cBuiltin (P : Program) (b : Builtin) (args : List OF) (ts : List TypeId) : Option OpK :=
  match b, args, ts with
  | .append, [s, x], [t, u] => cAppend P s x t u
  | .len, [x], [t] => cLen P x t
  | .min, x :: r, _ => some (.a (aMm false x r))
  | .max, x :: r, _ => some (.a (aMm true x r))
  | .copy, [d, s], [t, _] => match P.underlying t with
    | some (.slice e) => (szT P e).map fun sz => .e (eCpy sz d s)
    | _ => none
  | .clear, [s], [t] => match P.underlying t with
    | some (.slice e) => match szT P e, zeT P e with
      | some sz, some z => if z.length = sz then some (.e (eClr z s)) else none
      | _, _ => none
    | _ => none
  | .panic, [x], _ => some (.pan x)
  | .recover, [], _ => some .rcv
  | _, _, _ => none

def isFunc : Fn → Bool
  | .func _ => true
  | _ => false

def compOp (P : Program) (co : CoF) (o : Op) : Option OpK :=
  match o with
  | .move x | .assign x => (co x).map fun x => .a (aMv x)
  | .pick c a b => match co c, co a, co b with
    | some c, some a, some b => some (.a (aPick c a b))
    | _, _, _ => none
  | .alloc e => (zeT P e).map fun z => .a (aNew z e)
  | .box e x => (co x).map fun x => .a (aBox e x)
  | .build t parts => cBuild P co t parts
  | .buildSlice t len parts => cBuildSlice P co t len parts
  | .load t a => match szT P t, agT P t, co a with
    | some n, some g, some a => some (.a (aLoad n g a))
    | _, _, _ => none
  | .store t a x => match szT P t, co a, co x with
    | some n, some a, some x => some (.e (eStore n a x))
    | _, _, _ => none
  | .nilCheck x => (co x).map fun x => .a (aChk x)
  | .binOp op t x y _ => match co x, co y with
    | some a, some b => some (.a (aBin op (eqC P t (isCon x || isCon y)) a b))
    | _, _ => none
  | .unOp op _ x => (co x).map fun x => .a (aUn op x)
  | .convert src dst x => match P.underlying src, P.underlying dst, co x with
    | some _, some (.int k), some x => some (.a (aConv k x))
    | _, _, _ => none
  | .makeInterface t x => match P.underlying t, co x with
    | some (.interface _), _ => none
    | some _, some x => some (.a (aIfc t x))
    | _, _ => none
  | .makeFunc f first cap => match isFunc f, coL co first.toList, coL co cap.toList with
    | true, some a, some c => some (.a (aMkf f a c))
    | _, _, _ => none
  | .makeMap _ none => some (.a aMkm)
  | .makeSlice t l c => cMakeSlice P co t l c
  | .slice t x lo hi none => cSlice P co t x lo hi
  | .slice t x lo (some hi) (some mx) => cSlice3 P co t x lo hi mx
  | .fieldAddr s x f => cFieldAddr P co s x f
  | .field t x f => cField P co t x f
  | .indexAddr t x i => cIndexAddr P co t x i
  | .index t x i => cIndex P co t x i
  | .lookup t m k ok => cLookup P co t m k ok
  | .typeAssert x _ t ok => cTypeAssert P co x t ok
  | .extract x i => (co x).map fun x => .a (aExt x i)
  | .mapUpdate t m k x | .insert t m k x => cMapUpdate P co t m k x
  | .mapEntry t m k => cMapEntry P co t m k
  | .entryStore _ m st x => match co m, co st, co x with
    | some m, some s, some x => some (.e (eMes m s x))
    | _, _, _ => none
  | .panic x => (co x).map fun x => .pan x
  | .defer c => match c.callee with
    | .value f => match co f, coL co c.args.toList with
      | some f, some as => some (.dfr f as)
      | _, _ => none
    | _ => none
  | .call c => match c.callee with
    | .value f => match co f, coL co c.args.toList with
      | some f, some as => some (.call f as)
      | _, _ => none
    | .builtin b => match coL co c.args.toList with
      | some as => cBuiltin P b as c.argTypes.toList
      | none => none
    | _ => none
  | _ => none

/-! Regions. -/
def idxN (t : Nat) : List Nat → Option Nat
  | [] => none
  | x :: r => if x = t then some 0 else (idxN t r).map (· + 1)
def idxO (t : Nat) : List (Option Nat) → Option Nat
  | [] => none
  | x :: r => if x = some t then some 0 else (idxO t r).map (· + 1)

/-- the variables' slots, how many temporaries there are, tables that never change -/
structure Vn where
  vsl : List Nat
  nt : Nat
  gl : Nat → Option (List AV)

def compX (V : Vn) (ds : List (Option Nat)) : CoF
  | .tmp t => match idxO t ds with
    | some j => some (oStk j)
    | none => (idxN t V.vsl).map oVar
  | .const v => (ofValue v).map oCon
  | .func f => some (oCon (.fn (.func f) [] []))
  | .global g => (V.gl g).map fun cs => oCon (.iptr cs 0)

def compG (all : Array Oper) (ds : List (Option Nat)) : Option (Nat × Bool) → Option (Option (OF × Bool))
  | none => some none
  | some (j, want) => match (all[j]?).bind (·.dst) with
    | some t => (idxO t ds).map fun p => some (oStk p, want)
    | none => none
def isDfr : Op → Bool
  | .defer _ => true
  | _ => false
def dstOk (V : Vn) : Option Nat → Bool
  | none => true
  | some d => decide (d < V.nt)
/-- what cannot be compiled stops the machine -/
def compOpB (P : Program) (co : CoF) (o : Op) : Option OpK := some ((compOp P co o).getD .bad)
def compIts (P : Program) (V : Vn) (rd : Bool) (all : Array Oper) : List Oper → List (Option Nat) → Option (List IT)
  | [], _ => some []
  | o :: r, ds => if (rd && isDfr o.op) || !dstOk V o.dst then none else
    match compOpB P (compX V ds) o.op, compG all ds o.guard, compIts P V rd all r (o.dst :: ds) with
    | some k, some g, some l => some ({ op := k, grd := g, wr := o.dst.bind (idxN · V.vsl) } :: l)
    | _, _, _ => none


/-! Regions that draw their order. -/
/-- what neither reads nor turns memory -/
def pureOp (P : Program) : Op → Bool
  | .move _ | .assign _ | .pick .. | .build .. | .nilCheck _ | .binOp .. | .unOp .. | .convert .. | .makeInterface .. | .makeFunc .. | .fieldAddr .. | .field .. | .indexAddr .. | .index ..
  | .typeAssert .. | .extract .. => true
  | .slice t .. => slcT P t
  | .call { callee := .builtin .len, argTypes := ts, .. } => match ts.toList with | [t] => slcT P t | _ => false
  | .call { callee := .builtin .min, .. } | .call { callee := .builtin .max, .. } => true
  | _ => false
def isCallOp : Op → Bool
  | .call { callee := .value _, .. } => true
  | _ => false
def jumpOp : Op → Bool
  | .call { callee := .value _, .. } | .call { callee := .builtin .panic, .. } | .panic _ => true
  | _ => false

/-- what stands before each operation -/
def bAt (b : List Nat) (i : Nat) : Nat := (getL b i).getD 0
def opAt (os : List Oper) (i : Nat) : Oper := (getL os i).getD default
def edgeM (b : List Nat) : List Edge → Nat
  | [] => 0
  | e :: r => if Region.binds .any e then 2 ^ e.on ||| bAt b e.on ||| edgeM b r else edgeM b r
def befGo : List Oper → List Nat → List Nat
  | [], acc => acc
  | o :: r, acc => fN (edgeM acc o.after.toList) fun m => befGo r (acc ++ [m])
def befOk (b : List Nat) : List Oper → Nat → Bool
  | [], _ => true
  | o :: r, i => Nat.beq (bAt b i) (edgeM b o.after.toList) && befOk b r (i + 1)

def storeOp : Op → Bool
  | .store .. | .mapUpdate .. | .mapEntry .. | .entryStore .. => true
  | _ => false
/-- the first operation of a kind that may come next -/
def nextOp (b : List Nat) (os : List Oper) (mask : Nat) (ok : Op → Bool) : List Nat → Option Nat
  | [] => none
  | i :: r => if mask.testBit i then nextOp b os mask ok r else
    if Nat.beq ((bAt b i) ||| mask) mask && ok (opAt os i).op then some i else nextOp b os mask ok r
def order (b : List Nat) (os : List Oper) (all : List Nat) : Nat → Nat → List Nat
  | 0, _ => []
  | n + 1, mask => match (match nextOp b os mask (fun o => !storeOp o && !isCallOp o) all with
      | some i => some i
      | none => match nextOp b os mask (fun o => !isCallOp o) all with
        | some i => some i
        | none => nextOp b os mask (fun _ => true) all) with
    | some i => i :: fN (mask ||| 2 ^ i) fun mask => order b os all n mask
    | none => []

/-- the operations, in an order -/
def getOps (os : List Oper) : List Nat → Option (List Oper)
  | [] => some []
  | i :: r => match getL os i, getOps os r with
    | some o, some l => some (o :: l)
    | _, _ => none
/-- what may be read late -/
def fltOp (o : Oper) : Bool := o.guard.isNone && (match o.op with | .load .. | .lookup .. => true | _ => false)
/-- the operations among these that are not pure, nor may be read late -/
def maskOf (P : Program) (os : List Oper) : List Nat → Nat
  | [] => 0
  | i :: r => if pureOp P (opAt os i).op || fltOp (opAt os i) then maskOf P os r else 2 ^ i ||| maskOf P os r
/-- i comes behind all that is not pure among these, but for what may be read late -/
def tailOk (P : Program) (b : List Nat) (os : List Oper) (l : List Nat) (i : Nat) : Bool := pureOp P (opAt os i).op || Nat.beq ((bAt b i) ||| maskOf P os l) (bAt b i)
def tailFrom (P : Program) (b : List Nat) (os : List Oper) (perm : List Nat) : Nat → Nat
  | 0 => 0
  | n + 1 => match getL perm n with
    | some i => if tailOk P b os (perm.take n) i then tailFrom P b os perm n else n + 1
    | none => n + 1

def noDup : List Nat → Bool
  | [] => true
  | x :: r => !memN x r && noDup r
def dstsOf (l : List Oper) : List Nat := l.filterMap (·.dst)
/-- who writes t -/
def writer : List Oper → Nat → Nat → Option Nat
  | [], _, _ => none
  | o :: r, t, n => if o.dst = some t then some n else writer r t (n + 1)
/-- who writes t: it stands before i, or i before it -/
def readOk (b : List Nat) (os : List Oper) (i t : Nat) : Bool :=
  match writer os t 0 with
  | none => true
  | some j => (bAt b i).testBit j || (bAt b j).testBit i
def readsOk (b : List Nat) (os : List Oper) (i : Nat) : List Operand → Bool
  | [] => true
  | .tmp t :: r => readOk b os i t && readsOk b os i r
  | _ :: r => readsOk b os i r
def grdOk (m : Nat) : Option (Nat × Bool) → Bool
  | none => true
  | some (j, _) => m.testBit j
def barOk (b : List Nat) (i : Nat) : List Nat → Bool
  | [] => true
  | q :: r => (bAt b q).testBit i && barOk b i r
/-- one place of the order: before: the places before, the nearest first -/
def prePos (P : Program) (b : List Nat) (os : List Oper) (k : Nat) : Nat → List Nat → Nat → List Nat → Bool
  | _, [], _, _ => true
  | p, i :: r, mask, prev =>
    Nat.beq ((bAt b i) ||| mask) mask &&
    readsOk b os i (opAt os i).op.operands.toList &&
    grdOk (bAt b i) (opAt os i).guard &&
    (!jumpOp (opAt os i).op || barOk b i r) &&
    (Nat.ble (p + 1) k || tailOk P b os prev i) &&
    fN (mask ||| 2 ^ i) fun mask => prePos P b os k (p + 1) r mask (i :: prev)
def preOk (P : Program) (b : List Nat) (os : List Oper) (perm : List Nat) (k : Nat) : Bool :=
  Nat.beq (lenL perm) (lenL os) && noDup perm && noDup (dstsOf os) && befOk b os 0 && Nat.ble k (lenL os) && prePos P b os k 0 perm 0 []
/-- none of these is written -/
def noWr (ds : List (Option Nat)) : List Operand → Bool
  | [] => true
  | .tmp t :: r => (idxO t ds).isNone && noWr ds r
  | _ :: r => noWr ds r
/-- what is to be read again: of the operations before (the nearest first) those that are asked for -/
def flChk (P : Program) (V : Vn) (os : List Oper) (ds : List (Option Nat)) (need : Nat → Bool) : List Nat → Nat → Option (List (Nat × AF))
  | [], _ => some []
  | q :: r, j => match flChk P V os ds need r (j + 1) with
    | none => none
    | some c => if fltOp (opAt os q) && need q then
        (if noWr (ds.take (j + 1)) (opAt os q).op.operands.toList then match compOp P (compX V ds) (opAt os q).op with
          | some (.a f) => some ((j, f) :: c)
          | _ => none
        else none)
      else some c
/-- what writes a variable among these stands before i -/
def panOk (V : Vn) (os : List Oper) (b : List Nat) (i : Nat) : List Nat → Bool
  | [] => true
  | q :: r => ((bAt b i).testBit q || ((opAt os q).dst.bind (idxN · V.vsl)).isNone) && panOk V os b i r
def addChk (P : Program) (V : Vn) (os : List Oper) (b : List Nat) (k : Nat) : Nat → List Oper → List Nat → List Nat → List (Option Nat) → List IT → Option (List IT)
  | p, o :: l, i :: r, prev, ds, it :: its =>
    match (if Nat.ble k p && !pureOp P o.op && !fltOp o then flChk P V os ds (fun q => !(bAt b i).testBit q) prev 0 else some []), addChk P V os b k (p + 1) l r (i :: prev) (o.dst :: ds) its with
    | some c, some l => some ({ it with chk := c, pan := Nat.ble k p && isCallOp o.op && panOk V os b i prev } :: l)
    | _, _ => none
  | _, [], [], _, _, [] => some []
  | _, _, _, _, _, _ => none
/-- not behind q, among these -/
def looseAt (P : Program) (os : List Oper) (b : List Nat) (q : Nat) : List Nat → Bool
  | [] => false
  | i :: r => (!pureOp P (opAt os i).op && !(bAt b i).testBit q) || looseAt P os b q r
def compPre (P : Program) (V : Vn) (ops : Array Oper) : Option Cmd :=
  let os := ops.toList
  let b := befGo os []
  let perm := order b os (List.range ops.size) ops.size 0
  let k := tailFrom P b os perm ops.size
  match getOps os perm with
  | some l => match compIts P V true ops l [] with
    | some its0 => match addChk P V os b k 0 l perm [] [] its0, flChk P V os ((l.take k).map (·.dst)).reverse (fun q => looseAt P os b q (perm.drop k)) (perm.take k).reverse 0 with
      | some its, some cs => if preOk P b os perm k then some (cPre cs k its) else none
      | _, _ => none
    | none => none
  | none => none

/-! Code. -/
def nb : Code → Nat
  | .seq a b | .cond _ a b => nb a + nb b
  | .block _ b | .loop b | .scope b => nb b
  | .rangeFunc _ _ a b => nb a + nb b + 1
  | _ => 0
structure RB where
  ps : Array Nat
  assign : Code
  body : Code
def bodyAt : Code → Nat → Option RB
  | .seq a b, i | .cond _ a b, i => if i < nb a then bodyAt a i else bodyAt b (i - nb a)
  | .block _ b, i | .loop b, i | .scope b, i => bodyAt b i
  | .rangeFunc _ ps a b, i => if i = 0 then some ⟨ps, a, b⟩ else if i - 1 < nb a then bodyAt a (i - 1) else bodyAt b (i - 1 - nb a)
  | _, _ => none
def hasGoto : Code → Bool
  | .goto _ => true
  | .seq a b | .cond _ a b => hasGoto a || hasGoto b
  | .block _ b | .loop b | .scope b => hasGoto b
  | .rangeFunc _ _ a b => hasGoto a || hasGoto b
  | _ => false
def idxsN (vsl : List Nat) : List Nat → Option (List Nat)
  | [] => some []
  | p :: r => match idxN p vsl, idxsN vsl r with
    | some i, some l => some (i :: l)
    | _, _ => none

def comp (P : Program) (V : Vn) (rd : Bool) : Code → Nat → Option Cmd
  | .skip, _ | .label _, _ => some cNop
  | .region _ ops draw, _ => if draw then compPre P V ops else (compIts P V rd ops ops.toList []).map cOps
  | .seq a b, n => match comp P V rd a n, comp P V rd b (n + nb a) with
    | some x, some y => some (cSeq x y)
    | _, _ => none
  | .cond c a b, n => match compX V [] c, comp P V rd a n, comp P V rd b (n + nb a) with
    | some x, some y, some z => some (cCnd x y z)
    | _, _, _ => none
  | .block id b, n => (comp P V rd b n).map (cBlk id)
  | .loop b, n => (comp P V rd b n).map cLoop
  | .exit id, _ => some (cExit id)
  | .ret, _ => some cRet
  | .scope b, n => if hasGoto b || rd then none else (comp P V rd b n).map cScope
  | .rangeFunc f ps a b, n => match compX V [] f, idxsN V.vsl ps.toList, comp P V true a (n + 1), comp P V true b (n + 1 + nb a) with
    | some x, some l, some _, some _ => some (cRng x l n)
    | _, _, _, _ => none
  | .goto l, _ => some (cGoto l)
  | .refuse _, _ => none
/-- the label that is jumped to -/
def gotoTo : Code → Option Nat
  | .goto l => some l
  | .seq a b | .cond _ a b => match gotoTo a with
    | some l => some l
    | none => gotoTo b
  | .block _ b | .loop b | .scope b => gotoTo b
  | _ => none
/-- a scope with jumps back to one label -/
def compJ (P : Program) (V : Vn) (b : Code) (n : Nat) : Option Cmd :=
  match gotoTo b with
  | some l => match findLabel b l with
    | some rest => match comp P V false b n, comp P V false rest (n + (nb b - nb rest)) with
      | some x, some y => some (cScopeJ l x y)
      | _, _ => none
    | none => none
  | none => none
def compT (P : Program) (V : Vn) : Code → Nat → Option Cmd
  | .seq a b, n => match compT P V a n, compT P V b (n + nb a) with
    | some x, some y => some (cSeq x y)
    | _, _ => none
  | .block id b, n => (compT P V b n).map (cBlk id)
  | .scope b, n => if hasGoto b then compJ P V b n else comp P V false (.scope b) n
  | c, n => comp P V false c n
def compB (P : Program) (V : Vn) (b : Code) (n : Nat) : Option Cmd := if hasGoto b then compT P V b n else comp P V false b n

/-! Code with recover: the body of a deferred function. -/
def isRcv : Op → Bool
  | .call { callee := .builtin .recover, .. } => true
  | _ => false
def hasRcv : Code → Bool
  | .region _ ops _ => ops.toList.any (isRcv ·.op)
  | .seq a b | .cond _ a b => hasRcv a || hasRcv b
  | .block _ b | .loop b | .scope b => hasRcv b
  | .rangeFunc _ _ a b => hasRcv a || hasRcv b
  | _ => false
def compR (P : Program) (V : Vn) : Code → Nat → Option CmdR
  | .region id ops draw, n => if hasRcv (.region id ops draw) then (if draw then none else (compIts P V true ops ops.toList []).map rOps) else (comp P V false (.region id ops draw) n).map rCmd
  | .seq a b, n => if hasRcv a || hasRcv b then match compR P V a n, compR P V b (n + nb a) with
      | some x, some y => some (rSeq x y)
      | _, _ => none
    else (comp P V false (.seq a b) n).map rCmd
  | .cond c a b, n => if hasRcv a || hasRcv b then match compX V [] c, compR P V a n, compR P V b (n + nb a) with
      | some x, some y, some z => some (rCnd x y z)
      | _, _, _ => none
    else (comp P V false (.cond c a b) n).map rCmd
  | c, n => if hasRcv c then none else (comp P V false c n).map rCmd


/-! Functions. -/
def compRes (P : Program) (V : Vn) : List ResultVar → Option (List IRes)
  | [] => some []
  | .tmp t :: r => match idxN t V.vsl, compRes P V r with
    | some i, some l => some (.var i :: l)
    | _, _ => none
  | .cell a t :: r => match idxN a V.vsl, szT P t, agT P t, compRes P V r with
    | some i, some n, some g, some l => some (.cell i n g :: l)
    | _, _, _, _ => none
def npF (fn : Func) : Nat := fn.params.size + fn.nfree
def vnOk (fn : Func) (vsl : List Nat) : Bool :=
  decide (vsl.take (npF fn) = List.range (npF fn)) && noDup vsl && vsl.all (fun t => decide (t < fn.ntmps)) && decide (npF fn ≤ vsl.length) && fn.name != "runtime.NumGoroutine"
/-- dfr: whether it is a function that is called at the end of others -/
def compF (P : Program) (gl : Nat → Option (List AV)) (vsl : List Nat) (dfr : Bool) (base : Nat) (fn : Func) : Option FnI :=
  match fn.body with
  | none => none
  | some b => if vnOk fn vsl then
      let V : Vn := ⟨vsl, fn.ntmps, gl⟩
      match compB P V b base, compRes P V fn.results.toList with
      | some c, some l => if dfr then (if nb b = 0 ∧ fn.results.toList = [] then (compR P V b base).map fun d => ⟨npF fn, vsl.length - npF fn, c, d, l⟩ else none)
        else some ⟨npF fn, vsl.length - npF fn, c, fun _ _ _ _ _ => none, l⟩
      | _, _ => none
    else none

end
end Hx

/- The operations that read: what the machine computes is what the model computes. -/
namespace Hx
open Go

theorem addr_add (b o j : Nat) : (⟨b, o, none⟩ : Addr).add j = ⟨b, o + j, none⟩ := by
  unfold Addr.add
  split
  · simp_all
  · rfl
theorem cell_of {w : World} {b : Nat} {c : Array Value} {e : TypeId} {fr : Nat × Nat} (h : w.heap[b]? = some (.cells c e fr)) (i : Nat) : w.cell? ⟨b, i, none⟩ = c[i]? := by
  simp [World.cell?, h]

section
variable {G : Gx} {K : Kx} {h : Heap} {ks : List Nat}

theorem getRow_some {b : Nat} {r : List AV × TypeId} : getRow h b = some r ↔ h.get b = some (.row r.1 r.2) := by
  unfold getRow
  rw [ob_some]
  constructor
  · rintro ⟨x, hx, hm⟩
    cases x <;> simp at hm
    subst hm; exact hx
  · intro hg; exact ⟨_, hg, rfl⟩
theorem getMap_some {b : Nat} {r : List (AV × AV × Nat) × Nat} : getMap h b = some r ↔ h.get b = some (.mp r.1 r.2) := by
  unfold getMap
  rw [ob_some]
  constructor
  · rintro ⟨x, hx, hm⟩
    cases x <;> simp at hm
    subst hm; exact hx
  · intro hg; exact ⟨_, hg, rfl⟩

theorem cut_some {l r : List AV} {o n : Nat} : cut l o n = some r ↔ n ≤ l.length - o ∧ r = (l.drop o).take n := by
  rw [cut_eq]
  constructor
  · intro hc; split at hc
    · rename_i hn; cases hc; exact ⟨hn, rfl⟩
    · cases hc
  · rintro ⟨hn, rfl⟩; rw [if_pos hn]

/-- the cells of a row, in the world -/
theorem HR.cellsAt (hr : HR G K h ks) {b : Nat} {cs : List AV} {e : TypeId} (hd : K.D b) (hg : h.get b = some (.row cs e)) :
    ∃ cvs, VRs G.P K cs cvs ∧ K.at (K.bl b) (K.sh b) cvs := by
  obtain ⟨c, cvs, h1, h2, h3, h4⟩ := hr.blk b _ hd hg
  exact ⟨cvs, h2, fun i v hv => by rw [cell_of h1]; exact h3 i v hv⟩

theorem Kx.at.cut {K : Kx} {b q : Nat} {cvs : List Value} (h : K.at b q cvs) (o n : Nat) : K.at b (q + o) ((cvs.drop o).take n) := by
  intro i v hv
  rw [List.getElem?_take] at hv
  split at hv
  · rw [List.getElem?_drop] at hv
    have := h (o + i) v hv
    rwa [← Nat.add_assoc] at this
  · cases hv

theorem loadN_ok (hr : HR G K h ks) {n : Nat} {v : AV} {x : Value} {l : List AV} (hv : VR G.P K v x) (hl : loadN h n v = some l) :
    ∃ b o cvs, x = .pointer (some ⟨b, o, none⟩) ∧ l.length = n ∧ VRs G.P K l cvs ∧ K.at b o cvs := by
  cases hv <;> simp only [loadN, ob_some, cut_some, reduceCtorEq] at hl
  case ptr b o hd =>
    obtain ⟨r, hg, hn, rfl⟩ := hl
    obtain ⟨cvs, h1, h2⟩ := hr.cellsAt hd (getRow_some.1 hg)
    refine ⟨_, _, _, rfl, ?_, (h1.drop o).take n, ?_⟩
    · simp; omega
    · rw [Nat.add_comm o]; exact h2.cut o n
  case iptr cs o b q cvs h1 h2 h3 h4 =>
    obtain ⟨hn, rfl⟩ := hl
    exact ⟨_, _, _, rfl, by simp; omega, (h1.drop o).take n, h2.cut o n⟩

theorem run_loadCells_at {P : Program} (w : World) (b o : Nat) (cvs : List Value) (hc : ∀ i v, cvs[i]? = some v → w.cell? ⟨b, o + i, none⟩ = some v) (n : Nat) (hn : cvs.length = n) :
    (loadCells ⟨b, o, none⟩ n).run P w = .ok cvs.toArray w := by
  subst hn
  exact run_loadCells_list w _ cvs fun j v hv => by rw [addr_add]; exact hc j v hv

theorem run_isAgg {P : Program} {t : TypeId} {g : Bool} (hg : agT P t = some g) (w : World) : (isAgg t).run P w = .ok g w := by
  unfold agT at hg
  cases hu : P.underlying t with
  | none => rw [hu] at hg; cases hg
  | some d =>
    rw [hu] at hg
    simp only [Option.map_some, Option.some.injEq] at hg
    subst hg
    simp only [isAgg, Sem.run_bind, run_underlying hu, Result.andThen]
    cases d <;> rfl
theorem szT_some {P : Program} {t : TypeId} {n : Nat} (hn : szT P t = some n) : ∃ i, P.info? t = some i ∧ i.size = n ∧ P.cellsOf t = n := by
  unfold szT at hn
  cases hi : P.info? t with
  | none => rw [hi] at hn; cases hn
  | some i => rw [hi] at hn; cases hn; exact ⟨i, rfl, rfl, by simp [Program.cellsOf, hi]⟩
theorem run_szT {P : Program} {t : TypeId} {n : Nat} (hn : szT P t = some n) (w : World) : (Go.sizeOf t).run P w = .ok n w := by
  obtain ⟨i, h1, h2, _⟩ := szT_some hn
  simp [Go.sizeOf, typeInfo, h1, h2]

theorem pack_some {g : Bool} {cs : List AV} {v : AV} (hp : pack g cs = some v) {cvs : List Value} {K : Kx} (hv : VRs G.P K cs cvs) :
    (g = true ∧ VR G.P K v (.agg cvs.toArray)) ∨ (g = false ∧ ∃ x, cvs = [x] ∧ VR G.P K v x) := by
  unfold pack at hp
  rw [bif_eq] at hp
  cases g with
  | true => simp at hp; subst hp; exact .inl ⟨rfl, .agg _ _ hv⟩
  | false =>
    simp at hp
    split at hp
    · cases hp
      cases hv with
      | cons _ x _ r h1 h2 => cases h2; exact .inr ⟨rfl, x, rfl, h1⟩
    · cases hp

theorem run_loadVar_at {P : Program} {w : World} {t : TypeId} {n b o : Nat} {g : Bool} {cvs : List Value} (hn : szT P t = some n) (hg : agT P t = some g)
    (hc : ∀ i v, cvs[i]? = some v → w.cell? ⟨b, o + i, none⟩ = some v) (hl : cvs.length = n) :
    (g = true → (loadVar t ⟨b, o, none⟩).run P w = .ok (.agg cvs.toArray) w) ∧ (g = false → ∀ x, cvs = [x] → (loadVar t ⟨b, o, none⟩).run P w = .ok x w) := by
  constructor
  · rintro rfl
    simp [loadVar, run_isAgg hg, run_szT hn, run_loadCells_at w b o cvs hc n hl]
  · rintro rfl x rfl
    have := hc 0 x rfl
    rw [Nat.add_zero] at this
    simp [loadVar, run_isAgg hg, this]

theorem load_ok (hr : HR G K h ks) {t : TypeId} {n : Nat} {g : Bool} (hn : szT G.P t = some n) (hg : agT G.P t = some g) {v : AV} {x : Value} (hv : VR G.P K v x) {l : List AV} (hl : loadN h n v = some l)
    {u : AV} (hp : pack g l = some u) : YP G.P K (Instr.loadAt t x) u := by
  obtain ⟨b, o, cvs, rfl, hlen, h1, h2⟩ := loadN_ok hr hv hl
  have hlen' : cvs.length = n := h1.length.trans hlen
  have hlv := run_loadVar_at hn hg h2 hlen'
  rcases pack_some hp h1 with ⟨rfl, h3⟩ | ⟨rfl, y, rfl, h3⟩
  · exact ⟨_, by simp [Instr.loadAt, Instr.sureAddr, hlv.1 rfl], h3⟩
  · exact ⟨_, by simp [Instr.loadAt, Instr.sureAddr, hlv.2 rfl y rfl], h3⟩

/-! constants -/
theorem ofCell_ok {P : Program} {K : Kx} {c : Value} {v : AV} (hc : ofCell c = some v) : VR P K v c := by
  unfold ofCell at hc
  split at hc <;> cases hc
  · exact .bool _
  · exact .int _ _
  · exact .str _
  · exact .nilp
  · exact .nils
  · exact .nilm
  · exact .nilf
  · exact .nili
theorem ofCells_ok {P : Program} {K : Kx} {l : List Value} {r : List AV} (hc : ofCells l = some r) : VRs P K r l := by
  induction l generalizing r with
  | nil => cases hc; exact .nil
  | cons c l ih =>
    unfold ofCells at hc
    split at hc
    · rename_i x y hx hy; cases hc; exact .cons _ _ _ _ (ofCell_ok hx) (ih hy)
    · cases hc
theorem ofValue_ok {P : Program} {K : Kx} {c : Value} {v : AV} (hc : ofValue c = some v) : VR P K v c := by
  unfold ofValue at hc
  split at hc
  · rename_i cs
    cases ho : ofCells cs.toList with
    | none => rw [ho] at hc; cases hc
    | some l => rw [ho] at hc; cases hc; have := VR.agg (P := P) (K := K) _ _ (ofCells_ok ho); simpa using this
  · rename_i cs
    cases ho : ofCells cs.toList with
    | none => rw [ho] at hc; cases hc
    | some l => rw [ho] at hc; cases hc; have := VR.tup (P := P) (K := K) _ _ (ofCells_ok ho); simpa using this
  · exact ofCell_ok hc
theorem zeT_some {P : Program} {t : TypeId} {l : List AV} (hz : zeT P t = some l) : ∃ i z, P.info? t = some i ∧ i.zero = some z ∧ ∀ K, VRs P K l z.cells.toList := by
  unfold zeT at hz
  split at hz
  · split at hz
    · rename_i i hi _ z hz'; exact ⟨i, z, hi, hz', fun K => ofCells_ok hz⟩
    · cases hz
  · cases hz
theorem run_zeT {P : Program} {t : TypeId} {l : List AV} (hz : zeT P t = some l) (w : World) : ∃ z, (zeroValue t).run P w = .ok z w ∧ ∀ K, VRs P K l z.cells.toList := by
  obtain ⟨i, z, h1, h2, h3⟩ := zeT_some hz
  exact ⟨z, by simp [zeroValue, typeInfo, h1, h2], h3⟩
theorem run_z1T {P : Program} {t : TypeId} {v : AV} (hz : z1T P t = some v) (w : World) : ∃ z, (zeroValue t).run P w = .ok z w ∧ ∀ K, VR P K v z := by
  unfold z1T at hz
  split at hz
  · split at hz
    · rename_i i hi _ z hz'; exact ⟨z, by simp [zeroValue, typeInfo, hi, hz'], fun K => ofValue_ok hz⟩
    · cases hz
  · cases hz

/-! addresses -/
theorem chk_ok {v u : AV} {x : Value} (hv : VR G.P K v x) (hc : chkA v = some u) : u = v ∧ ((∃ a, x = .pointer (some a)) ∨ (∃ f a b, x = .func (.func f) a b) ∨ ∃ l a b, x = .func (.yield l) a b) := by
  cases hv <;> simp [chkA] at hc <;> simp [hc]

theorem fad_ok {v u : AV} {x : Value} {s : TypeId} {fs : Array Field} {f : Nat} {fd : Field} {n : Nat} (hu : G.P.underlying s = some (.struct fs)) (hf : fs[f]? = some fd) (hn : szT G.P fd.type = some (n + 1))
    (hv : VR G.P K v x) (hc : fadA fd.offset v = some u) : YP G.P K (Instr.fieldAt s x f) u := by
  have hp : ∀ a : Addr, (fieldPlace a fd).run G.P K.w = .ok (a.add fd.offset) K.w := fun a => by simp [fieldPlace, run_szT hn]
  cases hv <;> simp only [fadA, fN_eq, Option.some.injEq, reduceCtorEq] at hc <;> subst hc
  case ptr b o hd => exact ⟨.pointer (some ⟨K.bl b, o + K.sh b + fd.offset, none⟩), by simp [Instr.fieldAt, run_underlying hu, hf, Instr.sureAddr, hp, addr_add], by rw [show o + K.sh b + fd.offset = o + fd.offset + K.sh b by omega]; exact .ptr _ _ hd⟩
  case iptr cs o b q cvs h1 h2 h3 h4 => exact ⟨.pointer (some ⟨b, q + o + fd.offset, none⟩), by simp [Instr.fieldAt, run_underlying hu, hf, Instr.sureAddr, hp, addr_add], by rw [Nat.add_assoc]; exact .iptr _ _ _ _ _ h1 h2 h3 h4⟩

theorem natOf_ok {v : AV} {x : Value} {n : Nat} (hv : VR G.P K v x) (hn : natOf v = some n) : ∃ k, x = .int k (n : Int) := by
  cases hv <;> simp [natOf] at hn
  rename_i k i
  cases i <;> simp at hn
  subst hn; exact ⟨k, rfl⟩

theorem ixs_ok {v u : AV} {x y : Value} {t e : TypeId} {sz i : Nat} {k : IntKind} (hu : G.P.underlying t = some (.slice e)) (hn : szT G.P e = some sz)
    (hv : VR G.P K v x) (hy : y = .int k (i : Int)) (hc : ixsA sz v i = some u) : YP G.P K (Instr.indexAt t x y) u := by
  subst hy
  have hp : ∀ (a : Addr) (len cap : Nat), i < len → (Instr.indexAt t (.slice (some a) len cap) (.int k (i : Int))).run G.P K.w = .ok (.pointer (some (a.add (i * sz)))) K.w := fun a len cap hl => by
    simp [Instr.indexAt, asIntOf, run_underlying hu, run_szT hn, hl]
  cases hv <;> simp only [ixsA, bif_none, fN_eq, Nat.ble_eq, Option.some.injEq, reduceCtorEq] at hc
  case msl e' b o n cap c t' fr hd h1 h2 h3 =>
    obtain ⟨hl, rfl⟩ := hc
    exact ⟨_, hp _ _ _ (by omega), by rw [addr_add, show o + K.sh b + i * sz = o + i * sz + K.sh b by omega]; exact .ptr _ _ hd⟩
  case msl0 e' b o a hd =>
    obtain ⟨hl, _⟩ := hc
    omega
  case isl cs n b q cap cvs h1 h2 h3 h4 h5 =>
    obtain ⟨hl, rfl⟩ := hc
    exact ⟨_, hp _ _ _ (by omega), by rw [addr_add]; exact .iptr _ _ _ _ _ h1 h2 h3 h4⟩

theorem ixa_ok {v u : AV} {x y : Value} {t e : TypeId} {len sz i : Nat} {k : IntKind} (hu : G.P.underlying t = some (.array len e)) (hn : szT G.P e = some sz)
    (hv : VR G.P K v x) (hy : y = .int k (i : Int)) (hc : ixaA len sz v i = some u) : YP G.P K (Instr.indexAt t x y) u := by
  subst hy
  simp only [ixaA, bif_none, Nat.ble_eq] at hc
  obtain ⟨hl, hc⟩ := hc
  have hp : ∀ (a : Addr), (Instr.indexAt t (.pointer (some a)) (.int k (i : Int))).run G.P K.w = .ok (.pointer (some (a.add (i * sz)))) K.w := fun a => by
    have : i < len := by omega
    simp [Instr.indexAt, asIntOf, run_underlying hu, run_szT hn, this, Instr.sureAddr]
  cases hv <;> simp only [fN_eq, Option.some.injEq, reduceCtorEq] at hc <;> subst hc
  case ptr b o hd => exact ⟨_, hp _, by rw [addr_add, show o + K.sh b + i * sz = o + i * sz + K.sh b by omega]; exact .ptr _ _ hd⟩
  case iptr cs o b q cvs h1 h2 h3 h4 => exact ⟨_, hp _, by rw [addr_add, Nat.add_assoc]; exact .iptr _ _ _ _ _ h1 h2 h3 h4⟩

theorem extract_ok {P : Program} {K : Kx} {t : TypeId} {n o : Nat} {g : Bool} (hn : szT P t = some n) (hg : agT P t = some g) {cs l : List AV} {cvs : List Value} (hv : VRs P K cs cvs) (hl : cut cs o n = some l)
    {u : AV} (hp : pack g l = some u) : YP P K (Go.part t cvs.toArray o) u := by
  obtain ⟨h1, rfl⟩ := cut_some.1 hl
  have hv' := (hv.drop o).take n
  have hlen := hv.length
  rcases pack_some (G := ⟨P, fun _ => none, fun _ => False, 0⟩) hp hv' with ⟨rfl, h3⟩ | ⟨rfl, y, hy, h3⟩
  · refine ⟨_, by simp [Go.part, run_isAgg hg, run_szT hn]; rfl, ?_⟩
    simpa [List.take_drop] using h3
  · refine ⟨y, ?_, h3⟩
    have hy' : cvs[o]? = some y := by
      have : ((cvs.drop o).take n)[0]? = some y := by rw [hy]; rfl
      rw [List.getElem?_take] at this
      split at this
      · rw [List.getElem?_drop] at this; simpa using this
      · cases this
    simp [Go.part, run_isAgg hg, hy']

theorem fld_ok {v u : AV} {x : Value} {t : TypeId} {fs : Array Field} {f : Nat} {fd : Field} {n : Nat} {g : Bool} (hu : G.P.underlying t = some (.struct fs)) (hf : fs[f]? = some fd) (hn : szT G.P fd.type = some n)
    (hg : agT G.P fd.type = some g) (hv : VR G.P K v x) (hc : fldA fd.offset n g v = some u) : YP G.P K (Instr.field t x f) u := by
  cases hv <;> simp only [fldA, ob_some, reduceCtorEq] at hc
  case agg cs vs hv =>
    obtain ⟨l, hl, hp⟩ := hc
    obtain ⟨y, h1, h2⟩ := extract_ok hn hg hv hl hp
    exact ⟨y, by simp [Instr.field, run_underlying hu, hf, asAgg, h1], h2⟩

theorem ix_ok {v u : AV} {x y : Value} {t e : TypeId} {len sz i : Nat} {k : IntKind} {g : Bool} (hu : G.P.underlying t = some (.array len e)) (hn : szT G.P e = some sz) (hg : agT G.P e = some g)
    (hv : VR G.P K v x) (hy : y = .int k (i : Int)) (hc : ixA len sz g v i = some u) : YP G.P K (Instr.index t x y) u := by
  subst hy
  simp only [ixA, bif_none, Nat.ble_eq] at hc
  obtain ⟨hl, hc⟩ := hc
  cases hv <;> simp only [ob_some, reduceCtorEq] at hc
  case agg cs vs hv =>
    obtain ⟨l, hl', hp⟩ := hc
    obtain ⟨y, h1, h2⟩ := extract_ok hn hg hv hl' hp
    have : i < len := by omega
    exact ⟨y, by simp [Instr.index, run_underlying hu, asIntOf, this, run_szT hn, h1], h2⟩
theorem ixc_ok {v u : AV} {x y : Value} {t : TypeId} {i : Nat} {k : IntKind} (hu : G.P.underlying t = some .string)
    (hv : VR G.P K v x) (hy : y = .int k (i : Int)) (hc : ixcA v i = some u) : YP G.P K (Instr.index t x y) u := by
  subst hy
  cases hv <;> simp only [ixcA, ob_some, kI_eq, Option.some.injEq, reduceCtorEq] at hc
  case str s =>
    obtain ⟨b, hb, rfl⟩ := hc
    have hb' : s[i]? = some b := hb
    exact ⟨_, by simp [Instr.index, run_underlying hu, asIntOf, hb'], .int _ _⟩

theorem ext_ok {v u : AV} {x : Value} {i : Nat} (hv : VR G.P K v x) (hc : extA v i = some u) : YP G.P K (Instr.extract x i) u := by
  cases hv <;> simp only [extA, getL_eq, reduceCtorEq] at hc
  case tup cs vs hv =>
    obtain ⟨y, h1, h2⟩ := hv.get hc
    exact ⟨y, by simp [Instr.extract, h1], h2⟩

theorem tas_ok {v u z : AV} {x : Value} {xt t : TypeId} {ok : Bool} {d : TypeDesc} (hu : G.P.underlying t = some d) (hd : ∀ ms, d ≠ .interface ms) (hz : z1T G.P t = some z)
    (hv : VR G.P K v x) (hc : tasA t z ok v = some u) : YP G.P K (Instr.typeAssert x xt t ok) u := by
  obtain ⟨zv, hz1, hz2⟩ := run_z1T hz K.w
  have no : ok = true → ∀ (st dy : Option TypeId) (m : String), True := fun _ _ _ _ => trivial
  cases hv <;> simp only [tasA, reduceCtorEq] at hc
  case nili =>
    rw [bif_none] at hc
    obtain ⟨rfl, hc⟩ := hc
    cases hc
    refine ⟨.tuple #[zv, .bool false], ?_, VR.tup _ [zv, .bool false] (.cons _ _ _ _ (hz2 K) (.cons _ _ _ _ (.bool _) .nil))⟩
    cases d <;> first | exact absurd rfl (hd _) | simp [Instr.typeAssert, run_underlying hu, hz1]
  case ifc s w y hy =>
    rw [bif_eq] at hc
    by_cases hst : Nat.beq s t = true
    · rw [if_pos hst] at hc
      rw [Nat.beq_eq] at hst
      subst hst
      simp only [Option.some.injEq] at hc
      cases ok with
      | true =>
        simp [bif_] at hc; subst hc
        refine ⟨.tuple #[y, .bool true], ?_, VR.tup _ [y, .bool true] (.cons _ _ _ _ hy (.cons _ _ _ _ (.bool _) .nil))⟩
        cases d <;> first | exact absurd rfl (hd _) | simp [Instr.typeAssert, run_underlying hu]
      | false =>
        simp [bif_] at hc; subst hc
        refine ⟨y, ?_, hy⟩
        cases d <;> first | exact absurd rfl (hd _) | simp [Instr.typeAssert, run_underlying hu]
    · rw [if_neg hst] at hc
      have hne : s ≠ t := fun e => hst (by rw [Nat.beq_eq]; exact e)
      cases ok with
      | true =>
        simp [bif_] at hc; subst hc
        refine ⟨.tuple #[zv, .bool false], ?_, VR.tup _ [zv, .bool false] (.cons _ _ _ _ (hz2 K) (.cons _ _ _ _ (.bool _) .nil))⟩
        cases d <;> first | exact absurd rfl (hd _) | simp [Instr.typeAssert, run_underlying hu, hne, hz1]
      | false => simp [bif_] at hc

theorem conv_ok {v u : AV} {x : Value} {s t : TypeId} {k : IntKind} {d : TypeDesc} (hs : G.P.underlying s = some d) (hu : G.P.underlying t = some (.int k)) (hv : VR G.P K v x) (hc : convA k v = some u) :
    YP G.P K (convert s t x) u := by
  cases hv <;> simp only [convA, kI_eq, wrapF_eq, Option.some.injEq, reduceCtorEq] at hc
  case int k' n => subst hc; exact ⟨_, by simp [convert, run_underlying hs, run_underlying hu, Conv.intToInt], .int _ _⟩

theorem un_ok {v u : AV} {x : Value} {op : UnOp} (hv : VR G.P K v x) (hc : unop op v = some u) : YP G.P K (Op.unary op x) u := by
  cases hv <;> cases op <;> simp only [unop, kI_eq, kB_eq, wrapF_eq, bitsSlow, ob_some, Option.some.injEq, reduceCtorEq] at hc
  case int.neg k n => subst hc; exact ⟨_, by simp [Op.unary, Op.intArith], .int _ _⟩
  case int.xor k n => obtain ⟨m, h1, rfl⟩ := hc; subst h1; exact ⟨_, by simp [Op.unary, Op.intBits], .int _ _⟩
  case bool.not b => subst hc; exact ⟨_, by simp [Op.unary], .bool _⟩

theorem mm_ok {mx : Bool} {v : AV} {l : List AV} {u : AV} {x : Value} {xs : List Value} (hv : VR G.P K v x) (hl : VRs G.P K l xs) (hc : mmA mx v l = some u) :
    YP G.P K (xs.foldlM (if mx then Builtin.max2 else Builtin.min2) x) u := by
  induction l generalizing v x xs with
  | nil =>
    cases hl
    have : v = u := by simpa [mmA] using hc
    subst this
    exact ⟨x, by simp, hv⟩
  | cons y l ih =>
    cases hl with
    | cons _ y' _ r hy hr =>
      have hc' : ob (mm2 mx v y) (fun v => mmA mx v l) = some u := hc
      rw [ob_some] at hc'
      obtain ⟨z, hz, hc'⟩ := hc'
      cases hv <;> simp only [mm2, reduceCtorEq] at hz
      case int k a =>
        cases hy <;> simp only [bif_eq, Option.some.injEq, reduceCtorEq] at hz
        case int k' b =>
          subst hz
          obtain ⟨x', h1, h2⟩ := ih (x := .int k (if (if mx then ltI a b else ltI b a) = true then b else a)) (.int _ _) hr hc'
          refine ⟨x', ?_, h2⟩
          rw [← h1]
          cases mx <;> simp [List.foldlM_cons, Builtin.max2, Builtin.min2, ltI_eq]

end
end Hx

/- Slicing, equality, maps, composite values, lengths. -/
namespace Hx
open Go

section
variable {G : Gx} {K : Kx} {h : Heap} {ks : List Nat}

/-- a slice bound, as a value -/
def BoundV (d : Nat) (lo : Option Value) (l : Nat) : Prop := (lo = none ∧ l = d) ∨ ∃ k, lo = some (.int k (l : Int))

theorem run_sliceBound {P : Program} {w : World} {k : IntKind} {n m : Nat} {c : BoundsCode} (hn : n ≤ m) : (Instr.sliceBound (.int k (n : Int)) m c).run P w = .ok n w := by
  simp [Instr.sliceBound, asIntOf, hn]
theorem run_sliceBounds {P : Program} {w : World} {s : Bool} {len cap l u : Nat} {lo hi : Option Value} (hl : BoundV 0 lo l) (hu : BoundV len hi u) (h1 : l ≤ u) (h2 : u ≤ cap) :
    (Instr.sliceBounds s len cap lo hi none).run P w = .ok (l, u, cap) w := by
  rcases hl with ⟨rfl, rfl⟩ | ⟨k, rfl⟩ <;> rcases hu with ⟨rfl, rfl⟩ | ⟨k', rfl⟩
  · simp [Instr.sliceBounds]
  · simp [Instr.sliceBounds, run_sliceBound h2]
  · simp [Instr.sliceBounds, run_sliceBound h1]
  · simp [Instr.sliceBounds, run_sliceBound h2, run_sliceBound h1]

theorem slc_ok {v r : AV} {x : Value} {t e sz : Nat} {lo hi : Option Value} {l u len : Nat} (hu : G.P.underlying t = some (.slice e)) (hn : szT G.P e = some sz)
    (hv : VR G.P K v x) (hlen : lenA v = some len) (hlo : BoundV 0 lo l) (hhi : BoundV len hi u) (hc : slcA e sz v l u len = some r) : YP G.P K (Instr.sliceAt t x lo hi none) r := by
  simp only [slcA, bif_none, Bool.and_eq_true, Nat.ble_eq] at hc
  obtain ⟨⟨h1, h2⟩, hc⟩ := hc
  obtain ⟨_, _, _, hce⟩ := szT_some hn
  have hp : ∀ (a : Option Addr) (cap : Nat), len ≤ cap → (Instr.sliceAt t (.slice a len cap) lo hi none).run G.P K.w =
      .ok (.slice (if cap = l then a else a.map (·.add (l * sz))) (u - l) (cap - l)) K.w := fun a cap hcap => by
    simp [Instr.sliceAt, run_underlying hu, Instr.slice, run_sliceBounds hlo hhi h1 (Nat.le_trans h2 hcap), run_szT hn]
  cases hv <;> simp only [lenA, Option.some.injEq, reduceCtorEq] at hlen <;> subst hlen <;> simp only [fN_eq, ob_some, bif_none, Option.some.injEq] at hc
  case nils =>
    subst hc
    have : u = 0 := by omega
    have : l = 0 := by omega
    subst_vars
    exact ⟨_, hp none 0 (Nat.le_refl _), by simpa using VR.nils⟩
  case emp0 =>
    subst hc
    have : u = 0 := by omega
    have : l = 0 := by omega
    subst_vars
    exact ⟨_, hp none 0 (Nat.le_refl _), by simpa using VR.emp0⟩
  case emp1 a cap =>
    subst hc
    have : u = 0 := by omega
    have : l = 0 := by omega
    subst_vars
    refine ⟨_, hp (some a) cap (Nat.zero_le _), ?_⟩
    split
    · exact VR.emp1 _ _
    · exact VR.emp1 _ _
  case msl e' b o n cap c t' fr hd hcap h3 h4 =>
    obtain ⟨he, rfl⟩ := hc
    rw [Nat.beq_eq] at he; subst he
    refine ⟨_, hp _ cap hcap, ?_⟩
    by_cases hcl : cap = l
    · rw [if_pos hcl]
      have e1 : u - l = 0 := by omega
      have e2 : cap - l = 0 := by omega
      rw [e1, e2]
      exact .msl0 _ _ _ _ hd
    · rw [if_neg hcl]
      simp only [Option.map_some, addr_add]
      rw [show o + K.sh b + l * sz = o + l * sz + K.sh b by omega]
      refine .msl _ _ _ _ _ c t' fr hd (by omega) h3 ?_
      rw [hce] at h4 ⊢
      have : l * sz + (cap - l) * sz = cap * sz := by rw [← Nat.add_mul]; congr 1; omega
      omega
  case msl0 e' b o a hd =>
    obtain ⟨he, rfl⟩ := hc
    rw [Nat.beq_eq] at he; subst he
    have : u = 0 := by omega
    have : l = 0 := by omega
    subst_vars
    refine ⟨_, hp (some a) 0 (Nat.zero_le _), ?_⟩
    simp only [if_true, Nat.sub_self]
    exact .msl0 _ _ _ _ hd
  case isl cs n b q cap cvs h3 h4 h5 h6 h7 =>
    obtain ⟨cs', hcs, rfl⟩ := hc
    obtain ⟨h8, rfl⟩ := cut_some.1 hcs
    refine ⟨_, hp _ cap h7, ?_⟩
    by_cases hcl : cap = l
    · rw [if_pos hcl]
      have e1 : u - l = 0 := by omega
      rw [e1]
      refine .isl _ _ _ _ _ [] (by simpa using VRs.nil) (fun i v hi => by simp at hi) h5 h6 (by omega)
    · rw [if_neg hcl]
      simp only [Option.map_some, addr_add]
      exact .isl _ _ _ _ _ _ ((h3.drop _).take _) (h4.cut _ _) h5 h6 (by omega)

theorem run_sliceBounds3 {P : Program} {w : World} {s : Bool} {len cap l u m : Nat} {lo : Option Value} {k k' : IntKind} (hl : BoundV 0 lo l) (h1 : l ≤ u) (h2 : u ≤ m) (h3 : m ≤ cap) :
    (Instr.sliceBounds s len cap lo (some (.int k (u : Int))) (some (.int k' (m : Int)))).run P w = .ok (l, u, m) w := by
  rcases hl with ⟨rfl, rfl⟩ | ⟨k, rfl⟩
  · simp [Instr.sliceBounds, run_sliceBound h3, run_sliceBound h2]
  · simp [Instr.sliceBounds, run_sliceBound h3, run_sliceBound h2, run_sliceBound h1]

theorem slc3_ok {v r : AV} {x : Value} {t e sz : Nat} {lo : Option Value} {l u m len : Nat} {k k' : IntKind} (hu : G.P.underlying t = some (.slice e)) (hn : szT G.P e = some sz)
    (hv : VR G.P K v x) (hlen : lenA v = some len) (hlo : BoundV 0 lo l) (hum : u ≤ m) (hml : m ≤ len) (hc : slcA e sz v l u len = some r) : YP G.P K (Instr.sliceAt t x lo (some (.int k (u : Int))) (some (.int k' (m : Int)))) r := by
  simp only [slcA, bif_none, Bool.and_eq_true, Nat.ble_eq] at hc
  obtain ⟨⟨h1, h2⟩, hc⟩ := hc
  obtain ⟨_, _, _, hce⟩ := szT_some hn
  have hp : ∀ (a : Option Addr) (cap : Nat), len ≤ cap → (Instr.sliceAt t (.slice a len cap) lo (some (.int k (u : Int))) (some (.int k' (m : Int)))).run G.P K.w =
      .ok (.slice (if m = l then a else a.map (·.add (l * sz))) (u - l) (m - l)) K.w := fun a cap hcap => by
    simp [Instr.sliceAt, run_underlying hu, Instr.slice, run_sliceBounds3 hlo h1 hum (Nat.le_trans hml hcap), run_szT hn]
  cases hv <;> simp only [lenA, Option.some.injEq, reduceCtorEq] at hlen <;> subst hlen <;> simp only [fN_eq, ob_some, bif_none, Option.some.injEq] at hc
  case nils =>
    subst hc
    have : u = 0 := by omega
    have : l = 0 := by omega
    have : m = 0 := by omega
    subst_vars
    exact ⟨_, hp none 0 (Nat.le_refl _), by simpa using VR.nils⟩
  case emp0 =>
    subst hc
    have : u = 0 := by omega
    have : l = 0 := by omega
    have : m = 0 := by omega
    subst_vars
    exact ⟨_, hp none 0 (Nat.le_refl _), by simpa using VR.emp0⟩
  case emp1 a cap =>
    subst hc
    have : u = 0 := by omega
    have : l = 0 := by omega
    have : m = 0 := by omega
    subst_vars
    refine ⟨_, hp (some a) cap (Nat.zero_le _), ?_⟩
    split
    · exact VR.emp1 _ _
    · exact VR.emp1 _ _
  case msl e' b o n cap c t' fr hd hcap h3 h4 =>
    obtain ⟨he, rfl⟩ := hc
    rw [Nat.beq_eq] at he; subst he
    refine ⟨_, hp _ cap hcap, ?_⟩
    by_cases hcl : m = l
    · rw [if_pos hcl]
      have e1 : u - l = 0 := by omega
      have e2 : m - l = 0 := by omega
      rw [e1, e2]
      exact .msl0 _ _ _ _ hd
    · rw [if_neg hcl]
      simp only [Option.map_some, addr_add]
      rw [show o + K.sh b + l * sz = o + l * sz + K.sh b by omega]
      refine .msl _ _ _ _ _ c t' fr hd (by omega) h3 ?_
      rw [hce] at h4 ⊢
      have : l * sz + (m - l) * sz = m * sz := by rw [← Nat.add_mul]; congr 1; omega
      have : m * sz ≤ cap * sz := Nat.mul_le_mul_right _ (by omega)
      omega
  case msl0 e' b o a hd =>
    obtain ⟨he, rfl⟩ := hc
    rw [Nat.beq_eq] at he; subst he
    have : u = 0 := by omega
    have : l = 0 := by omega
    have : m = 0 := by omega
    subst_vars
    refine ⟨_, hp (some a) 0 (Nat.zero_le _), ?_⟩
    simp only [if_true, Nat.sub_self]
    exact .msl0 _ _ _ _ hd
  case isl cs n b q cap cvs h3 h4 h5 h6 h7 =>
    obtain ⟨cs', hcs, rfl⟩ := hc
    obtain ⟨h8, rfl⟩ := cut_some.1 hcs
    refine ⟨_, hp _ cap h7, ?_⟩
    by_cases hcl : m = l
    · rw [if_pos hcl]
      have e1 : u - l = 0 := by omega
      rw [e1]
      refine .isl _ _ _ _ _ [] (by simpa using VRs.nil) (fun i v hi => by simp at hi) h5 h6 (by omega)
    · rw [if_neg hcl]
      simp only [Option.map_some, addr_add]
      exact .isl _ _ _ _ _ _ ((h3.drop _).take _) (h4.cut _ _) h5 h6 (by omega)

theorem sla_ok (hr : HR G K h ks) {v r : AV} {x : Value} {t e sz n : Nat} {lo hi : Option Value} {l u : Nat} (hu : G.P.underlying t = some (.array n e)) (hn : szT G.P e = some sz)
    (hv : VR G.P K v x) (hlo : BoundV 0 lo l) (hhi : BoundV n hi u) (hc : slaA h e sz n v l u = some r) : YP G.P K (Instr.sliceAt t x lo hi none) r := by
  simp only [slaA, bif_none, Bool.and_eq_true, Nat.ble_eq] at hc
  obtain ⟨⟨h1, h2⟩, hc⟩ := hc
  obtain ⟨_, _, _, hce⟩ := szT_some hn
  have hp : ∀ (a : Addr), (Instr.sliceAt t (.pointer (some a)) lo hi none).run G.P K.w =
      .ok (.slice (some (if n = l then a else a.add (l * sz))) (u - l) (n - l)) K.w := fun a => by
    simp [Instr.sliceAt, run_underlying hu, Instr.sureAddr, run_sliceBounds hlo hhi h1 h2, run_szT hn]
  cases hv <;> simp only [fN_eq, ob_some, bif_none, Nat.ble_eq, Option.some.injEq, reduceCtorEq] at hc
  case ptr b o hd =>
    obtain ⟨row, hg, hle, rfl⟩ := hc
    rw [lenL_eq] at hle
    obtain ⟨c, cvs, h3, h4, h5, h6⟩ := hr.blk b _ hd (getRow_some.1 hg)
    refine ⟨_, hp _, ?_⟩
    by_cases hcl : n = l
    · rw [if_pos hcl]
      have e1 : u - l = 0 := by omega
      have e2 : n - l = 0 := by omega
      rw [e1, e2]
      exact .msl0 _ _ _ _ hd
    · rw [if_neg hcl, addr_add, show o + K.sh b + l * sz = o + l * sz + K.sh b by omega]
      refine .msl _ _ _ _ _ c _ _ hd (by omega) h3 ?_
      rw [hce]
      have : l * sz + (n - l) * sz = n * sz := by rw [← Nat.add_mul]; congr 1; omega
      omega
  case iptr cs o b q cvs h3 h4 h5 h6 =>
    obtain ⟨cs', hcs, rfl⟩ := hc
    obtain ⟨h8, rfl⟩ := cut_some.1 hcs
    refine ⟨_, hp _, ?_⟩
    by_cases hcl : n = l
    · rw [if_pos hcl]
      have e1 : u - l = 0 := by omega
      rw [e1]
      exact .isl _ _ _ _ _ [] (by simpa using VRs.nil) (fun i v hi => by simp at hi) h5 h6 (by omega)
    · rw [if_neg hcl, addr_add, Nat.add_assoc]
      exact .isl _ _ _ _ _ _ ((h3.drop _).take _) (h4.cut _ _) h5 h6 (by omega)

theorem lens_ok {v r : AV} {x : Value} {t e ty : TypeId} (hu : G.P.underlying t = some (.slice e)) (hv : VR G.P K v x) (hc : lensA v = some r) : YP G.P K (Builtin.len_ #[t] ty #[x]) r := by
  simp only [lensA, ob_some, fN_eq, Option.some.injEq] at hc
  obtain ⟨n, h1, rfl⟩ := hc
  cases hv <;> simp only [lenA, Option.some.injEq, reduceCtorEq] at h1 <;> try subst h1
  all_goals exact ⟨_, by simp [Builtin.len_, run_underlying hu]; rfl, .int _ _⟩


/-! The number of entries; looking a key up. -/
theorem MR.length {l : List (AV × AV × Nat)} {r : List MapEntry} {P : Program} {K : Kx} (hm : MR P K l r) : r.length = l.length := by
  induction hm with
  | nil => rfl
  | cons => simp [*]
theorem HR.map (hr : HR G K h ks) {b : Nat} {es : List (AV × AV × Nat)} {n : Nat} (hd : K.D b) (hg : h.get b = some (.mp es n)) :
    ∃ ces, K.w.heap[K.bl b]? = some (.map ces n) ∧ MR G.P K es ces.toList ∧ Stamps es n := hr.blk b _ hd hg
theorem run_getObj_map {P : Program} {w : World} {b : Nat} {es : Array MapEntry} {n : Nat} (hb : w.heap[b]? = some (.map es n)) : (getObj b).run P w = .ok (.map es n) w := by
  simp [getObj, Sem.run, hb]

theorem lenm_ok (hr : HR G K h ks) {v r : AV} {x : Value} {t k e ty : TypeId} (hu : G.P.underlying t = some (.map k e)) (hv : VR G.P K v x) (hc : lenmA h v = some r) : YP G.P K (Builtin.len_ #[t] ty #[x]) r := by
  cases hv <;> simp only [lenmA, ob_some, fN_eq, lenL_eq, Option.some.injEq, reduceCtorEq] at hc
  case nilm => subst hc; exact ⟨_, by simp [Builtin.len_, run_underlying hu]; rfl, .int _ _⟩
  case mp b hd =>
    obtain ⟨m, h1, rfl⟩ := hc
    obtain ⟨ces, h2, h3, _⟩ := hr.map hd (getMap_some.1 h1)
    have := h3.length
    refine ⟨goInt ces.size, by simp [Builtin.len_, run_underlying hu, run_getObj_map h2], ?_⟩
    have e : ces.size = m.1.length := by simpa using this
    rw [e]
    exact .int _ _

end
end Hx

/- Equality cell by cell, and the keys of maps. -/
namespace Hx
open Go

section
variable {P : Program} {K : Kx}

theorem eqCell_run {a b : AV} {x y : Value} {p : Bool} (ha : VR P K a x) (hb : VR P K b y) {r : Bool} (hc : eqCell p a b = some r) :
    (p = true ∧ ∃ u v, x = .bool u ∧ y = .bool v ∧ r = (u == v)) ∨ (p = false ∧ ∃ k u v, x = .int k u ∧ y = .int k v ∧ r = (u == v)) := by
  cases p <;> cases ha <;> cases hb <;> simp only [eqCell, bif_none, eqI_eq, Option.some.injEq, reduceCtorEq] at hc
  case false.int.int k p k' q => obtain ⟨h1, rfl⟩ := hc; have := kEq_eq h1; subst this; exact .inr ⟨rfl, k, p, q, rfl, rfl, rfl⟩
  case true.bool.bool p q => exact .inl ⟨rfl, p, q, rfl, rfl, hc.symm⟩

theorem eqCells_len {ps : List Bool} {a b : List AV} {r : Bool} (hc : eqCells ps a b = some r) : a.length = ps.length ∧ b.length = ps.length := by
  induction ps generalizing a b r with
  | nil => cases a <;> cases b <;> simp_all [eqCells]
  | cons p ps ih => cases a <;> cases b <;> simp only [eqCells, ob_some, reduceCtorEq] at hc
                    obtain ⟨_, _, _, h2, _⟩ := hc
                    have := ih h2
                    simp [this]
theorem eqCells_append {p1 p2 : List Bool} {a b : List AV} {r : Bool} (hc : eqCells (p1 ++ p2) a b = some r) :
    ∃ r1 r2, eqCells p1 (a.take p1.length) (b.take p1.length) = some r1 ∧ eqCells p2 (a.drop p1.length) (b.drop p1.length) = some r2 ∧ r = (r1 && r2) := by
  induction p1 generalizing a b r with
  | nil => exact ⟨true, r, by simp [eqCells], by simpa using hc, by simp⟩
  | cons p p1 ih =>
    cases a <;> cases b <;> simp only [eqCells, List.cons_append, ob_some, Option.some.injEq, reduceCtorEq] at hc
    obtain ⟨q, h1, s, h2, rfl⟩ := hc
    obtain ⟨r1, r2, h3, h4, rfl⟩ := ih h2
    exact ⟨q && r1, r2, by simp [eqCells, h1, h3, ob], by simpa using h4, by cases q <;> rfl⟩

/-- a value of a type, out of its cells -/
def Shape (P : Program) (t : TypeId) (xs : List Value) (x : Value) : Prop := (agT P t = some true ∧ x = .agg xs.toArray) ∨ (agT P t = some false ∧ xs = [x])

theorem run_part {t : TypeId} {n o : Nat} (w : World) (hn : szT P t = some n) (hg : (agT P t).isSome = true) (h1 : agT P t = some false → n = 1) {xs : List Value} (hl : n = 0 ∨ o + n ≤ xs.length) :
    ∃ x, (Go.part t xs.toArray o).run P w = .ok x w ∧ Shape P t ((xs.drop o).take n) x := by
  cases hg' : agT P t with
  | none => rw [hg'] at hg; cases hg
  | some g =>
    cases g with
    | true => exact ⟨.agg ((xs.drop o).take n).toArray, by simp [Go.part, run_isAgg hg', run_szT hn, List.take_drop], .inl ⟨hg', rfl⟩⟩
    | false =>
      have := h1 hg'
      subst this
      have ho : o < xs.length := by omega
      refine ⟨xs[o], by simp [Go.part, run_isAgg hg', ho], .inr ⟨hg', ?_⟩⟩
      rw [List.drop_eq_getElem_cons ho]; rfl

theorem eqL_size {d : Nat} {t : TypeId} {l : List Bool} (he : eqL P d t = some l) : szT P t = some l.length ∧ (agT P t).isSome = true ∧ (agT P t = some false → l.length = 1) := by
  cases d with
  | zero => simp [eqL] at he
  | succ d =>
    unfold eqL at he
    unfold agT
    split at he
    · rename_i hu; split at he
      · rename_i h1; cases he; exact ⟨h1, by simp [hu], fun _ => rfl⟩
      · cases he
    · rename_i hu; split at he
      · rename_i h1; cases he; exact ⟨h1, by simp [hu], fun _ => rfl⟩
      · cases he
    · rename_i fs hu; split at he
      · cases he
      · rw [Option.bind_eq_some_iff] at he
        obtain ⟨m, _, he⟩ := he
        split at he
        · rename_i h2; cases he; exact ⟨h2, by simp [hu], fun h => by simp [hu, aggD] at h⟩
        · cases he
    · rename_i m e hu
      rw [Option.bind_eq_some_iff] at he
      obtain ⟨s, _, he⟩ := he
      split at he
      · rename_i h2; cases he; exact ⟨by simpa using h2, by simp [hu], fun h => by simp [hu, aggD] at h⟩
      · cases he
    · cases he

/-- the elements of an array, compared one by one -/
def eqElems (d : Nat) (e : TypeId) (n : Nat) (xs ys : Array Value) : List Nat → Sem Bool
  | [] => pure true
  | i :: r => do
    let a ← part e xs (i * n)
    let b ← part e ys (i * n)
    let q ← Op.equalIn d e a b
    if (!q) = true then pure false else eqElems d e n xs ys r

theorem run_equalIn_array (w : World) (d : Nat) (t e : TypeId) (len n : Nat) (xs ys : Array Value) (ht : P.underlying t = some (.array len e)) (hn : szT P e = some n) :
    (Op.equalIn (d + 1) t (.agg xs) (.agg ys)).run P w = (eqElems d e n xs ys (List.range' 0 len)).run P w := by
  simp only [Op.equalIn, Sem.run_bind, run_underlying ht, Result.andThen_ok, run_szT hn]
  rw [Std.Legacy.Range.forIn_eq_forIn_range']
  simp only [Std.Legacy.Range.size, Nat.sub_zero, Nat.add_sub_cancel, Nat.div_one]
  generalize List.range' 0 len = l
  induction l generalizing w with
  | nil => simp [eqElems]
  | cons i l ih =>
    simp only [List.forIn_cons, eqElems, Sem.run_bind]
    generalize (part e xs (i * n)).run P w = r1
    cases r1 with
    | ok a w1 =>
      simp only [Result.andThen_ok]
      generalize (part e ys (i * n)).run P w1 = r2
      cases r2 with
      | ok b w2 =>
        simp only [Result.andThen_ok]
        generalize (Op.equalIn d e a b).run P w2 = r3
        cases r3 with
        | ok r w3 =>
          cases r
          · simp
          · simp only [Result.andThen_ok, Bool.not_true, Bool.false_eq_true, if_false, Sem.run_pure]
            exact ih w3
        | halt x w3 => simp [Result.andThen]
      | halt x w2 => simp [Result.andThen]
    | halt x w1 => simp [Result.andThen]

theorem equalIn_ok {w : World} : ∀ (d : Nat) {t : TypeId} {ps : List Bool}, eqL P d t = some ps → ∀ {D : Nat}, d ≤ D → ∀ {as bs : List AV} {xs ys : List Value} {r : Bool}, VRs P K as xs → VRs P K bs ys →
    eqCells ps as bs = some r → ∀ {x y : Value}, Shape P t xs x → Shape P t ys y → (Op.equalIn D t x y).run P w = .ok r w
  | 0, t, n, he, _, _, _, _, _, _, _, _, _, _, _, _, _, _ => by simp [eqL] at he
  | d + 1, t, ps, he, D, hD, as, bs, xs, ys, r, ha, hb, hc, x, y, hx, hy => by
    have hsz := eqL_size he
    obtain ⟨hla, hlb⟩ := eqCells_len hc
    have hxa := ha.length
    have hyb := hb.length
    obtain ⟨D, rfl⟩ : ∃ D', D = D' + 1 := ⟨D - 1, by omega⟩
    have leaf : ∀ p, ps = [p] → agT P t = some false → (p = true ∧ ∃ u v, x = .bool u ∧ y = .bool v ∧ r = (u == v)) ∨ (p = false ∧ ∃ k u v, x = .int k u ∧ y = .int k v ∧ r = (u == v)) := by
      rintro p rfl hg
      rcases hx with ⟨h, _⟩ | ⟨_, rfl⟩
      · rw [hg] at h; cases h
      rcases hy with ⟨h, _⟩ | ⟨_, rfl⟩
      · rw [hg] at h; cases h
      cases ha with
      | cons a _ l _ ha1 ha2 =>
        cases ha2
        cases hb with
        | cons b _ l _ hb1 hb2 =>
          cases hb2
          simp only [eqCells, ob_some, Option.some.injEq] at hc
          obtain ⟨q, hq, s, rfl, rfl⟩ := hc
          rw [Bool.and_true]
          exact eqCell_run ha1 hb1 hq
    unfold eqL at he
    split at he
    · rename_i hu
      split at he
      · cases he
        rcases leaf true rfl (by simp [agT, hu, aggD]) with ⟨_, u, v, rfl, rfl, rfl⟩ | ⟨h, _⟩
        · simp [Op.equalIn, run_underlying hu]
        · cases h
      · cases he
    · rename_i k hu
      split at he
      · cases he
        rcases leaf false rfl (by simp [agT, hu, aggD]) with ⟨h, _⟩ | ⟨_, k', u, v, rfl, rfl, rfl⟩
        · cases h
        · exact run_equalIn_int w D t k' k u v hu
      · cases he
    · rename_i fs hu
      split at he
      · cases he
      · rename_i hst
        rw [Option.bind_eq_some_iff] at he
        obtain ⟨l, hf, he⟩ := he
        split at he
        · cases he
          have hg : agT P t = some true := by simp [agT, hu, aggD]
          rcases hx with ⟨_, rfl⟩ | ⟨h, _⟩
          case inr => rw [hg] at h; cases h
          rcases hy with ⟨_, rfl⟩ | ⟨h, _⟩
          case inr => rw [hg] at h; cases h
          have hfo : P.fieldsOf t = fs := by simp [Program.fieldsOf, hu]
          rw [run_equalIn_struct w D t _ _ (by rw [hfo]; exact hu) (by simpa using hst), hfo]
          clear hu hg hfo hsz
          have key : ∀ (fl : List Field) (n : Nat) (l : List Bool) (r : Bool), eqF (eqL P d) fl n = some l → eqCells l (as.drop n) (bs.drop n) = some r →
              (Op.eqFields D xs.toArray ys.toArray fl).run P w = .ok r w := by
            intro fl
            induction fl with
            | nil =>
              intro n l r h1 h2
              simp only [eqF, Option.some.injEq] at h1
              subst h1
              have h3 := eqCells_len h2
              have : r = true := by
                cases ha' : as.drop n <;> cases hb' : bs.drop n <;> rw [ha', hb'] at h2 <;> simp_all [eqCells]
              subst this
              simp [Op.eqFields]
            | cons f fl ih =>
              intro n l r h1 h2
              simp only [eqF] at h1
              split at h1
              · rename_i hno
                rw [Option.bind_eq_some_iff] at h1
                obtain ⟨s, hs, h1⟩ := h1
                rw [Option.map_eq_some_iff] at h1
                obtain ⟨l', hl', rfl⟩ := h1
                simp at hno
                obtain ⟨hno1, hno2⟩ := hno
                have h3 := eqCells_len h2
                obtain ⟨r1, r2, h4, h5, rfl⟩ := eqCells_append h2
                obtain ⟨s1, s2, s3⟩ := eqL_size hs
                simp only [List.length_append, List.length_drop] at h3
                obtain ⟨u, hu1, hu2⟩ := run_part (o := n) w s1 s2 s3 (xs := xs) (by omega)
                obtain ⟨v, hv1, hv2⟩ := run_part (o := n) w s1 s2 s3 (xs := ys) (by omega)
                have he := equalIn_ok (w := w) d hs (D := D) (by omega) ((ha.drop n).take s.length) ((hb.drop n).take s.length) h4 hu2 hv2
                rw [List.drop_drop, List.drop_drop] at h5
                have ih' := ih (n + s.length) l' r2 hl' h5
                simp only [Op.eqFields, hno1, ne_eq, not_false_eq_true, if_true, Sem.run_bind, hno2, hu1, hv1, Result.andThen_ok, he]
                cases r1
                · simp
                · simp [ih']
              · cases h1
          exact key fs.toList 0 _ r hf (by simpa using hc)
        · cases he
    · rename_i m e hu
      rw [Option.bind_eq_some_iff] at he
      obtain ⟨s, hs, he⟩ := he
      split at he
      · cases he
        have hg : agT P t = some true := by simp [agT, hu, aggD]
        rcases hx with ⟨_, rfl⟩ | ⟨h, _⟩
        case inr => rw [hg] at h; cases h
        rcases hy with ⟨_, rfl⟩ | ⟨h, _⟩
        case inr => rw [hg] at h; cases h
        obtain ⟨s1, s2, s3⟩ := eqL_size hs
        rw [run_equalIn_array w D t e m s.length _ _ hu s1]
        clear hu hg hsz
        have key : ∀ (k i : Nat) (r : Bool), eqCells (List.replicate k s).flatten (as.drop (i * s.length)) (bs.drop (i * s.length)) = some r →
            (eqElems D e s.length xs.toArray ys.toArray (List.range' i k)).run P w = .ok r w := by
          intro k
          induction k with
          | zero =>
            intro i r h2
            have : r = true := by
              simp at h2
              cases ha' : as.drop (i * s.length) <;> cases hb' : bs.drop (i * s.length) <;> rw [ha', hb'] at h2 <;> simp_all [eqCells]
            subst this
            simp [eqElems]
          | succ k ih =>
            intro i r h2
            rw [List.replicate_succ, List.flatten_cons] at h2
            have h3 := eqCells_len h2
            obtain ⟨r1, r2, h4, h5, rfl⟩ := eqCells_append h2
            simp only [List.length_append, List.length_drop] at h3
            obtain ⟨u, hu1, hu2⟩ := run_part (o := i * s.length) w s1 s2 s3 (xs := xs) (by omega)
            obtain ⟨v, hv1, hv2⟩ := run_part (o := i * s.length) w s1 s2 s3 (xs := ys) (by omega)
            have he := equalIn_ok (w := w) d hs (D := D) (by omega) ((ha.drop (i * s.length)).take s.length) ((hb.drop (i * s.length)).take s.length) h4 hu2 hv2
            rw [List.drop_drop, List.drop_drop, ← Nat.succ_mul] at h5
            have ih' := ih (i + 1) r2 h5
            rw [List.range'_succ]
            simp only [eqElems, Sem.run_bind, hu1, hv1, Result.andThen_ok, he]
            cases r1
            · simp
            · simp [ih']
        exact key m 0 r (by simpa using hc)
      · cases he
    · cases he

end
end Hx

/- Binary operations, the keys of maps, looking up, composite values. -/
namespace Hx
open Go

section
variable {P : Program} {K : Kx}

theorem guard_none {op : BinOp} {t : TypeId} {x y : Operand} {a b : Value} {w : World} (h1 : ¬ (a = .nilIface ∧ b = .nilIface)) (h2 : ∀ xs ys, ¬ (a = .agg xs ∧ b = .agg ys)) :
    (eqGuard op t x y a b).run P w = .ok () w := by
  cases op <;> first
    | rfl
    | (unfold eqGuard
       rw [if_neg (by decide)]
       split
       · exact absurd ⟨rfl, rfl⟩ h1
       · exact absurd ⟨rfl, rfl⟩ (h2 _ _)
       · rfl)

theorem eqL_guard : ∀ (d : Nat) {t : TypeId} {ps : List Bool}, eqL P d t = some ps → ∀ {D : Nat}, d ≤ D → P.eqGuardType D t = false
  | 0, t, ps, he, _, _ => by simp [eqL] at he
  | d + 1, t, ps, he, D, hD => by
    obtain ⟨D, rfl⟩ : ∃ D', D = D' + 1 := ⟨D - 1, by omega⟩
    unfold eqL at he
    unfold Program.eqGuardType
    split at he
    · rename_i hu; rw [hu]
    · rename_i hu; rw [hu]
    · rename_i fs hu
      rw [hu]
      split at he
      · cases he
      · rw [Option.bind_eq_some_iff] at he
        obtain ⟨l, hf, _⟩ := he
        have key : ∀ (fl : List Field) (n : Nat) (l : List Bool), eqF (eqL P d) fl n = some l → (fl.any fun f => f.name != "_" && P.eqGuardType D f.type) = false := by
          intro fl
          induction fl with
          | nil => intro n l _; rfl
          | cons f fl ih =>
            intro n l h1
            simp only [eqF] at h1
            split at h1
            · rw [Option.bind_eq_some_iff] at h1
              obtain ⟨s, hs, h1⟩ := h1
              rw [Option.map_eq_some_iff] at h1
              obtain ⟨l', hl', rfl⟩ := h1
              rw [List.any_cons, eqL_guard d hs (D := D) (by omega), ih _ _ hl']
              simp
            · cases h1
        have := key fs.toList 0 l hf
        simp only [← Array.any_toList]
        exact this
    · rename_i m e hu
      rw [hu]
      rw [Option.bind_eq_some_iff] at he
      obtain ⟨s, hs, _⟩ := he
      exact eqL_guard d hs (by omega)
    · cases he

set_option maxHeartbeats 2000000 in
theorem eqIn_ok (D : Nat) {t : TypeId} {c : Bool} {a b : AV} {x y : Value} {w : World} (hx : VR P K a x) (hy : VR P K b y) {r : Bool} (h : eqAV (eqC P t c) a b = some r) :
    (Op.equalIn (D + 6) t x y).run P w = .ok r w ∧ ∀ op ox oy, (isCon ox || isCon oy) = c → (eqGuard op t ox oy x y).run P w = .ok () w := by
  unfold eqC at h
  split at h
  · rename_i hu
    simp only [eqAV] at h
    rcases eqCell_run hx hy h with ⟨_, u, v, rfl, rfl, rfl⟩ | ⟨h, _⟩
    · exact ⟨by rw [Op.equalIn]; simp [run_underlying hu], fun _ _ _ _ => guard_none (by simp) (by simp)⟩
    · cases h
  · rename_i k hu
    simp only [eqAV] at h
    rcases eqCell_run hx hy h with ⟨h, _⟩ | ⟨_, k', u, v, rfl, rfl, rfl⟩
    · cases h
    · exact ⟨run_equalIn_int w (D + 5) t k' k u v hu, fun _ _ _ _ => guard_none (by simp) (by simp)⟩
  · rename_i e hu
    split at h
    · rename_i n hz
      cases hx <;> simp only [eqAV, reduceCtorEq] at h <;> cases hy <;> simp only [Option.some.injEq, reduceCtorEq, bif_eq] at h
      case ptr.ptr b o _ b' o' _ =>
        split at h
        · rename_i hb
          have hb := Nat.eq_of_beq_eq_true hb
          subst hb
          simp only [Option.some.injEq] at h
          subst h
          refine ⟨?_, fun _ _ _ _ => guard_none (by simp) (by simp)⟩
          rw [Op.equalIn]
          simp [run_underlying hu, run_szT hz, sameAddr]
          rw [Bool.eq_iff_iff]; simp
        · cases h
      all_goals
        subst h
        exact ⟨by rw [Op.equalIn]; simp [run_underlying hu], fun _ _ _ _ => guard_none (by simp) (by simp)⟩
    · cases hx <;> simp only [eqAV, reduceCtorEq] at h <;> cases hy <;> simp only [Option.some.injEq, reduceCtorEq] at h <;> subst h <;>
        exact ⟨by rw [Op.equalIn]; simp [run_underlying hu], fun _ _ _ _ => guard_none (by simp) (by simp)⟩
  · rename_i hu
    cases hx <;> simp only [eqAV, reduceCtorEq] at h <;> cases hy <;> simp only [Option.some.injEq, reduceCtorEq] at h <;> subst h <;>
      exact ⟨by rw [Op.equalIn]; simp [run_underlying hu], fun _ _ _ _ => guard_none (by simp) (by simp)⟩
  · rename_i hu
    cases hx <;> simp only [eqAV, reduceCtorEq] at h <;> cases hy <;> simp only [Option.some.injEq, reduceCtorEq] at h <;> subst h <;>
      exact ⟨by rw [Op.equalIn]; simp [run_underlying hu], fun _ _ _ _ => guard_none (by simp) (by simp)⟩
  · rename_i hu
    cases hx <;> simp only [eqAV, reduceCtorEq] at h <;> cases hy <;> simp only [Option.some.injEq, reduceCtorEq] at h <;> subst h <;>
      exact ⟨by rw [Op.equalIn]; simp [run_underlying hu], fun _ _ _ _ => guard_none (by simp) (by simp)⟩
  · rename_i ms hu
    cases c with
    | false => simp [eqAV] at h
    | true =>
      have con : ∀ op ox oy, (isCon ox || isCon oy) = true → (eqGuard op t ox oy .nilIface .nilIface).run P w = .ok () w := fun op ox oy hc => by
        cases ox <;> cases oy <;> first | (simp [isCon] at hc; done) | (cases op <;> rfl)
      simp only [if_true] at h
      cases hx <;> simp only [eqAV, reduceCtorEq] at h <;> cases hy <;> simp only [Option.some.injEq, reduceCtorEq] at h <;> subst h <;>
        first
        | exact ⟨by rw [Op.equalIn]; simp [run_underlying hu], con⟩
        | exact ⟨by rw [Op.equalIn]; simp [run_underlying hu], fun _ _ _ _ => guard_none (by simp) (by simp)⟩
  all_goals first
    | (simp [eqAV] at h; done)
    | skip
  all_goals
    split at h
    · rename_i ps he
      cases hx <;> simp only [eqAV, reduceCtorEq] at h <;> cases hy <;> simp only [reduceCtorEq] at h
      rename_i as xs hxs bs ys hys
      have hg : agT P t = some true := by unfold agT; simp [*, aggD]
      refine ⟨equalIn_ok 6 he (by omega) hxs hys h (.inl ⟨hg, rfl⟩) (.inl ⟨hg, rfl⟩), fun op ox oy _ => ?_⟩
      have hG : P.eqGuardType P.depth t = false := eqL_guard 6 he (by unfold Program.depth Made.depth; omega)
      cases op <;> first
        | rfl
        | (unfold eqGuard
           rw [if_neg (by decide)]
           simp [hG])
    · simp [eqAV] at h

theorem eqAV_ok {t : TypeId} {c : Bool} {a b : AV} {x y : Value} {w : World} (hx : VR P K a x) (hy : VR P K b y) {r : Bool} (h : eqAV (eqC P t c) a b = some r) :
    (Op.equal t x y).run P w = .ok r w ∧ ∀ op ox oy, (isCon ox || isCon oy) = c → (eqGuard op t ox oy x y).run P w = .ok () w := eqIn_ok 9994 hx hy h

set_option maxHeartbeats 2000000 in
theorem bin_ok {t : TypeId} {op : BinOp} {ox oy : Operand} {a b r : AV} {x y : Value} (hx : VR P K a x) (hy : VR P K b y) (h : binop (eqC P t (isCon ox || isCon oy)) op a b = some r) :
    YP P K (do eqGuard op t ox oy x y; binOp op t x y) r := by
  have ints : ∀ {k k' : IntKind} {m n : Int}, a = .int k m → b = .int k' n → YP P K (do eqGuard op t ox oy x y; binOp op t x y) r := by
    rintro k k' m n rfl rfl
    cases hx; cases hy
    have hg : (eqGuard op t ox oy (.int k m) (.int k' n)).run P K.w = .ok () K.w := guard_none (by simp) (by simp)
    simp only [binop, bif_eq] at h
    split at h
    · obtain ⟨v, h1, h2⟩ := shift_run (P := P) (w := K.w) op k k' m n t h
      exact ⟨v, by simp [hg, h1], h2 K⟩
    · rename_i hs
      split at h
      · rename_i hk
        have := kEq_eq hk
        subst this
        obtain ⟨v, h1, h2⟩ := intOp_run (P := P) (w := K.w) op k m n t (by simpa using hs) h
        exact ⟨v, by simp [hg, h1], h2 K⟩
      · cases h
  by_cases hi : (∃ k m, a = .int k m) ∧ ∃ k m, b = .int k m
  · obtain ⟨⟨k, m, h1⟩, k', n, h2⟩ := hi
    exact ints h1 h2
  · have hb : ∀ (o : BinOp), binop (eqC P t (isCon ox || isCon oy)) o a b = (match o with
        | .eql => ob (eqAV (eqC P t (isCon ox || isCon oy)) a b) kB
        | .neq => ob (eqAV (eqC P t (isCon ox || isCon oy)) a b) fun b => kB (!b)
        | _ => none) := by
      intro o
      unfold binop
      split
      · exact absurd ⟨⟨_, _, rfl⟩, _, _, rfl⟩ hi
      · rfl
    rw [hb] at h
    have main : ∀ (q : Bool), eqAV (eqC P t (isCon ox || isCon oy)) a b = some q → (binOp .eql t x y).run P K.w = .ok (.bool q) K.w ∧ (binOp .neq t x y).run P K.w = .ok (.bool (!q)) K.w := by
      intro q hq
      obtain ⟨h1, _⟩ := eqAV_ok (w := K.w) hx hy hq
      constructor
      all_goals
        unfold eqC at hq
        split at hq
        all_goals first
          | (simp only [eqAV] at hq
             rcases eqCell_run hx hy hq with ⟨_, u, v, rfl, rfl, rfl⟩ | ⟨hf, _⟩
             · simp [binOp, h1]
             · cases hf)
          | (simp only [eqAV] at hq
             rcases eqCell_run hx hy hq with ⟨hf, _⟩ | ⟨_, k', u, v, rfl, rfl, rfl⟩
             · cases hf
             · simp [binOp, Op.intCmp, bne]; done)
          | (simp [eqAV] at hq; done)
          | (split at hq
             all_goals first
               | (simp [eqAV] at hq; done)
               | (cases hx <;> simp only [eqAV, reduceCtorEq] at hq <;> cases hy <;> first | exact absurd ⟨⟨_, _, rfl⟩, _, _, rfl⟩ hi | (simp only [reduceCtorEq] at hq; done) | (simp [binOp, h1]; done)))
          | (cases hx <;> simp only [eqAV, reduceCtorEq] at hq <;> cases hy <;> first | exact absurd ⟨⟨_, _, rfl⟩, _, _, rfl⟩ hi | (simp only [reduceCtorEq] at hq; done) | (simp [binOp, h1]; done))
    cases op <;> simp only [ob_some, kB_eq, Option.some.injEq, reduceCtorEq] at h
    all_goals
      obtain ⟨q, h1, rfl⟩ := h
      obtain ⟨_, h3⟩ := eqAV_ok (w := K.w) hx hy h1
      have h2 := main q h1
      exact ⟨_, by simp [h3 _ ox oy rfl, h2.1, h2.2], .bool _⟩

end
end Hx

