/- The model's code, compiled to the machine's commands. -/
import Derived.Test.YtbkihikjgoedbaaGreatHxCore
namespace Hx
open Go
noncomputable section

def ofCell : Value → Option AV
  | .bool b => some (.bool b)
  | .int k n => some (.int k n)
  | .string s => some (.str s)
  | .pointer none => some .nilp
  | .slice none 0 0 => some .nils
  | .map none => some .nilm
  | .nilFunc => some .nilf
  | .nilIface => some .nili
  | _ => none
def ofCells : List Value → Option (List AV)
  | [] => some []
  | v :: r => match ofCell v, ofCells r with
    | some x, some l => some (x :: l)
    | _, _ => none
def ofValue : Value → Option AV
  | .agg cs => (ofCells cs.toList).map .agg
  | .tuple cs => (ofCells cs.toList).map .tup
  | v => ofCell v

def szT (P : Program) (t : TypeId) : Option Nat := (P.info? t).map (·.size)
/-- the fields' cells lie one behind the other -/
def eqF (f : TypeId → Option (List Bool)) : List Field → Nat → Option (List Bool)
  | [], _ => some []
  | x :: r, n => if x.name != "_" && x.offset == n then (f x.type).bind fun s => (eqF f r (n + s.length)).map fun l => s ++ l else none
/-- the cells of a type whose values are compared cell by cell: bools (true) or integers -/
def eqL (P : Program) : Nat → TypeId → Option (List Bool)
  | 0, _ => none
  | d + 1, t => match P.underlying t with
    | some .bool => if szT P t = some 1 then some [true] else none
    | some (.int _) => if szT P t = some 1 then some [false] else none
    | some (.struct fs) => if P.stoodInHeld t then none else (eqF (eqL P d) fs.toList 0).bind fun l => if szT P t = some l.length then some l else none
    | some (.array n e) => (eqL P d e).bind fun s => if szT P t = some (n * s.length) then some (List.replicate n s).flatten else none
    | _ => none
def eqC (P : Program) (t : TypeId) (const : Bool) : EqC :=
  match P.underlying t with
  | some .bool => .boo
  | some (.int _) => .num
  | some (.pointer e) => match szT P e with
    | some (_ + 1) => .ptz
    | _ => .ptr
  | some (.slice _) => .slc
  | some (.map _ _) => .map
  | some (.func _ _ _) => .fnc
  | some (.interface _) => if const then .ifc else .no
  | some (.struct _) | some (.array _ _) => match eqL P 6 t with
    | some l => .agg l
    | none => .no
  | _ => .no
def isCon : Operand → Bool
  | .const _ => true
  | _ => false
def zeT (P : Program) (t : TypeId) : Option (List AV) :=
  match P.info? t with
  | some i => match i.zero with
    | some z => ofCells z.cells.toList
    | none => none
  | none => none
def byT (P : Program) (t : TypeId) : Option Nat := (P.info? t).map (·.bytes)
def aggD : TypeDesc → Bool
  | .struct _ | .array .. => true
  | _ => false
def agT (P : Program) (t : TypeId) : Option Bool := (P.underlying t).map aggD
def z1T (P : Program) (t : TypeId) : Option AV :=
  match P.info? t with
  | some i => match i.zero with
    | some z => ofValue z
    | none => none
  | none => none

abbrev CoF := Operand → Option OF

def coL (co : CoF) : List Operand → Option (List OF)
  | [] => some []
  | x :: r => match co x, coL co r with
    | some y, some l => some (y :: l)
    | _, _ => none
def coO (co : CoF) : Option Operand → Option (Option OF)
  | none => some none
  | some x => (co x).map some
def coParts (co : CoF) (place : Nat → Option (Nat × Nat)) : List (Nat × Operand) → Option Parts
  | [] => some []
  | p :: r => match place p.1, co p.2, coParts co place r with
    | some q, some x, some l => some ((q, x) :: l)
    | _, _, _ => none
def places (P : Program) (fs : Array Field) : Option (List (Nat × Nat)) := fs.toList.mapM fun f => (P.info? f.type).map fun i => (f.offset, i.size)
def fieldPl (l : List (Nat × Nat)) (i : Nat) : Option (Nat × Nat) := l[i]?
def elemPl (sz i : Nat) : Option (Nat × Nat) := some (i * sz, sz)

def cBuild (P : Program) (co : CoF) (t : TypeId) (parts : Array (Nat × Operand)) : Option OpK :=
  match P.underlying t, zeT P t with
  | some (.struct fs), some z => match places P fs with
    | some l => (coParts co (fieldPl l) parts.toList).map fun ps => .a (aAgg z ps)
    | none => none
  | some (.array _ e), some z => match szT P e with
    | some sz => (coParts co (elemPl sz) parts.toList).map fun ps => .a (aAgg z ps)
    | none => none
  | _, _ => none
def cBuildSlice (P : Program) (co : CoF) (t : TypeId) (len : Nat) (parts : Array (Nat × Operand)) : Option OpK :=
  match P.underlying t with
  | some (.slice e) => match szT P e, zeT P e, coParts co (elemPl ((szT P e).getD 0)) parts.toList with
    | some sz, some z, some ps => if len * sz ≤ 16777216 ∧ z.length = sz then some (.a (aBsl e len z ps)) else none
    | _, _, _ => none
  | _ => none
def cSlice (P : Program) (co : CoF) (t : TypeId) (x : Operand) (lo hi : Option Operand) : Option OpK :=
  match co x, coO co lo, coO co hi with
  | some x, some lo, some hi => match P.underlying t with
    | some (.slice e) => (szT P e).map fun sz => .a (aSlc e sz x lo hi)
    | some (.array n e) => (szT P e).map fun sz => .a (aSla e sz n x lo hi)
    | _ => none
  | _, _, _ => none
def cSlice3 (P : Program) (co : CoF) (t : TypeId) (x : Operand) (lo : Option Operand) (hi mx : Operand) : Option OpK :=
  match co x, coO co lo, co hi, co mx with
  | some x, some lo, some hi, some mx => match P.underlying t with
    | some (.slice e) => (szT P e).map fun sz => .a (aSlc3 e sz x lo hi mx)
    | _ => none
  | _, _, _, _ => none
def cFieldAddr (P : Program) (co : CoF) (s : TypeId) (x : Operand) (f : Nat) : Option OpK :=
  match P.underlying s, co x with
  | some (.struct fs), some x => match fs[f]? with
    | some fd => match szT P fd.type with
      | some (_ + 1) => some (.a (aFad fd.offset x))
      | _ => none
    | none => none
  | _, _ => none
def cField (P : Program) (co : CoF) (t : TypeId) (x : Operand) (f : Nat) : Option OpK :=
  match P.underlying t, co x with
  | some (.struct fs), some x => match fs[f]? with
    | some fd => match szT P fd.type, agT P fd.type with
      | some n, some a => some (.a (aFld fd.offset n a x))
      | _, _ => none
    | none => none
  | _, _ => none
def cIndexAddr (P : Program) (co : CoF) (t : TypeId) (x i : Operand) : Option OpK :=
  match co x, co i with
  | some x, some i => match P.underlying t with
    | some (.slice e) => (szT P e).map fun sz => .a (aIxs sz x i)
    | some (.array n e) => (szT P e).map fun sz => .a (aIxa n sz x i)
    | _ => none
  | _, _ => none
def cIndex (P : Program) (co : CoF) (t : TypeId) (x i : Operand) : Option OpK :=
  match co x, co i with
  | some x, some i => match P.underlying t with
    | some (.array n e) => match szT P e, agT P e with
      | some sz, some a => some (.a (aIx n sz a x i))
      | _, _ => none
    | some .string => some (.a (aIxc x i))
    | _ => none
  | _, _ => none
def cMakeSlice (P : Program) (co : CoF) (t : TypeId) (l c : Operand) : Option OpK :=
  match P.underlying t, co l, co c with
  | some (.slice e), some l, some c => match szT P e, byT P e, zeT P e with
    | some sz, some by_, some z => if z.length = sz then some (.a (aMks e sz by_ z l c)) else none
    | _, _, _ => none
  | _, _, _ => none
def cLookup (P : Program) (co : CoF) (t : TypeId) (m k : Operand) (ok : Bool) : Option OpK :=
  match P.underlying t, co m, co k with
  | some (.map kt e), some m, some k => (z1T P e).map fun z => .a (aLook (eqC P kt false) z ok m k)
  | _, _, _ => none
def cTypeAssert (P : Program) (co : CoF) (x : Operand) (t : TypeId) (ok : Bool) : Option OpK :=
  match P.underlying t, co x, z1T P t with
  | some (.interface _), _, _ => none
  | some _, some x, some z => some (.a (aTas t z ok x))
  | _, _, _ => none
def cMapUpdate (P : Program) (co : CoF) (t : TypeId) (m k x : Operand) : Option OpK :=
  match P.underlying t, co m, co k, co x with
  | some (.map kt _), some m, some k, some x => some (.e (eMup (eqC P kt false) m k x))
  | _, _, _, _ => none
def cMapEntry (P : Program) (co : CoF) (t : TypeId) (m k : Operand) : Option OpK :=
  match P.underlying t, co m, co k with
  | some (.map kt e), some m, some k => (z1T P e).map fun z => .e (eMen (eqC P kt false) z m k)
  | _, _, _ => none
def slcT (P : Program) (t : TypeId) : Bool := match P.underlying t with | some (.slice _) => true | _ => false
def cAppend (P : Program) (s x : OF) (t u : TypeId) : Option OpK :=
  match P.underlying t with
  | some (.slice e) => match szT P e, byT P e, zeT P e with
    | some sz, some by_, some z => if slcT P u = true ∧ z.length = sz then some (.a (aApp e sz by_ s x)) else none
    | _, _, _ => none
  | _ => none
def cLen (P : Program) (x : OF) (t : TypeId) : Option OpK :=
  match P.underlying t with
  | some (.slice _) => some (.a (aLens x))
  | some (.map _ _) => some (.a (aLenm x))
  | _ => none
def cBuiltin (P : Program) (b : Builtin) (args : List OF) (ts : List TypeId) : Option OpK :=
  match b, args, ts with
  | .append, [s, x], [t, u] => cAppend P s x t u
  | .len, [x], [t] => cLen P x t
  | .min, x :: r, _ => some (.a (aMm false x r))
  | .max, x :: r, _ => some (.a (aMm true x r))
  | .copy, [d, s], [t, _] => match P.underlying t with
    | some (.slice e) => (szT P e).map fun sz => .e (eCpy sz d s)
    | _ => none
  | .clear, [s], [t] => match P.underlying t with
    | some (.slice e) => match szT P e, zeT P e with
      | some sz, some z => if z.length = sz then some (.e (eClr z s)) else none
      | _, _ => none
    | _ => none
  | .panic, [x], _ => some (.pan x)
  | .recover, [], _ => some .rcv
  | _, _, _ => none

def isFunc : Fn → Bool
  | .func _ => true
  | _ => false

def compOp (P : Program) (co : CoF) (o : Op) : Option OpK :=
  match o with
  | .move x | .assign x => (co x).map fun x => .a (aMv x)
  | .pick c a b => match co c, co a, co b with
    | some c, some a, some b => some (.a (aPick c a b))
    | _, _, _ => none
  | .alloc e => (zeT P e).map fun z => .a (aNew z e)
  | .box e x => (co x).map fun x => .a (aBox e x)
  | .build t parts => cBuild P co t parts
  | .buildSlice t len parts => cBuildSlice P co t len parts
  | .load t a => match szT P t, agT P t, co a with
    | some n, some g, some a => some (.a (aLoad n g a))
    | _, _, _ => none
  | .store t a x => match szT P t, co a, co x with
    | some n, some a, some x => some (.e (eStore n a x))
    | _, _, _ => none
  | .nilCheck x => (co x).map fun x => .a (aChk x)
  | .binOp op t x y _ => match co x, co y with
    | some a, some b => some (.a (aBin op (eqC P t (isCon x || isCon y)) a b))
    | _, _ => none
  | .unOp op _ x => (co x).map fun x => .a (aUn op x)
  | .convert src dst x => match P.underlying src, P.underlying dst, co x with
    | some _, some (.int k), some x => some (.a (aConv k x))
    | _, _, _ => none
  | .makeInterface t x => match P.underlying t, co x with
    | some (.interface _), _ => none
    | some _, some x => some (.a (aIfc t x))
    | _, _ => none
  | .makeFunc f first cap => match isFunc f, coL co first.toList, coL co cap.toList with
    | true, some a, some c => some (.a (aMkf f a c))
    | _, _, _ => none
  | .makeMap _ none => some (.a aMkm)
  | .makeSlice t l c => cMakeSlice P co t l c
  | .slice t x lo hi none => cSlice P co t x lo hi
  | .slice t x lo (some hi) (some mx) => cSlice3 P co t x lo hi mx
  | .fieldAddr s x f => cFieldAddr P co s x f
  | .field t x f => cField P co t x f
  | .indexAddr t x i => cIndexAddr P co t x i
  | .index t x i => cIndex P co t x i
  | .lookup t m k ok => cLookup P co t m k ok
  | .typeAssert x _ t ok => cTypeAssert P co x t ok
  | .extract x i => (co x).map fun x => .a (aExt x i)
  | .mapUpdate t m k x | .insert t m k x => cMapUpdate P co t m k x
  | .mapEntry t m k => cMapEntry P co t m k
  | .entryStore _ m st x => match co m, co st, co x with
    | some m, some s, some x => some (.e (eMes m s x))
    | _, _, _ => none
  | .panic x => (co x).map fun x => .pan x
  | .defer c => match c.callee with
    | .value f => match co f, coL co c.args.toList with
      | some f, some as => some (.dfr f as)
      | _, _ => none
    | _ => none
  | .call c => match c.callee with
    | .value f => match co f, coL co c.args.toList with
      | some f, some as => some (.call f as)
      | _, _ => none
    | .builtin b => match coL co c.args.toList with
      | some as => cBuiltin P b as c.argTypes.toList
      | none => none
    | _ => none
  | _ => none

/-! Regions. -/
def idxN (t : Nat) : List Nat → Option Nat
  | [] => none
  | x :: r => if x = t then some 0 else (idxN t r).map (· + 1)
def idxO (t : Nat) : List (Option Nat) → Option Nat
  | [] => none
  | x :: r => if x = some t then some 0 else (idxO t r).map (· + 1)

/-- the variables' slots, how many temporaries there are, tables that never change -/
structure Vn where
  vsl : List Nat
  nt : Nat
  gl : Nat → Option (List AV)

def compX (V : Vn) (ds : List (Option Nat)) : CoF
  | .tmp t => match idxO t ds with
    | some j => some (oStk j)
    | none => (idxN t V.vsl).map oVar
  | .const v => (ofValue v).map oCon
  | .func f => some (oCon (.fn (.func f) [] []))
  | .global g => (V.gl g).map fun cs => oCon (.iptr cs 0)

def compG (all : Array Oper) (ds : List (Option Nat)) : Option (Nat × Bool) → Option (Option (OF × Bool))
  | none => some none
  | some (j, want) => match (all[j]?).bind (·.dst) with
    | some t => (idxO t ds).map fun p => some (oStk p, want)
    | none => none
def isDfr : Op → Bool
  | .defer _ => true
  | _ => false
def dstOk (V : Vn) : Option Nat → Bool
  | none => true
  | some d => decide (d < V.nt)
/-- what cannot be compiled stops the machine -/
def compOpB (P : Program) (co : CoF) (o : Op) : Option OpK := some ((compOp P co o).getD .bad)
def compIts (P : Program) (V : Vn) (rd : Bool) (all : Array Oper) : List Oper → List (Option Nat) → Option (List IT)
  | [], _ => some []
  | o :: r, ds => if (rd && isDfr o.op) || !dstOk V o.dst then none else
    match compOpB P (compX V ds) o.op, compG all ds o.guard, compIts P V rd all r (o.dst :: ds) with
    | some k, some g, some l => some ({ op := k, grd := g, wr := o.dst.bind (idxN · V.vsl) } :: l)
    | _, _, _ => none


/-! Regions that draw their order. -/
/-- what neither reads nor turns memory -/
def pureOp (P : Program) : Op → Bool
  | .move _ | .assign _ | .pick .. | .build .. | .nilCheck _ | .binOp .. | .unOp .. | .convert .. | .makeInterface .. | .makeFunc .. | .fieldAddr .. | .field .. | .indexAddr .. | .index ..
  | .typeAssert .. | .extract .. => true
  | .slice t .. => slcT P t
  | .call { callee := .builtin .len, argTypes := ts, .. } => match ts.toList with | [t] => slcT P t | _ => false
  | .call { callee := .builtin .min, .. } | .call { callee := .builtin .max, .. } => true
  | _ => false
def isCallOp : Op → Bool
  | .call { callee := .value _, .. } => true
  | _ => false
def jumpOp : Op → Bool
  | .call { callee := .value _, .. } | .call { callee := .builtin .panic, .. } | .panic _ => true
  | _ => false

/-- what stands before each operation -/
def bAt (b : List Nat) (i : Nat) : Nat := (getL b i).getD 0
def opAt (os : List Oper) (i : Nat) : Oper := (getL os i).getD default
def edgeM (b : List Nat) : List Edge → Nat
  | [] => 0
  | e :: r => if Region.binds .any e then 2 ^ e.on ||| bAt b e.on ||| edgeM b r else edgeM b r
def befGo : List Oper → List Nat → List Nat
  | [], acc => acc
  | o :: r, acc => fN (edgeM acc o.after.toList) fun m => befGo r (acc ++ [m])
def befOk (b : List Nat) : List Oper → Nat → Bool
  | [], _ => true
  | o :: r, i => Nat.beq (bAt b i) (edgeM b o.after.toList) && befOk b r (i + 1)

def storeOp : Op → Bool
  | .store .. | .mapUpdate .. | .mapEntry .. | .entryStore .. => true
  | _ => false
/-- the first operation of a kind that may come next -/
def nextOp (b : List Nat) (os : List Oper) (mask : Nat) (ok : Op → Bool) : List Nat → Option Nat
  | [] => none
  | i :: r => if mask.testBit i then nextOp b os mask ok r else
    if Nat.beq ((bAt b i) ||| mask) mask && ok (opAt os i).op then some i else nextOp b os mask ok r
def order (b : List Nat) (os : List Oper) (all : List Nat) : Nat → Nat → List Nat
  | 0, _ => []
  | n + 1, mask => match (match nextOp b os mask (fun o => !storeOp o && !isCallOp o) all with
      | some i => some i
      | none => match nextOp b os mask (fun o => !isCallOp o) all with
        | some i => some i
        | none => nextOp b os mask (fun _ => true) all) with
    | some i => i :: fN (mask ||| 2 ^ i) fun mask => order b os all n mask
    | none => []

/-- the operations, in an order -/
def getOps (os : List Oper) : List Nat → Option (List Oper)
  | [] => some []
  | i :: r => match getL os i, getOps os r with
    | some o, some l => some (o :: l)
    | _, _ => none
/-- what may be read late -/
def fltOp (o : Oper) : Bool := o.guard.isNone && (match o.op with | .load .. | .lookup .. => true | _ => false)
/-- the operations among these that are not pure, nor may be read late -/
def maskOf (P : Program) (os : List Oper) : List Nat → Nat
  | [] => 0
  | i :: r => if pureOp P (opAt os i).op || fltOp (opAt os i) then maskOf P os r else 2 ^ i ||| maskOf P os r
/-- i comes behind all that is not pure among these, but for what may be read late -/
def tailOk (P : Program) (b : List Nat) (os : List Oper) (l : List Nat) (i : Nat) : Bool := pureOp P (opAt os i).op || Nat.beq ((bAt b i) ||| maskOf P os l) (bAt b i)
def tailFrom (P : Program) (b : List Nat) (os : List Oper) (perm : List Nat) : Nat → Nat
  | 0 => 0
  | n + 1 => match getL perm n with
    | some i => if tailOk P b os (perm.take n) i then tailFrom P b os perm n else n + 1
    | none => n + 1

def noDup : List Nat → Bool
  | [] => true
  | x :: r => !memN x r && noDup r
def dstsOf (l : List Oper) : List Nat := l.filterMap (·.dst)
/-- who writes t -/
def writer : List Oper → Nat → Nat → Option Nat
  | [], _, _ => none
  | o :: r, t, n => if o.dst = some t then some n else writer r t (n + 1)
/-- who writes t: it stands before i, or i before it -/
def readOk (b : List Nat) (os : List Oper) (i t : Nat) : Bool :=
  match writer os t 0 with
  | none => true
  | some j => (bAt b i).testBit j || (bAt b j).testBit i
def readsOk (b : List Nat) (os : List Oper) (i : Nat) : List Operand → Bool
  | [] => true
  | .tmp t :: r => readOk b os i t && readsOk b os i r
  | _ :: r => readsOk b os i r
def grdOk (m : Nat) : Option (Nat × Bool) → Bool
  | none => true
  | some (j, _) => m.testBit j
def barOk (b : List Nat) (i : Nat) : List Nat → Bool
  | [] => true
  | q :: r => (bAt b q).testBit i && barOk b i r
/-- one place of the order: before: the places before, the nearest first -/
def prePos (P : Program) (b : List Nat) (os : List Oper) (k : Nat) : Nat → List Nat → Nat → List Nat → Bool
  | _, [], _, _ => true
  | p, i :: r, mask, prev =>
    Nat.beq ((bAt b i) ||| mask) mask &&
    readsOk b os i (opAt os i).op.operands.toList &&
    grdOk (bAt b i) (opAt os i).guard &&
    (!jumpOp (opAt os i).op || barOk b i r) &&
    (Nat.ble (p + 1) k || tailOk P b os prev i) &&
    fN (mask ||| 2 ^ i) fun mask => prePos P b os k (p + 1) r mask (i :: prev)
def preOk (P : Program) (b : List Nat) (os : List Oper) (perm : List Nat) (k : Nat) : Bool :=
  Nat.beq (lenL perm) (lenL os) && noDup perm && noDup (dstsOf os) && befOk b os 0 && Nat.ble k (lenL os) && prePos P b os k 0 perm 0 []
/-- none of these is written -/
def noWr (ds : List (Option Nat)) : List Operand → Bool
  | [] => true
  | .tmp t :: r => (idxO t ds).isNone && noWr ds r
  | _ :: r => noWr ds r
/-- what is to be read again: of the operations before (the nearest first) those that are asked for -/
def flChk (P : Program) (V : Vn) (os : List Oper) (ds : List (Option Nat)) (need : Nat → Bool) : List Nat → Nat → Option (List (Nat × AF))
  | [], _ => some []
  | q :: r, j => match flChk P V os ds need r (j + 1) with
    | none => none
    | some c => if fltOp (opAt os q) && need q then
        (if noWr (ds.take (j + 1)) (opAt os q).op.operands.toList then match compOp P (compX V ds) (opAt os q).op with
          | some (.a f) => some ((j, f) :: c)
          | _ => none
        else none)
      else some c
def addChk (P : Program) (V : Vn) (os : List Oper) (b : List Nat) (k : Nat) : Nat → List Oper → List Nat → List Nat → List (Option Nat) → List IT → Option (List IT)
  | p, o :: l, i :: r, prev, ds, it :: its =>
    match (if Nat.ble k p && !pureOp P o.op && !fltOp o then flChk P V os ds (fun q => !(bAt b i).testBit q) prev 0 else some []), addChk P V os b k (p + 1) l r (i :: prev) (o.dst :: ds) its with
    | some c, some l => some ({ it with chk := c } :: l)
    | _, _ => none
  | _, [], [], _, _, [] => some []
  | _, _, _, _, _, _ => none
/-- not behind q, among these -/
def looseAt (P : Program) (os : List Oper) (b : List Nat) (q : Nat) : List Nat → Bool
  | [] => false
  | i :: r => (!pureOp P (opAt os i).op && !(bAt b i).testBit q) || looseAt P os b q r
def compPre (P : Program) (V : Vn) (ops : Array Oper) : Option Cmd :=
  let os := ops.toList
  let b := befGo os []
  let perm := order b os (List.range ops.size) ops.size 0
  let k := tailFrom P b os perm ops.size
  match getOps os perm with
  | some l => match compIts P V true ops l [] with
    | some its0 => match addChk P V os b k 0 l perm [] [] its0, flChk P V os ((l.take k).map (·.dst)).reverse (fun q => looseAt P os b q (perm.drop k)) (perm.take k).reverse 0 with
      | some its, some cs => if preOk P b os perm k then some (cPre cs k its) else none
      | _, _ => none
    | none => none
  | none => none

/-! Code. -/
def nb : Code → Nat
  | .seq a b | .cond _ a b => nb a + nb b
  | .block _ b | .loop b | .scope b => nb b
  | .rangeFunc _ _ a b => nb a + nb b + 1
  | _ => 0
structure RB where
  ps : Array Nat
  assign : Code
  body : Code
def bodyAt : Code → Nat → Option RB
  | .seq a b, i | .cond _ a b, i => if i < nb a then bodyAt a i else bodyAt b (i - nb a)
  | .block _ b, i | .loop b, i | .scope b, i => bodyAt b i
  | .rangeFunc _ ps a b, i => if i = 0 then some ⟨ps, a, b⟩ else if i - 1 < nb a then bodyAt a (i - 1) else bodyAt b (i - 1 - nb a)
  | _, _ => none
def hasGoto : Code → Bool
  | .goto _ => true
  | .seq a b | .cond _ a b => hasGoto a || hasGoto b
  | .block _ b | .loop b | .scope b => hasGoto b
  | .rangeFunc _ _ a b => hasGoto a || hasGoto b
  | _ => false
def idxsN (vsl : List Nat) : List Nat → Option (List Nat)
  | [] => some []
  | p :: r => match idxN p vsl, idxsN vsl r with
    | some i, some l => some (i :: l)
    | _, _ => none

def comp (P : Program) (V : Vn) (rd : Bool) : Code → Nat → Option Cmd
  | .skip, _ | .label _, _ => some cNop
  | .region _ ops draw, _ => if draw then compPre P V ops else (compIts P V rd ops ops.toList []).map cOps
  | .seq a b, n => match comp P V rd a n, comp P V rd b (n + nb a) with
    | some x, some y => some (cSeq x y)
    | _, _ => none
  | .cond c a b, n => match compX V [] c, comp P V rd a n, comp P V rd b (n + nb a) with
    | some x, some y, some z => some (cCnd x y z)
    | _, _, _ => none
  | .block id b, n => (comp P V rd b n).map (cBlk id)
  | .loop b, n => (comp P V rd b n).map cLoop
  | .exit id, _ => some (cExit id)
  | .ret, _ => some cRet
  | .scope b, n => if hasGoto b || rd then none else (comp P V rd b n).map cScope
  | .rangeFunc f ps a b, n => match compX V [] f, idxsN V.vsl ps.toList, comp P V true a (n + 1), comp P V true b (n + 1 + nb a) with
    | some x, some l, some _, some _ => some (cRng x l n)
    | _, _, _, _ => none
  | .goto _, _ | .refuse _, _ => none


/-! Code with recover: the body of a deferred function. -/
def isRcv : Op → Bool
  | .call { callee := .builtin .recover, .. } => true
  | _ => false
def hasRcv : Code → Bool
  | .region _ ops _ => ops.toList.any (isRcv ·.op)
  | .seq a b | .cond _ a b => hasRcv a || hasRcv b
  | .block _ b | .loop b | .scope b => hasRcv b
  | .rangeFunc _ _ a b => hasRcv a || hasRcv b
  | _ => false
def compR (P : Program) (V : Vn) : Code → Nat → Option CmdR
  | .region id ops draw, n => if hasRcv (.region id ops draw) then (if draw then none else (compIts P V true ops ops.toList []).map rOps) else (comp P V false (.region id ops draw) n).map rCmd
  | .seq a b, n => if hasRcv a || hasRcv b then match compR P V a n, compR P V b (n + nb a) with
      | some x, some y => some (rSeq x y)
      | _, _ => none
    else (comp P V false (.seq a b) n).map rCmd
  | .cond c a b, n => if hasRcv a || hasRcv b then match compX V [] c, compR P V a n, compR P V b (n + nb a) with
      | some x, some y, some z => some (rCnd x y z)
      | _, _, _ => none
    else (comp P V false (.cond c a b) n).map rCmd
  | c, n => if hasRcv c then none else (comp P V false c n).map rCmd


/-! Functions. -/
def compRes (P : Program) (V : Vn) : List ResultVar → Option (List IRes)
  | [] => some []
  | .tmp t :: r => match idxN t V.vsl, compRes P V r with
    | some i, some l => some (.var i :: l)
    | _, _ => none
  | .cell a t :: r => match idxN a V.vsl, szT P t, agT P t, compRes P V r with
    | some i, some n, some g, some l => some (.cell i n g :: l)
    | _, _, _, _ => none
def npF (fn : Func) : Nat := fn.params.size + fn.nfree
def vnOk (fn : Func) (vsl : List Nat) : Bool :=
  decide (vsl.take (npF fn) = List.range (npF fn)) && noDup vsl && vsl.all (fun t => decide (t < fn.ntmps)) && decide (npF fn ≤ vsl.length) && fn.name != "runtime.NumGoroutine"
/-- dfr: whether it is a function that is called at the end of others -/
def compF (P : Program) (gl : Nat → Option (List AV)) (vsl : List Nat) (dfr : Bool) (base : Nat) (fn : Func) : Option FnI :=
  match fn.body with
  | none => none
  | some b => if vnOk fn vsl then
      let V : Vn := ⟨vsl, fn.ntmps, gl⟩
      match comp P V false b base, compRes P V fn.results.toList with
      | some c, some l => if dfr then (if nb b = 0 ∧ fn.results.toList = [] then (compR P V b base).map fun d => ⟨npF fn, vsl.length - npF fn, c, d, l⟩ else none)
        else some ⟨npF fn, vsl.length - npF fn, c, fun _ _ _ _ _ => none, l⟩
      | _, _ => none
    else none

end
end Hx
