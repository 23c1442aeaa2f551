/- The evaluator of the program's form, its soundness, the functions of the given program as it evaluates them, and laws on these. Conditions: as each theorem says. -/
import Derived.OrdersHeld
import Derived.KernelRfl
import Derived.Below
import Derived.Laws.StructEq
import Derived.Laws.Cells
import Derived.Laws.BytesArg
import Derived.Laws.IdiomCopy
section
set_option linter.unusedVariables false
namespace Go.Proofs.Ytmenplonaapliaa.AE
open Go

/-! ### Shapes: kinds of plain data -/

inductive Sh where
  | int (k : IntKind) | bool | str | list (e : Sh) | prod (a b : Sh)
  deriving DecidableEq

@[reducible] def den : Sh → Type
  | .int _ => Int
  | .bool => Bool
  | .str => ByteArray
  | .list e => List (den e)
  | .prod a b => den a × den b

/-- Are two of a shape the same? -/
@[reducible] def denDec : (e : Sh) → DecidableEq (den e)
  | .int _ => (inferInstance : DecidableEq Int)
  | .bool => (inferInstance : DecidableEq Bool)
  | .str => (inferInstance : DecidableEq ByteArray)
  | .list e => @instDecidableEqList _ (denDec e)
  | .prod a b => @instDecidableEqProd _ _ (denDec a) (denDec b)

def dflt : (e : Sh) → den e
  | .int _ => (0 : Int)
  | .bool => false
  | .str => (⟨#[]⟩ : ByteArray)
  | .list _ => []
  | .prod a b => (dflt a, dflt b)

def Sh.size : Sh → Nat
  | .prod a b => a.size + b.size
  | _ => 1

/-! ### Values of the evaluation -/

inductive Sc where
  | val (v : Value)
  | list (e : Sh) (l : List (den e)) (full : Bool)
  | ref (id off : Nat)
  | own (id : Nat) (v : Option (Nat × Nat))
  | eref (id i off : Nat)
  | rref (e : Sh) (l : List (den e)) (i off : Nat)
  | fn (f : FuncId) (caps : List Sc)
  | bnd (f : FuncId) (first : List Sc)
  | mref (id : Nat)
  | any
  | ifc (n : Bool)

inductive AV1 where
  | sc (c : Sc) | agg (cs : List Sc)

inductive AV where
  | one (x : AV1) | tup (xs : List AV1)

abbrev AV.any : AV := .one (.sc .any)

inductive Blk where
  | cells (T : TypeId) (cs : List Sc)
  | elems (e : Sh) (l : List (den e))
  | froz (e : Sh) (l : List (den e))
  | mp (k v : Sh) (es : List (den k × den v))
  | dead

/-- Slots with what is known of them, the latest first; and the rows and variables of one's own. -/
structure St where
  env : List (Nat × AV)
  blks : List Blk

def look : List (Nat × AV) → Nat → AV
  | [], _ => .any
  | (i, v) :: r, j => match Nat.beq i j with
    | true => v
    | false => look r j

def inj : (e : Sh) → den e → List Sc
  | .int k, n => [.val (.int k n)]
  | .bool, b => [.val (.bool b)]
  | .str, s => [.val (.string s)]
  | .list e, l => [.list e l false]
  | .prod a b, x => inj a x.1 ++ inj b x.2

def setAt {α : Type} : List α → Nat → α → List α
  | [], _, _ => []
  | _ :: r, 0, y => y :: r
  | x :: r, n + 1, y => x :: setAt r n y

def getAt {α : Type} : List α → Nat → Option α
  | [], _ => none
  | x :: _, 0 => some x
  | _ :: r, n + 1 => getAt r n

def viewOf {α : Type} (l : List α) : Option (Nat × Nat) → List α
  | none => l
  | some (lo, hi) => (l.take hi).drop lo

/-- The list that a value reads as, and the blocks behind it: a row of one's own is settled by it. -/
def asList (e : Sh) (c : Sc) (σ : List Blk) : Option (List (den e) × List Blk) :=
  match c with
  | .list e' l _ => if h : e' = e then some (h ▸ l, σ) else none
  | .val (.slice none 0 0) => some ([], σ)
  | .own id v =>
    match getAt σ id with
    | some (.elems e' l) => if h : e' = e then some (viewOf (h ▸ l) v, setAt σ id (.froz e' l)) else none
    | some (.froz e' l) => if h : e' = e then some (viewOf (h ▸ l) v, σ) else none
    | _ => none
  | _ => none

def proj : (e : Sh) → List Sc → List Blk → Option (den e × List Sc × List Blk)
  | .int k, c :: r, σ => match c with
    | .val (.int k' n) => if k' = k then some (n, r, σ) else none
    | _ => none
  | .bool, c :: r, σ => match c with
    | .val (.bool b) => some (b, r, σ)
    | _ => none
  | .str, c :: r, σ => match c with
    | .val (.string s) => some (s, r, σ)
    | _ => none
  | .list e, c :: r, σ => match asList e c σ with
    | some (l, σ) => some (l, r, σ)
    | none => none
  | .prod a b, cs, σ => match proj a cs σ with
    | some (x, r, σ) => match proj b r σ with
      | some (y, r, σ) => some ((x, y), r, σ)
      | none => none
    | none => none
  | _, [], _ => none

/-- All of the cells, no more. -/
def projAll (e : Sh) (cs : List Sc) (σ : List Blk) : Option (den e × List Blk) :=
  match proj e cs σ with
  | some (x, [], σ) => some (x, σ)
  | _ => none

/-! ### What runs without memory -/

def runPure {α : Type} (P : Program) : Sem α → Option α
  | .pure a => some a
  | .program k => runPure P (k P)
  | _ => none

def isAggT (P : Program) (t : TypeId) : Bool :=
  match P.underlying t with
  | some (.struct _) | some (.array _ _) => true
  | _ => false

def sizeT (P : Program) (t : TypeId) : Option Nat := (P.info? t).map (·.size)

def shFields : List (Option Sh) → Option Sh
  | [] => none
  | [a] => a
  | some a :: r => match shFields r with
    | some b => some (.prod a b)
    | none => none
  | none :: _ => none

/-- The shape of a type of plain data. -/
def shOf (P : Program) : Nat → TypeId → Option Sh
  | 0, _ => none
  | f + 1, t => match P.underlying t with
    | some .bool => some .bool
    | some (.int k) => some (.int k)
    | some .string => some .str
    | some (.slice e) => (shOf P f e).map .list
    | some (.struct fs) => shFields (fs.toList.map fun x => shOf P f x.type)
    | some (.array n e) => match Nat.ble n 8 with
      | true => shFields (List.replicate n (shOf P f e))
      | false => none
    | _ => none

def shT (P : Program) (t : TypeId) : Option Sh := shOf P 16 t

def ofValue1 : Value → AV1
  | .agg cs => .agg (cs.toList.map .val)
  | v => .sc (.val v)

def St.opd (st : St) : Operand → AV
  | .tmp t => look st.env t
  | .const v => .one (ofValue1 v)
  | .global g => .one (.sc (.val (.pointer (some ⟨g, 0, none⟩))))
  | .func f => .one (.sc (.fn f []))

def scVal : Sc → Option Value
  | .val v => some v
  | .fn f [] => some (.func (.func f) #[] #[])
  | _ => none

def scVals : List Sc → Option (List Value)
  | [] => some []
  | c :: r => match scVal c, scVals r with
    | some v, some vs => some (v :: vs)
    | _, _ => none

def avVal : AV1 → Option Value
  | .sc c => scVal c
  | .agg cs => (scVals cs).map fun vs => .agg vs.toArray

section
variable {R : Type}

def scK (x : AV) (k : Sc → Option R) : Option R :=
  match x with
  | .one (.sc c) => k c
  | _ => none

def intK (x : AV) (k : IntKind → Int → Option R) : Option R :=
  match x with
  | .one (.sc (.val (.int i n))) => k i n
  | _ => none

def guardK (b : Bool) (k : Option R) : Option R := cond b k none

def i64max : Nat := 9223372036854775807

def strEq (a b : ByteArray) : Bool := a.toList == b.toList
def strLt (a b : ByteArray) : Bool := Op.bytesLess a.toList b.toList

def binInt (op : BinOp) (i : IntKind) (a b : Int) (k : Value → Option R) : Option R :=
  match op with
  | .add => k (.int i (i.wrap (a + b)))
  | .sub => k (.int i (i.wrap (a - b)))
  | .mul => k (.int i (i.wrap (a * b)))
  | .quo => if b = 0 then none else k (.int i (i.wrap (a.tdiv b)))
  | .rem => if b = 0 then none else k (.int i (a.tmod b))
  | .and => k (.int i (i.wrap (BitVec.ofInt i.bits a &&& BitVec.ofInt i.bits b).toNat))
  | .or => k (.int i (i.wrap (BitVec.ofInt i.bits a ||| BitVec.ofInt i.bits b).toNat))
  | .xor => k (.int i (i.wrap (BitVec.ofInt i.bits a ^^^ BitVec.ofInt i.bits b).toNat))
  | .eql => k (.bool (a == b))
  | .neq => k (.bool (a != b))
  | .lss => k (.bool (decide (a < b)))
  | .leq => k (.bool (decide (a ≤ b)))
  | .gtr => k (.bool (decide (a > b)))
  | .geq => k (.bool (decide (a ≥ b)))
  | _ => none

def binStr (op : BinOp) (a b : ByteArray) (k : Value → Option R) : Option R :=
  match op with
  | .add => guardK (decide (a.size + b.size ≤ i64max)) (k (.string (a ++ b)))
  | .eql => k (.bool (strEq a b))
  | .neq => k (.bool (!strEq a b))
  | .lss => k (.bool (strLt a b))
  | .leq => k (.bool (strLt a b || strEq a b))
  | .gtr => k (.bool (!(strLt a b || strEq a b)))
  | .geq => k (.bool (!strLt a b))
  | _ => none

/-- Two ways to go on that must come to the same. -/
def meet [DecidableEq R] (a b : Option R) : Option R := if a = b then a else none

def isRef : Sc → Bool
  | .ref .. | .eref .. | .rref .. => true
  | _ => false

def isFn : Sc → Bool
  | .fn .. | .bnd .. => true
  | _ => false

/-- Two values of a type, field by field. -/
def eqV (P : Program) : Nat → TypeId → List Value → List Value → Option Bool
  | 0, _, _, _ => none
  | n + 1, t, xs, ys => match P.underlying t, xs, ys with
    | some (.int _), [.int i a], [.int j b] => if i = j then some (a == b) else none
    | some .bool, [.bool a], [.bool b] => some (a == b)
    | some .string, [.string a], [.string b] => some (strEq a b)
    | some (.struct fs), xs, ys => match P.stoodInHeld t with
      | true => none
      | false => fields (eqV P n) xs ys fs.toList
    | _, _, _ => none
where
  fields (eq : TypeId → List Value → List Value → Option Bool) (xs ys : List Value) : List Field → Option Bool
    | [] => some true
    | f :: fs => match decide (f.name ≠ "_"), sizeT P f.type with
      | true, some n => match Nat.ble (f.offset + n) xs.length && Nat.ble (f.offset + n) ys.length, eq f.type ((xs.drop f.offset).take n) ((ys.drop f.offset).take n), fields eq xs ys fs with
        | true, some a, some b => some (a && b)
        | _, _, _ => none
      | false, _ => fields eq xs ys fs
      | _, _ => none

def nilK [DecidableEq R] (op : BinOp) (empty : Bool) (k : Value → Option R) : Option R :=
  match op with
  | .eql => cond empty (meet (k (.bool true)) (k (.bool false))) (k (.bool false))
  | .neq => cond empty (meet (k (.bool false)) (k (.bool true))) (k (.bool true))
  | _ => none

def binK [DecidableEq R] (P : Program) (op : BinOp) (t : TypeId) (x y : Operand) (a b : AV1) (k : Value → Option R) : Option R :=
  match a, b with
  | .sc (.val (.int i m)), .sc (.val (.int j n)) =>
    match op with
    | .shl => if n < 0 then none else k (.int i (i.wrap (m * 2 ^ (min n.toNat i.bits))))
    | .shr => if n < 0 then none else k (.int i (m.fdiv (2 ^ (min n.toNat i.bits))))
    | op => if i = j then binInt op i m n k else none
  | .sc (.val (.string s)), .sc (.val (.string u)) => binStr op s u k
  | .sc (.val v), .sc (.val u) =>
    match runPure P (do eqGuard op t x y v u; Go.binOp op t v u) with
    | some r => k r
    | none => none
  | .sc (.list _ l _), .sc (.val (.slice none 0 0)) => match P.underlying t with
    | some (.slice _) => nilK op l.isEmpty k
    | _ => none
  | .sc c, .sc (.val (.pointer none)) => match P.underlying t, op with
    | some (.pointer _), .eql => guardK (isRef c) (k (.bool false))
    | some (.pointer _), .neq => guardK (isRef c) (k (.bool true))
    | _, _ => none
  | .sc (.ifc b), .sc (.val .nilIface) => match P.underlying t, y, op with
    | some (.interface _), .const _, .eql => k (.bool b)
    | some (.interface _), .const _, .neq => k (.bool (!b))
    | _, _, _ => none
  | .agg xs, .agg ys => match scVals xs, scVals ys, P.eqGuardType P.depth t, isAggT P t with
    | some xs, some ys, false, true => match op, eqV P 9 t xs ys with
      | .eql, some r => k (.bool r)
      | .neq, some r => k (.bool (!r))
      | _, _ => none
    | _, _, _, _ => none
  | _, _ => none

def bytesOf (l : List Int) : ByteArray := ⟨(l.map fun n => UInt8.ofNat n.toNat).toArray⟩
def intsOf (s : ByteArray) : List Int := s.data.toList.map fun b => (b.toNat : Int)

def byteAt (s : ByteArray) (n : Int) : Int := ((s.data.toList.getD n.toNat 0).toNat : Int)

/-- A part of a struct's, or an array's, cells. -/
def partK (P : Program) (t : TypeId) (cs : List Sc) (off : Nat) (k : AV → Option R) : Option R :=
  match P.underlying t, sizeT P t with
  | some (.struct _), some n => guardK (Nat.ble (off + n) cs.length) (k (.one (.agg ((cs.drop off).take n))))
  | some (.array _ _), some n => guardK (Nat.ble (off + n) cs.length) (k (.one (.agg ((cs.drop off).take n))))
  | some (.struct _), none => none
  | some (.array _ _), none => none
  | some _, _ => match getAt cs off with
    | some c => k (.one (.sc c))
    | none => none
  | none, _ => none

def oneSc : Sc → Bool
  | .any => false
  | .val (.agg _) => false
  | .val (.tuple _) => false
  | _ => true

def okAV1 : AV1 → Bool
  | .sc c => oneSc c
  | .agg _ => true

def setCells : List Sc → Nat → List Sc → List Sc
  | cs, _, [] => cs
  | cs, off, y :: ys => setCells (setAt cs off y) (off + 1) ys

def av1Cells : AV1 → List Sc
  | .sc c => [c]
  | .agg cs => cs

def fillK (place : Nat → Option (Nat × Nat)) : List (Nat × AV) → List Sc → (List Sc → Option R) → Option R
  | [], cs, k => k cs
  | (i, .one v) :: r, cs, k => match place i with
    | some (off, size) => match (av1Cells v).length == size && Nat.ble (off + size) cs.length && okAV1 v with
      | true => fillK place r (setCells cs off (av1Cells v)) k
      | false => none
    | none => none
  | (_, .tup _) :: _, _, _ => none

def zeroCells (P : Program) (t : TypeId) : Option (List Sc) :=
  match P.info? t with
  | some i => match i.zero with
    | some v => some (v.cells.toList.map .val)
    | none => none
  | none => none

/-! ### Maps -/

/-- Two keys of a map are the same. -/
def keyB : (ks : Sh) → den ks → den ks → Bool
  | .int _, a, b => a == b
  | .bool, a, b => a == b
  | .str, a, b => strEq a b
  | _, _, _ => false

def ofVal1 : (s : Sh) → Value → Option (den s)
  | .int k, .int k' n => if k' = k then some n else none
  | .bool, .bool b => some b
  | .str, .string s => some s
  | _, _ => none

def keyOf (s : Sh) (x : AV) : Option (den s) :=
  match x with
  | .one (.sc (.val v)) => ofVal1 s v
  | _ => none

/-- A type whose keys are compared at once. -/
def keyT (P : Program) (t : TypeId) (ks : Sh) : Bool :=
  match P.underlying t, ks with
  | some (.int _), .int _ => true
  | some .string, .str => true
  | _, _ => false

def zeroV (P : Program) (t : TypeId) : Option Value :=
  match P.info? t with
  | some i => i.zero
  | none => none

def mget {ks vs : Sh} : List (den ks × den vs) → den ks → Option (den vs)
  | [], _ => none
  | e :: r, x => match keyB ks x e.1 with
    | true => some e.2
    | false => mget r x

def mput {ks vs : Sh} : List (den ks × den vs) → den ks → den vs → List (den ks × den vs)
  | [], x, y => [(x, y)]
  | e :: r, x, y => match keyB ks x e.1 with
    | true => (x, y) :: r
    | false => e :: mput r x y

def lenOwn (σ : List Blk) (id : Nat) (v : Option (Nat × Nat)) : Option Nat :=
  match v with
  | some (lo, hi) => some (hi - lo)
  | none => match getAt σ id with
    | some (.elems _ l) => some l.length
    | some (.froz _ l) => some l.length
    | _ => none

/-- The cells of an element that is pointed into. -/
def elemCells (σ : List Blk) (id i : Nat) : Option (List Sc) :=
  match getAt σ id with
  | some (.elems e l) => some (inj e (l.getD i (dflt e)))
  | some (.froz e l) => some (inj e (l.getD i (dflt e)))
  | _ => none

def boundK (x : Option AV) (d : Int) (k : Int → Option R) : Option R :=
  match x with
  | none => k d
  | some v => intK v fun _ n => k n

/-- What a load from blocks under 'ld' and what no memory is needed for. -/
noncomputable def pOp [DecidableEq R] (P : Program) (ld : Nat → Bool) (o : Oper) (st : St) (k : AV → Option R) : Option R :=
  match o.op with
  | .move x => k (st.opd x)
  | .assign x => k (st.opd x)
  | .pick c a b => match st.opd c with
    | .one (.sc (.val (.bool t))) => cond t (k (st.opd a)) (k (st.opd b))
    | _ => none
  | .field t x f => match st.opd x with
    | .one (.agg cs) => match P.underlying t with
      | some (.struct fs) => match fs[f]? with
        | some fd => partK P fd.type cs fd.offset k
        | none => none
      | _ => none
    | _ => none
  | .build t parts => match zeroCells P t, P.underlying t with
    | some zero, some (.struct fs) => match runPure P (fs.mapM fun f => do pure (f.offset, ← sizeOf f.type)) with
      | some places => fillK (places[·]?) (parts.toList.map fun p => (p.1, st.opd p.2)) zero fun cs => k (.one (.agg cs))
      | none => none
    | some zero, some (.array _ e) => match sizeT P e with
      | some size => fillK (fun i => some (i * size, size)) (parts.toList.map fun p => (p.1, st.opd p.2)) zero fun cs => k (.one (.agg cs))
      | none => none
    | _, _ => none
  | .extract x i => match st.opd x with
    | .tup xs => match getAt xs i with
      | some v => k (.one v)
      | none => none
    | _ => none
  | .binOp op t x y _ => match st.opd x, st.opd y with
    | .one a, .one b => binK P op t x y a b fun v => k (.one (.sc (.val v)))
    | _, _ => none
  | .unOp op _ x => match st.opd x with
    | .one (.sc (.val v)) => match runPure P (Op.unary op v) with
      | some r => k (.one (.sc (.val r)))
      | none => none
    | _ => none
  | .convert s d x => match st.opd x with
    | .one (.sc (.val (.int i n))) => match P.underlying s, P.underlying d with
      | some _, some (.int j) => k (.one (.sc (.val (.int j (j.wrap n)))))
      | _, _ => none
    | .one (.sc (.val (.string u))) => match P.underlying s, P.underlying d with
      | some .string, some .string => k (.one (.sc (.val (.string u))))
      | _, _ => none
    | .one (.sc (.list (.int .u8) l _)) => match P.underlying s, P.underlying d with
      | some (.slice e), some .string => match P.underlying e with
        | some (.int .u8) => k (.one (.sc (.val (.string (bytesOf l)))))
        | _ => none
      | _, _ => none
    | .one (.sc (.own id v)) => match P.underlying s, P.underlying d with
      | some (.slice e), some .string => match P.underlying e, ld id, getAt st.blks id with
        | some (.int .u8), true, some (.elems (.int .u8) l) => k (.one (.sc (.val (.string (bytesOf (viewOf l v))))))
        | _, _, _ => none
      | _, _ => none
    | _ => none
  | .makeInterface t x => match st.opd x, P.underlying t with
    | .one (.sc (.val _)), some (.interface _) => none
    | .one (.sc (.val v)), some _ => k (.one (.sc (.val (.iface t v))))
    | _, _ => none
  | .makeFunc (.func f) first caps => match first.toList with
    | [] => capsK (caps.toList.map st.opd) [] fun cs => k (.one (.sc (.fn f cs)))
    | x :: r => match caps.toList with
      | [] => capsK ((x :: r).map st.opd) [] fun cs => k (.one (.sc (.bnd f cs)))
      | _ => none
  | .lookup t x i ok => match P.underlying t, st.opd x with
    | some (.map kt vt), .one (.sc (.mref id)) => match ld id, getAt st.blks id, zeroV P vt with
      | true, some (.mp ks vs es), some zv => match keyT P kt ks, keyOf ks (st.opd i), ofVal1 vs zv with
        | true, some key, some z => match inj vs ((mget es key).getD z) with
          | [c] => cond ok (k (.tup [.sc c, .sc (.val (.bool (mget es key).isSome))])) (k (.one (.sc c)))
          | _ => none
        | _, _, _ => none
      | _, _, _ => none
    | _, _ => none
  | .nilCheck x => match st.opd x with
    | .one (.sc c) => guardK (isRef c || isFn c) (k (.one (.sc c)))
    | _ => none
  | .fieldAddr t x f => match P.underlying t with
    | some (.struct fs) => match fs[f]? with
      | some fd => match sizeT P fd.type with
        | some (_ + 1) => match st.opd x with
          | .one (.sc (.ref id off)) => k (.one (.sc (.ref id (off + fd.offset))))
          | .one (.sc (.eref id i off)) => k (.one (.sc (.eref id i (off + fd.offset))))
          | .one (.sc (.rref e l i off)) => k (.one (.sc (.rref e l i (off + fd.offset))))
          | _ => none
        | _ => none
      | none => none
    | _ => none
  | .indexAddr t x i => match P.underlying t with
    | some (.slice et) => match sizeT P et with
      | some sz => intK (st.opd i) fun _ n => match st.opd x with
        | .one (.sc (.list e l _)) => match sz == e.size with
          | true => guardK (decide (0 ≤ n) && decide (n < l.length)) (k (.one (.sc (.rref e l n.toNat 0))))
          | false => none
        | .one (.sc (.own id v)) => match getAt st.blks id with
          | some (.elems e l) => match sz == e.size with
            | true => match v with
              | none => guardK (decide (0 ≤ n) && decide (n < l.length)) (k (.one (.sc (.eref id n.toNat 0))))
              | some (lo, hi) => guardK (decide (0 ≤ n) && decide (n < (hi - lo : Nat)) && decide (hi ≤ l.length)) (k (.one (.sc (.eref id (lo + n.toNat) 0))))
            | false => none
          | _ => none
        | _ => none
      | none => none
    | some (.array len et) => match sizeT P et, st.opd x with
      | some (sz + 1), .one (.sc (.ref id off)) => intK (st.opd i) fun _ n => placeK n 0 len fun j => k (.one (.sc (.ref id (off + j * (sz + 1)))))
      | some (sz + 1), .one (.sc (.eref id i₀ off)) => match getAt st.blks id with
        | some (.elems e l) => match Nat.beq (sz + 1) e.size with
          | true => match Nat.beq i₀ 0 && Nat.beq off 0 with
            | true => intK (st.opd i) fun _ n => guardK (decide (0 ≤ n) && decide (n < (len : Int)) && decide (n < l.length)) (k (.one (.sc (.eref id n.toNat 0))))
            | false => none
          | false => intK (st.opd i) fun _ n => placeK n 0 len fun j => k (.one (.sc (.eref id i₀ (off + j * (sz + 1)))))
        | _ => none
      | _, _ => none
    | _ => none
  | .index t x i => intK (st.opd i) fun _ n => match st.opd x with
    | .one (.sc (.val (.string s))) => match P.underlying t with
      | some .string => guardK (decide (0 ≤ n) && decide (n < s.size)) (k (.one (.sc (.val (.int .u8 (byteAt s n))))))
      | _ => none
    | .one (.agg cs) => match P.underlying t with
      | some (.array len e) => match sizeT P e with
        | some sz => pickK P e cs sz n 0 len k
        | none => none
      | _ => none
    | _ => none
  | .load t x => match st.opd x with
    | .one (.sc (.ref id off)) => match ld id, getAt st.blks id with
      | true, some (.cells _ cs) => partK P t cs off k
      | _, _ => none
    | .one (.sc (.eref id i off)) => match ld id, elemCells st.blks id i with
      | true, some cs => partK P t cs off k
      | _, _ => none
    | .one (.sc (.rref e l i off)) => partK P t (inj e (l.getD i (dflt e))) off k
    | _ => none
  | .slice t x lo hi mx => sliceK P st t x lo hi mx fun c => k (.one (.sc c))
  | .call { callee := .builtin b, args, argTypes } => match b, args.toList with
    | .len, [x] => match argTypes.toList with
      | t :: _ => match P.underlying t, st.opd x with
        | some .string, .one (.sc (.val (.string s))) => k (.one (.sc (.val (.int .i64 s.size))))
        | some (.slice _), .one (.sc c) => match lenSc st.blks c with
          | some n => k (.one (.sc (.val (.int .i64 n))))
          | none => none
        | _, _ => none
      | [] => none
    | .min, [x, y] => intK (st.opd x) fun i p => intK (st.opd y) fun _ q => k (.one (.sc (.val (.int i (if q < p then q else p)))))
    | .max, [x, y] => intK (st.opd x) fun i p => intK (st.opd y) fun _ q => k (.one (.sc (.val (.int i (if p < q then q else p)))))
    | _, _ => none
  | _ => none
where
  capsK : List AV → List Sc → (List Sc → Option R) → Option R
    | [], acc, k => k acc.reverse
    | .one (.sc c) :: r, acc, k => capsK r (c :: acc) k
    | _ :: _, _, _ => none
  pickK (P : Program) (e : TypeId) (cs : List Sc) (sz : Nat) (n : Int) : Nat → Nat → (AV → Option R) → Option R
    | _, 0, _ => none
    | j, m + 1, k => cond (n == (j : Int)) (partK P e cs (j * sz) k) (pickK P e cs sz n (j + 1) m k)
  placeK (n : Int) : Nat → Nat → (Nat → Option R) → Option R
    | _, 0, _ => none
    | j, m + 1, k => cond (n == (j : Int)) (k j) (placeK n (j + 1) m k)
  lenSc (σ : List Blk) : Sc → Option Nat
    | .list _ l _ => some l.length
    | .own id v => lenOwn σ id v
    | .val (.slice none 0 0) => some 0
    | _ => none
  sliceK (P : Program) (st : St) (t : TypeId) (x : Operand) (lo hi mx : Option Operand) (k : Sc → Option R) : Option R :=
    match P.underlying t, st.opd x with
    | some .string, .one (.sc (.val (.string s))) => match mx with
      | none => boundK (hi.map st.opd) (s.size : Int) fun h => boundK (lo.map st.opd) 0 fun l =>
          guardK (decide (0 ≤ l) && decide (l ≤ h) && decide (h ≤ s.size)) (k (.val (.string (s.extract l.toNat h.toNat))))
      | some _ => none
    | some (.slice et), .one (.sc (.list e l full)) => match sizeT P et, mx with
      | some sz, none => match sz == e.size with
        | true => boundK (hi.map st.opd) (l.length : Int) fun h => boundK (lo.map st.opd) 0 fun a =>
          guardK (decide (0 ≤ a) && decide (a ≤ h) && decide (h ≤ l.length)) (k (.list e ((l.take h.toNat).drop a.toNat) (match hi with | none => full | some _ => false)))
        | false => none
      | some sz, some m => match sz == e.size, hi with
        | true, some h => intK (st.opd m) fun _ m => intK (st.opd h) fun _ h => boundK (lo.map st.opd) 0 fun a =>
          guardK (decide (0 ≤ a) && decide (a ≤ h) && decide (h ≤ m) && decide (m ≤ l.length)) (k (.list e ((l.take h.toNat).drop a.toNat) (h == m)))
        | _, _ => none
      | none, _ => none
    | some (.slice et), .one (.sc (.own id v)) => match sizeT P et, getAt st.blks id, mx with
      | some sz, some (.elems e l), none => match sz == e.size, v with
        | true, none => boundK (hi.map st.opd) (l.length : Int) fun h => boundK (lo.map st.opd) 0 fun a =>
          guardK (decide (0 ≤ a) && decide (a ≤ h) && decide (h ≤ l.length)) (k (.own id (some (a.toNat, h.toNat))))
        | true, some (p, q) => boundK (hi.map st.opd) ((q - p : Nat) : Int) fun h => boundK (lo.map st.opd) 0 fun a =>
          guardK ((decide (p = 0) || decide (p < q)) && (decide (0 ≤ a) && decide (a ≤ h) && decide (p + h.toNat ≤ l.length))) (k (.own id (some (p + a.toNat, p + h.toNat))))
        | false, _ => none
      | some sz, some (.elems e l), some m => match sz == e.size, v, hi with
        | true, none, some h => intK (st.opd m) fun _ m => intK (st.opd h) fun _ h => boundK (lo.map st.opd) 0 fun a =>
          guardK (decide (0 ≤ a) && decide (a ≤ h) && decide (h ≤ m) && decide (m ≤ l.length)) (k .any)
        | _, _, _ => none
      | _, _, _ => none
    | some (.array len et), .one (.sc (.eref id 0 0)) => match getAt st.blks id, sizeT P et, mx with
      | some (.elems e l), some sz, none => match sz == e.size with
        | true => boundK (hi.map st.opd) (len : Int) fun h => boundK (lo.map st.opd) 0 fun a =>
            guardK (decide (0 ≤ a) && decide (a ≤ h) && decide (h ≤ (len : Int)) && decide (len = l.length)) (k (.own id (some (a.toNat, h.toNat))))
        | false => none
      | _, _, _ => none
    | _, _ => none

end
end Go.Proofs.Ytmenplonaapliaa.AE
end
section
set_option linter.unusedVariables false
namespace Go.Proofs.Ytmenplonaapliaa.AE
open Go

/-! ### What a function takes and gives -/

inductive Ps where
  | raw | sc (s : Sh) | agg (s : Sh) | own (e : Sh)

inductive It where
  | sc (s : Sh) | agg (s : Sh) (ow : List Nat := []) | own (e : Sh) | ptr (T : TypeId) (s : Sh) (ow : List Nat := []) | parm (i off : Nat) | cells (i : Nat) (s : Sh) (ow : List Nat := []) | elems (i : Nat) (e : Sh) | ifc | nilp

@[reducible] def It.den : It → Type
  | .sc s | .agg s _ | .ptr _ s _ | .cells _ s _ => AE.den s
  | .own e | .elems _ e => List (AE.den e)
  | .parm .. | .nilp => Unit
  | .ifc => Bool

@[reducible] def It.dec : (i : It) → DecidableEq i.den
  | .sc s | .agg s _ | .ptr _ s _ | .cells _ s _ => denDec s
  | .own e | .elems _ e => @instDecidableEqList _ (denDec e)
  | .parm .. | .nilp => (inferInstance : DecidableEq Unit)
  | .ifc => (inferInstance : DecidableEq Bool)

def Sh.flat : Sh → Bool
  | .list _ => false
  | .prod a b => a.flat && b.flat
  | _ => true

def It.flat : It → Bool
  | .sc s => s.flat
  | .agg s ow | .cells _ s ow => s.flat && ow.isEmpty
  | _ => false

@[reducible] def PD : List It → Type
  | [] => Unit
  | [a] => a.den
  | a :: b :: r => a.den × PD (b :: r)

instance PD.dec : (l : List It) → DecidableEq (PD l)
  | [] => (inferInstance : DecidableEq Unit)
  | [a] => a.dec
  | a :: b :: r => @instDecidableEqProd _ _ a.dec (PD.dec (b :: r))

structure Sig where
  ps : List Ps := []
  tup : Bool := false
  vals : List It := []
  blks : List It := []
  coer : List (Nat × Ps) := []
  excl : List (Nat × List Nat) := []
  /-- Cells of blocks of a type: what they come to where ways meet. -/
  bcoer : List (TypeId × Nat × Ps) := []
  /-- Given by hand: what a function without a body answers. -/
  op : Option (List AV1 → Option Value) := none
  /-- Given by hand: what a function answers that is not evaluated. -/
  ext : Option (List AV1 → List Blk → Option (PD (vals ++ blks))) := none

abbrev Sig.its (s : Sig) : List It := s.vals ++ s.blks

/-! ### Numbers of blocks -/

def addId (i : Nat) (l : List Nat) : List Nat := match l.contains i with | true => l | false => l ++ [i]

def idsSc : Sc → List Nat → List Nat
  | .ref id _, l | .own id _, l | .eref id _ _, l => addId id l
  | .fn _ caps, l | .bnd _ caps, l => idsFlat caps l
  | .mref id, l => addId id l
  | _, l => l
where
  idsFlat : List Sc → List Nat → List Nat
    | [], l => l
    | .ref id _ :: r, l | .own id _ :: r, l | .eref id _ _ :: r, l | .mref id :: r, l => idsFlat r (addId id l)
    | _ :: r, l => idsFlat r l

def idsScs : List Sc → List Nat → List Nat
  | [], l => l
  | c :: r, l => idsScs r (idsSc c l)

def idsAV1 : AV1 → List Nat → List Nat
  | .sc c, l => idsSc c l
  | .agg cs, l => idsScs cs l

def idsAV1s : List AV1 → List Nat → List Nat
  | [], l => l
  | c :: r, l => idsAV1s r (idsAV1 c l)

def idsAVs : List AV → List Nat → List Nat
  | [], l => l
  | .one v :: r, l => idsAVs r (idsAV1 v l)
  | .tup vs :: r, l => idsAVs r (idsAV1s vs l)

def idsEnv : List (Nat × AV) → List Nat → List Nat
  | [], l => l
  | (_, .one v) :: r, l => idsEnv r (idsAV1 v l)
  | (_, .tup vs) :: r, l => idsEnv r (idsAV1s vs l)

def closeIds (σ : List Blk) : Nat → Nat → List Nat → List Nat
  | 0, _, l => l
  | f + 1, i, l => match getAt l i with
    | some id => match getAt σ id with
      | some (.cells _ cs) => closeIds σ f (i + 1) (idsScs cs l)
      | _ => closeIds σ f (i + 1) l
    | none => l

def newId (m : List Nat) (i : Nat) : Option Nat := go m 0
where
  go : List Nat → Nat → Option Nat
    | [], _ => none
    | x :: r, n => match x == i with | true => some n | false => go r (n + 1)

def renFlat (m : List Nat) : Sc → Option Sc
  | .ref id off => (newId m id).map (.ref · off)
  | .own id v => (newId m id).map (.own · v)
  | .eref id i off => (newId m id).map (.eref · i off)
  | .mref id => (newId m id).map (.mref ·)
  | .fn f caps => match caps with | [] => some (.fn f []) | _ => none
  | .bnd f caps => match caps with | [] => some (.bnd f []) | _ => none
  | c => some c

def optMap {α β : Type} (g : α → Option β) : List α → Option (List β)
  | [] => some []
  | a :: r => match g a, optMap g r with
    | some b, some s => some (b :: s)
    | _, _ => none

def renSc (m : List Nat) : Sc → Option Sc
  | .fn f caps => (optMap (renFlat m) caps).map (.fn f ·)
  | .bnd f caps => (optMap (renFlat m) caps).map (.bnd f ·)
  | c => renFlat m c

def renAV1 (m : List Nat) : AV1 → Option AV1
  | .sc c => (renSc m c).map .sc
  | .agg cs => (optMap (renSc m) cs).map .agg

def renAV (m : List Nat) : AV → Option AV
  | .one v => (renAV1 m v).map .one
  | .tup vs => (optMap (renAV1 m) vs).map .tup

def renBlk (m : List Nat) : Blk → Option Blk
  | .cells T cs => (optMap (renSc m) cs).map (.cells T ·)
  | b => some b

def nodupB : List Nat → Bool
  | [] => true
  | x :: r => !r.contains x && nodupB r

def pickBlks (σ : List Blk) (m : List Nat) : Option (List Blk) := match nodupB m with
  | true => optMap (fun i => match getAt σ i with | some b => renBlk m b | none => none) m
  | false => none

/-! ### What is made and written -/

section
variable {R : Type}

def coerce1 (p : Ps) (v : AV1) (σ : List Blk) : Option (AV1 × List Blk) :=
  match p, v with
  | .raw, v => some (v, σ)
  | .sc s, .sc c => match projAll s [c] σ with
    | some (x, σ) => match inj s x with
      | [c] => some (.sc c, σ)
      | _ => none
    | none => none
  | .agg s, .agg cs => match projAll s cs σ with
    | some (x, σ) => some (.agg (inj s x), σ)
    | none => none
  | .own e, .sc (.val (.slice none 0 0)) => some (.sc (.own σ.length none), σ ++ [.elems e []])
  | .own e, .sc (.own id none) => some (.sc (.own id none), σ)
  | _, _ => none

def bytesT (P : Program) (t : TypeId) : Option Nat := (P.info? t).map (·.bytes)

def nmax : Nat := 17179869184

def bytesOk (P : Program) (t : TypeId) : Bool := match bytesT P t with | some b => Nat.ble b 4096 | none => false

/-- The elements of a slice's type, of plain data. -/
def elemK (P : Program) (t : TypeId) (k : TypeId → Sh → Option R) : Option R :=
  match P.underlying t with
  | some (.slice et) => match shT P et, sizeT P et, bytesOk P et with
    | some e, some sz, true => match sz == e.size with
      | true => k et e
      | false => none
    | _, _, _ => none
  | _ => none

def listOf (e : Sh) (c : Sc) (σ : List Blk) : Option (List (den e)) :=
  match e, c with
  | .int .u8, .val (.string s) => some (intsOf s)
  | e, c => match asList e c σ with
    | some (l, _) => some l
    | none => none

/-- As many data as that, out of cells. -/
def projN (e : Sh) : Nat → List Sc → List Blk → Option (List (den e) × List Blk)
  | 0, [], σ => some ([], σ)
  | 0, _ :: _, _ => none
  | n + 1, cs, σ => match proj e cs σ with
    | some (x, r, σ) => match projN e n r σ with
      | some (l, σ) => some (x :: l, σ)
      | none => none
    | none => none

def repl {α : Type} : Nat → α → List α
  | 0, _ => []
  | n + 1, a => a :: repl n a

def zerosOf (zs : List Sc) (n : Nat) : List Sc := (List.range n).map fun j => (getAt zs (j % zs.length)).getD .any

def appendK (P : Program) (σ : List Blk) (t : TypeId) (s x : Sc) (k : Sc → List Blk → Option R) : Option R :=
  elemK P t fun et e => match listOf e x σ, (zeroCells P et).map fun zs => zs.length == e.size with
  | some y, some true => match s with
    | .val (.slice none 0 0) => guardK (decide (y.length ≤ nmax)) (k (.own σ.length none) (σ ++ [.elems e y]))
    | .list e' l true => if h : e' = e then guardK ((decide (y.length ≠ 0) || decide (l.length = 0)) && decide (l.length + y.length ≤ nmax)) (k (.own σ.length none) (σ ++ [.elems e (h ▸ l ++ y)])) else none
    | .own id none => match getAt σ id with
      | some (.elems e' l) => if h : e' = e then guardK (decide (l.length + y.length ≤ nmax)) (k (.own σ.length none) (setAt σ id .dead ++ [.elems e (h ▸ l ++ y)])) else none
      | _ => none
    | .own id (some (0, hi)) => match getAt σ id with
      | some (.elems e' l) => if h : e' = e then guardK (decide (hi + y.length ≤ l.length)) (k (.own id (some (0, hi + y.length))) (setAt σ id (.elems e ((h ▸ l).take hi ++ y ++ (h ▸ l).drop (hi + y.length))))) else none
      | _ => none
    | _ => none
  | _, _ => none

/-- A piece of a row is set to zeros. -/
def clearK (P : Program) (σ : List Blk) (t : TypeId) (c : Sc) (k : List Blk → Option R) : Option R :=
  elemK P t fun et e => match zeroCells P et with
  | some zs => match projAll e zs σ with
    | some (z, σ') => match c with
      | .own id (some (lo, hi)) => match getAt σ' id with
        | some (.elems e' l) => if h : e = e' then guardK (decide (lo ≤ hi) && decide (hi ≤ l.length)) (k (setAt σ' id (.elems e' (l.take lo ++ List.replicate (hi - lo) (h ▸ z) ++ l.drop hi)))) else none
        | _ => none
      | _ => none
    | none => none
  | none => none

def storeK (P : Program) (σ : List Blk) (t : TypeId) (a : Sc) (v : AV1) (k : List Blk → Option R) : Option R :=
  match sizeT P t with
  | some n => match (av1Cells v).length == n && (av1Cells v).all oneSc && okAV1 v with
    | true => match a with
      | .ref id off => match getAt σ id with
        | some (.cells T cs) => match Nat.ble (off + n) cs.length with
          | true => k (setAt σ id (.cells T (setCells cs off (av1Cells v))))
          | false => none
        | _ => none
      | .eref id i off => match getAt σ id with
        | some (.elems e l) => match Nat.ble (off + n) e.size with
          | true => match projAll e (setCells (inj e (l.getD i (dflt e))) off (av1Cells v)) σ with
            | some (x, σ') => match getAt σ' id with
              | some (.elems e' _) => k (setAt σ' id (.elems e (l.set i x)))
              | _ => none
            | none => none
          | false => match Nat.beq i 0 && Nat.beq off 0 && Nat.beq n (l.length * e.size), projN e l.length (av1Cells v) σ with
            | true, some (l', σ') => match getAt σ' id with
              | some (.elems e' _) => k (setAt σ' id (.elems e l'))
              | _ => none
            | _, _ => none
        | _ => none
      | _ => none
    | false => none
  | none => none

/-- Is it a row's, or a text's, type? -/
def plainArg (P : Program) (t : TypeId) : Bool := match P.underlying t with
  | some (.slice _) => true
  | some .string => true
  | _ => false

/-- What makes memory, or writes it. -/
def eOp (P : Program) (o : Oper) (st : St) (k : AV → List Blk → Option R) : Option R :=
  match o.op with
  | .alloc t => match P.underlying t, zeroCells P t with
    | some (.array n et), some cs => match shT P et with
      | some (.list _) => k (.one (.sc (.ref st.blks.length 0))) (st.blks ++ [.cells t cs])
      | some e => match projN e n cs st.blks, Nat.ble 1 n with
        | some (l, σ), true => k (.one (.sc (.eref σ.length 0 0))) (σ ++ [.elems e l])
        | _, _ => none
      | none => none
    | _, some cs => k (.one (.sc (.ref st.blks.length 0))) (st.blks ++ [.cells t cs])
    | _, none => none
  | .box t x => match st.opd x with
    | .one v => match okAV1 v with
      | true => match P.underlying t with
        | some (.array n et) => match shT P et with
          | some (.list _) => k (.one (.sc (.ref st.blks.length 0))) (st.blks ++ [.cells t (av1Cells v)])
          | some e => match projN e n (av1Cells v) st.blks, Nat.ble 1 n with
            | some (l, σ), true => k (.one (.sc (.eref σ.length 0 0))) (σ ++ [.elems e l])
            | _, _ => none
          | none => none
        | _ => k (.one (.sc (.ref st.blks.length 0))) (st.blks ++ [.cells t (av1Cells v)])
      | false => none
    | _ => none
  | .makeMap t r => match r, P.underlying t with
    | none, some (.map kt vt) => match shT P kt, shT P vt with
      | some ks, some vs => k (.one (.sc (.mref st.blks.length))) (st.blks ++ [.mp ks vs []])
      | _, _ => none
    | _, _ => none
  | .mapUpdate t m i x => match P.underlying t, st.opd m with
    | some (.map kt _), .one (.sc (.mref id)) => match getAt st.blks id with
      | some (.mp ks vs es) => match keyT P kt ks, keyOf ks (st.opd i), keyOf vs (st.opd x) with
        | true, some key, some y => k (.one (.sc (.val undef))) (setAt st.blks id (.mp ks vs (mput es key y)))
        | _, _, _ => none
      | _ => none
    | _, _ => none
  | .store t a x => match st.opd a, st.opd x with
    | .one (.sc c), .one v => storeK P st.blks t c v fun σ => k (.one (.sc (.val undef))) σ
    | _, _ => none
  | .buildSlice t len parts => elemK P t fun et e => match zeroCells P et, Nat.ble (len * e.size) 16777216 with
    | some [], true => none
    | some zs, true => fillK (fun i => some (i * e.size, e.size)) (parts.toList.map fun p => (p.1, st.opd p.2)) (zerosOf zs (len * e.size)) fun cs => match projN e len cs st.blks with
      | some (l, σ) => k (.one (.sc (.own σ.length none))) (σ ++ [.elems e l])
      | none => none
    | _, _ => none
  | .makeSlice t x y => elemK P t fun et e => match zeroCells P et with
    | some zs => match projAll e zs st.blks with
      | some (z, σ) => intK (st.opd x) fun _ n => intK (st.opd y) fun _ c => guardK (decide (0 ≤ n) && decide (n ≤ c)) (guardK (decide (c ≤ 17179869184)) (k (.one (.sc (.own σ.length none))) (σ ++ [.elems e (List.replicate n.toNat z)])))
      | none => none
    | none => none
  | .convert s d x => match P.underlying s, P.underlying d, st.opd x with
    | some .string, some (.slice et), .one (.sc (.val (.string u))) => match P.underlying et with
      | some (.int .u8) => k (.one (.sc (.own st.blks.length none))) (st.blks ++ [.elems (.int .u8) (intsOf u)])
      | _ => none
    | _, _, _ => none
  | .call { callee := .builtin b, args, argTypes } => match b, args.toList, argTypes.toList with
    | .append, [p, q], [t, u] => match st.opd p, st.opd q, plainArg P u with
      | .one (.sc s), .one (.sc x), true => appendK P st.blks t s x fun c σ => k (.one (.sc c)) σ
      | _, _, _ => none
    | .clear, [p], [t] => match st.opd p with
      | .one (.sc c) => clearK P st.blks t c fun σ => k (.tup []) σ
      | _ => none
    | _, _, _ => none
  | _ => none

/-! ### Calls -/

def projSc (s : Sh) (vs : List AV1) (σ : List Blk) : Option (den s × List AV1 × List Blk) :=
  match vs with
  | .sc c :: r => match projAll s [c] σ with
    | some (x, σ) => some (x, r, σ)
    | none => none
  | _ => none

/-- A map is handed over: as the row of its entries. -/
def projMap (e : Sh) (vs : List AV1) (σ : List Blk) : Option (List (den e) × List AV1 × List Blk) :=
  match vs with
  | .sc (.mref id) :: r => match getAt σ id with
    | some (.mp k v es) => if h : Sh.prod k v = e then some (h ▸ es, r, setAt σ id .dead) else none
    | _ => none
  | _ => none

def projOwn (e : Sh) (vs : List AV1) (σ : List Blk) : Option (List (den e) × List AV1 × List Blk) :=
  match vs with
  | .sc c :: r => match c with
    | .val (.slice none 0 0) => some ([], r, σ)
    | .own id v => match getAt σ id with
      | some (.elems e' l) => if h : e' = e then match v with
          | none => some (h ▸ l, r, setAt σ id .dead)
          | some (0, hi) => some ((h ▸ l).take hi, r, setAt σ id .dead)
          | _ => none
        else none
      | _ => none
    | _ => none
  | _ => none

/-- A row that stands where it stood: which one of those handed in. -/
def keepOf : List Nat → Nat → Option Nat
  | [], _ => none
  | x :: r, p => match Nat.ble 10000 x && Nat.beq (x % 10000) p with
    | true => some (x / 10000 - 1)
    | false => keepOf r p

def projKeep (e : Sh) (j : Nat) (vs : List AV1) (σ : List Blk) : Option (List (den e) × List AV1 × List Blk) :=
  match vs with
  | .sc (.own id none) :: r => match Nat.beq id j with
    | true => match getAt σ id with
      | some (.elems e' l) => if h : e' = e then some (h ▸ l, r, setAt σ id .dead) else none
      | _ => none
    | false => none
  | _ => none

/-- Cell by cell; some of them are rows that are handed over. -/
def projO (ow : List Nat) : (e : Sh) → Nat → List AV1 → List Blk → Option (den e × List AV1 × List Blk)
  | .prod a b, p, vs, σ => match projO ow a p vs σ with
    | some (x, r, σ) => match projO ow b (p + a.size) r σ with
      | some (y, r, σ) => some ((x, y), r, σ)
      | none => none
    | none => none
  | .list e, p, vs, σ => match ow.contains p with
    | true => projOwn e vs σ
    | false => match ow.contains (p + 1000) with
      | true => projMap e vs σ
      | false => match keepOf ow p with
        | some j => projKeep e j vs σ
        | none => projSc (.list e) vs σ
  | .int k, _, vs, σ => projSc (.int k) vs σ
  | .bool, _, vs, σ => projSc .bool vs σ
  | .str, _, vs, σ => projSc .str vs σ

def projIt : (i : It) → List AV1 → List Blk → Option (i.den × List AV1 × List Blk)
  | .sc s, vs, σ => projSc s vs σ
  | .agg s ow, vs, σ => match vs with
    | .agg cs :: r => match projO ow s 0 (cs.map .sc) σ with
      | some (x, [], σ) => some (x, r, σ)
      | _ => none
    | _ => none
  | .own e, vs, σ => projOwn e vs σ
  | .ptr T s ow, vs, σ => match vs with
    | .sc (.ref id 0) :: r => match getAt σ id with
      | some (.cells T' cs) => if T' = T then match projO ow s 0 (cs.map .sc) σ with
          | some (x, [], σ) => some (x, r, setAt σ id .dead)
          | _ => none
        else none
      | _ => none
    | _ => none
  | .parm i off, vs, σ => match vs with
    | .sc (.ref id o) :: r => match id == i && o == off with
      | true => some ((), r, σ)
      | false => none
    | _ => none
  | .ifc, vs, σ => match vs with
    | .sc (.ifc b) :: r => some (b, r, σ)
    | _ => none
  | .nilp, vs, σ => match vs with
    | .sc (.val (.pointer none)) :: r => some ((), r, σ)
    | _ => none
  | .cells i s ow, vs, σ => match getAt σ i with
    | some (.cells _ cs) => match projO ow s 0 (cs.map .sc) σ with
      | some (x, [], σ) => some (x, vs, setAt σ i .dead)
      | _ => none
    | _ => none
  | .elems i e, vs, σ => match getAt σ i with
    | some (.elems e' l) => if h : e' = e then some (h ▸ l, vs, setAt σ i .dead) else none
    | _ => none

def projIts : (l : List It) → List AV1 → List Blk → Option (PD l)
  | [], [], _ => some ()
  | [], _ :: _, _ => none
  | [a], vs, σ => match projIt a vs σ with
    | some (x, [], _) => some x
    | _ => none
  | a :: b :: r, vs, σ => match projIt a vs σ with
    | some (x, vs, σ) => match projIts (b :: r) vs σ with
      | some y => some (x, y)
      | none => none
    | none => none

def reconSc (s : Sh) (x : den s) (vs : List AV1) (σ : List Blk) : Option (List AV1 × List Blk) :=
  match inj s x with
  | [c] => some (vs ++ [.sc c], σ)
  | _ => none

def reconOwn (e : Sh) (l : List (den e)) (vs : List AV1) (σ : List Blk) : List AV1 × List Blk := (vs ++ [.sc (.own σ.length none)], σ ++ [.elems e l])

def reconMap (e : Sh) (l : List (den e)) (vs : List AV1) (σ : List Blk) : Option (List AV1 × List Blk) :=
  match e with
  | .prod k v => some (vs ++ [.sc (.mref σ.length)], σ ++ [.mp k v l])
  | _ => none

def reconKeep (m : List Nat) (e : Sh) (j : Nat) (l : List (den e)) (vs : List AV1) (σ : List Blk) : Option (List AV1 × List Blk) :=
  match getAt m j with
  | some i => some (vs ++ [.sc (.own i none)], setAt σ i (.elems e l))
  | none => none

def reconO (m ow : List Nat) : (e : Sh) → Nat → den e → List AV1 → List Blk → Option (List AV1 × List Blk)
  | .prod a b, p, x, vs, σ => match reconO m ow a p x.1 vs σ with
    | some (vs, σ) => reconO m ow b (p + a.size) x.2 vs σ
    | none => none
  | .list e, p, x, vs, σ => match ow.contains p with
    | true => some (reconOwn e x vs σ)
    | false => match ow.contains (p + 1000) with
      | true => reconMap e x vs σ
      | false => match keepOf ow p with
        | some j => reconKeep m e j x vs σ
        | none => reconSc (.list e) x vs σ
  | .int k, _, x, vs, σ => reconSc (.int k) x vs σ
  | .bool, _, x, vs, σ => reconSc .bool x vs σ
  | .str, _, x, vs, σ => reconSc .str x vs σ

def scsOf : List AV1 → List Sc
  | [] => []
  | .sc c :: r => c :: scsOf r
  | .agg _ :: r => scsOf r

/-- Back in the caller: the values and the blocks. -/
def reconIt (m : List Nat) (old : List Blk) : (i : It) → i.den → List AV1 → List Blk → Option (List AV1 × List Blk)
  | .sc s, x, vs, σ => reconSc s x vs σ
  | .agg s ow, x, vs, σ => match reconO m ow s 0 x [] σ with
    | some (cs, σ) => some (vs ++ [.agg (scsOf cs)], σ)
    | none => none
  | .own e, l, vs, σ => some (reconOwn e l vs σ)
  | .ptr T s ow, x, vs, σ => match reconO m ow s 0 x [] σ with
    | some (cs, σ) => some (vs ++ [.sc (.ref σ.length 0)], σ ++ [.cells T (scsOf cs)])
    | none => none
  | .parm i off, _, vs, σ => match getAt m i with
    | some j => some (vs ++ [.sc (.ref j off)], σ)
    | none => none
  | .ifc, x, vs, σ => some (vs ++ [.sc (.ifc x)], σ)
  | .nilp, _, vs, σ => some (vs ++ [.sc (.val (.pointer none))], σ)
  | .cells i s ow, x, vs, σ => match getAt m i with
    | some j => match getAt old j with
      | some (.cells T _) => match reconO m ow s 0 x [] σ with
        | some (cs, σ) => some (vs, setAt σ j (.cells T (scsOf cs)))
        | none => none
      | _ => none
    | none => none
  | .elems i e, l, vs, σ => match getAt m i with
    | some j => some (vs, setAt σ j (.elems e l))
    | none => none

def reconIts (m : List Nat) (old : List Blk) : (l : List It) → PD l → List AV1 → List Blk → Option (List AV1 × List Blk)
  | [], _, vs, σ => some (vs, σ)
  | [a], x, vs, σ => reconIt m old a x vs σ
  | a :: b :: r, x, vs, σ => match reconIt m old a x.1 vs σ with
    | some (vs, σ) => reconIts m old (b :: r) x.2 vs σ
    | none => none

def deadAll : List Nat → List Blk → List Blk
  | [], σ => σ
  | i :: r, σ => deadAll r (setAt σ i .dead)

def coerceArgs : List Ps → List AV1 → List Blk → Option (List AV1 × List Blk)
  | _, [], σ => some ([], σ)
  | [], v :: r, σ => match coerceArgs [] r σ with
    | some (vs, σ) => some (v :: vs, σ)
    | none => none
  | p :: ps, v :: r, σ => match coerce1 p v σ with
    | some (v, σ) => match coerceArgs ps r σ with
      | some (vs, σ) => some (v :: vs, σ)
      | none => none
    | none => none

structure Ctx where
  P : Program
  sg : FuncId → Sig
  callF : (f : FuncId) → List AV1 → List Blk → Option (PD (sg f).its)
  K : Nat
  m : Nat
  coer : List (Nat × Ps)
  excl : List (Nat × List Nat)
  bcoer : List (TypeId × Nat × Ps)
  R : Nat
  nt : Nat

def baseOf (fl : Bool) (σ₀ σ₁ : List Blk) : List Blk := match fl with | true => σ₀ | false => σ₁

def isFlat (C : Ctx) (f : FuncId) (σ₀ σ₁ : List Blk) : Bool := (C.sg f).its.all It.flat && Nat.beq σ₁.length σ₀.length

def callK (C : Ctx) (f : FuncId) (args : List AV1) (σ₀ : List Blk) (k : AV → List Blk → Option R) : Option R :=
  match coerceArgs (C.sg f).ps args σ₀ with
  | none => none
  | some (args, σ₁) =>
    match optMap (renAV1 (closeIds σ₁ 40 0 (idsAV1s args []))) args, pickBlks σ₁ (closeIds σ₁ 40 0 (idsAV1s args [])) with
      | some ass, some bs => (C.callF f ass bs).bind fun t =>
          match reconIts (closeIds σ₁ 40 0 (idsAV1s args [])) σ₁ (C.sg f).its t [] (deadAll (closeIds σ₁ 40 0 (idsAV1s args [])) (baseOf (isFlat C f σ₀ σ₁) σ₀ σ₁)) with
          | some (vs, σ) => match (C.sg f).tup, vs with
            | true, vs => k (.tup vs) σ
            | false, [v] => k (.one v) σ
            | false, _ => none
          | none => none
      | _, _ => none

def argsOf : List AV → Option (List AV1)
  | [] => some []
  | .one v :: r => (argsOf r).map (v :: ·)
  | .tup _ :: _ => none

/-! ### Code -/

inductive Out where
  | norm (st : St) | exit (id : Nat) (st : St) | ret (st : St)

def opdU : Operand → Nat
  | .tmp t => 2 ^ t
  | _ => 0

def opdsU : List Operand → Nat
  | [] => 0
  | x :: r => opdU x ||| opdsU r

/-- The slots that are looked at behind a row of operations, ahead of being set. -/
def opersU (all : List Oper) (L : Nat) : List Oper → Nat
  | [] => L
  | o :: r => match opersU all L r with
    | L => (match o.dst with | some d => L ^^^ (L &&& 2 ^ d) | none => L) ||| opdsU o.op.operands.toList ||| (match o.guard with
      | some (j, _) => (match getAt all j with | some p => (match p.dst with | some d => 2 ^ d | none => 0) | none => 0)
      | none => 0)

def lookN : List (Nat × Nat) → Nat → Nat
  | [], _ => 0
  | (i, l) :: r, j => match i == j with | true => l | false => lookN r j

/-- What is looked at from a place on, if 'L' is what is behind it, 'R' at the end, 'ex' behind the blocks around it. -/
def codeU (R : Nat) : Code → List (Nat × Nat) → Nat → Nat
  | .region _ ops _, _, L => opersU ops.toList L ops.toList
  | .seq a b, ex, L => codeU R a ex (codeU R b ex L)
  | .cond c a b, ex, L => opdU c ||| (codeU R a ex L ||| codeU R b ex L)
  | .block id b, ex, L => codeU R b ((id, L) :: ex) L
  | .loop b, ex, L => match codeU R b ex 0 with | L₁ => codeU R b ex L₁ ||| L₁
  | .exit id, ex, _ => lookN ex id
  | .ret, _, _ => R
  | _, _, L => L

/-- The slots of 'live' below 'n', downwards. -/
def clear (env : List (Nat × AV)) (live : Nat) : Nat → List (Nat × AV) → List (Nat × AV)
  | 0, acc => acc
  | n + 1, acc => match live.testBit n with
    | true => match look env n with
      | .one (.sc .any) => clear env live n acc
      | v => clear env live n ((n, v) :: acc)
    | false => clear env live n acc

def coerceEnv (coer : List (Nat × Ps)) : List (Nat × AV) → List Blk → Option (List (Nat × AV) × List Blk)
  | [], σ => some ([], σ)
  | (t, v) :: r, σ => match findPs coer t, v with
    | some p, .one v => match coerce1 p v σ with
      | some (v, σ) => match coerceEnv coer r σ with
        | some (env, σ) => some ((t, .one v) :: env, σ)
        | none => none
      | none => none
    | some _, .tup _ => none
    | none, v => match coerceEnv coer r σ with
      | some (env, σ) => some ((t, v) :: env, σ)
      | none => none
where
  findPs : List (Nat × Ps) → Nat → Option Ps
    | [], _ => none
    | (i, p) :: r, t => match Nat.beq i t with | true => some p | false => findPs r t

def renEnv (m : List Nat) : List (Nat × AV) → Option (List (Nat × AV))
  | [] => some []
  | (t, v) :: r => match renAV m v, renEnv m r with
    | some v, some r => some ((t, v) :: r)
    | _, _ => none

def findB (T j : Nat) : List (TypeId × Nat × Ps) → Option Ps
  | [] => none
  | (T', i, p) :: r => match Nat.beq T' T && Nat.beq i j with | true => some p | false => findB T j r

/-- One of one's own rows under a new number. -/
def moveRow (c : Sc) (σ : List Blk) : Option (Sc × List Blk) :=
  match c with
  | .own id none => match getAt σ id with
    | some (.elems e l) => some (.own σ.length none, setAt σ id .dead ++ [.elems e l])
    | _ => none
  | .mref id => match getAt σ id with
    | some (.mp k v es) => some (.mref σ.length, setAt σ id .dead ++ [.mp k v es])
    | _ => none
  | _ => none

def coerceCells (bc : List (TypeId × Nat × Ps)) (T : TypeId) : Nat → List Sc → List Blk → Option (List Sc × List Blk)
  | _, [], σ => some ([], σ)
  | j, c :: r, σ => match findB T j bc with
    | some .raw => match moveRow c σ with
      | some (c, σ) => match coerceCells bc T (j + 1) r σ with
        | some (r, σ) => some (c :: r, σ)
        | none => none
      | none => none
    | some p => match coerce1 p (.sc c) σ with
      | some (.sc c, σ) => match coerceCells bc T (j + 1) r σ with
        | some (r, σ) => some (c :: r, σ)
        | none => none
      | _ => none
    | none => match coerceCells bc T (j + 1) r σ with
      | some (r, σ) => some (c :: r, σ)
      | none => none

def coerceBlks (bc : List (TypeId × Nat × Ps)) : Nat → List Blk → Option (List Blk)
  | 0, σ => some σ
  | n + 1, σ => match getAt σ n with
    | some (.cells T cs) => match coerceCells bc T 0 cs σ with
      | some (cs, σ) => match getAt σ n with
        | some (.cells T' _) => coerceBlks bc n (setAt σ n (.cells T' cs))
        | _ => none
      | none => none
    | _ => coerceBlks bc n σ

def coerceAll (bc : List (TypeId × Nat × Ps)) (σ : List Blk) : Option (List Blk) := match bc with
  | [] => some σ
  | bc => coerceBlks bc σ.length σ

/-- What a state comes to where ways meet: what is used from here on, in the blocks' order of use. -/
def normK (C : Ctx) (live : Nat) (st : St) (k : St → Option R) : Option R :=
  match coerceEnv C.coer (clear st.env live C.nt []) st.blks with
  | none => none
  | some (env, σ) => match coerceAll C.bcoer σ with
    | none => none
    | some σ => match closeIds σ 40 0 (idsEnv env (List.range C.m)) with
    | m => match renEnv m env, pickBlks σ m with
      | some env, some bs => k ⟨env, bs⟩
      | _, _ => none

def putE (nt : Nat) (st : St) (d : Option Tmp) (v : AV) : St :=
  match d with
  | some d => match Nat.blt d nt with
    | true => ⟨(d, v) :: st.env, st.blks⟩
    | false => ⟨(d, .any) :: st.env, st.blks⟩
  | none => st

abbrev AV.bool (b : Bool) : AV := .one (.sc (.val (.bool b)))

/-- 0: without memory; 1: with; 2: a call. -/
def kindOf : Op → Nat
  | .alloc _ | .box .. | .store .. | .buildSlice .. | .makeSlice .. | .makeMap .. | .mapUpdate .. => 1
  | .call { callee := .builtin .append, .. } => 1
  | .call { callee := .builtin .clear, .. } => 1
  | .call { callee := .builtin .copy, .. } => 1
  | .call { callee := .builtin _, .. } => 0
  | .call _ => 2
  | _ => 0

noncomputable def execK [DecidableEq R] (C : Ctx) (o : Oper) (st : St) (k : St → Option R) : Option R :=
  match kindOf o.op with
  | 0 => match o.op with
    | .convert s d x => match C.P.underlying d with
      | some (.slice _) => eOp C.P o st fun v σ => k (putE C.nt ⟨st.env, σ⟩ o.dst v)
      | _ => pOp C.P (fun _ => true) o st fun v => k (putE C.nt st o.dst v)
    | _ => pOp C.P (fun _ => true) o st fun v => k (putE C.nt st o.dst v)
  | 1 => eOp C.P o st fun v σ => k (putE C.nt ⟨st.env, σ⟩ o.dst v)
  | _ => match o.op with
    | .call { callee := .value x, args, .. } => match st.opd x, argsOf (args.toList.map st.opd) with
      | .one (.sc (.fn f caps)), some ass => match (C.sg f).op with
        | some g => match g (ass ++ caps.map .sc) with
          | some v => k (putE C.nt st o.dst (.one (.sc (.val v))))
          | none => none
        | none => callK C f (ass ++ caps.map .sc) st.blks fun v σ => k (putE C.nt ⟨st.env, σ⟩ o.dst v)
      | .one (.sc (.bnd f first)), some ass => callK C f (first.map .sc ++ ass) st.blks fun v σ => k (putE C.nt ⟨st.env, σ⟩ o.dst v)
      | _, _ => none
    | _ => none

/-- A guard: the state behind it knows what it was. -/
def guardedK (nt : Nat) (all : List Oper) (o : Oper) (st : St) (run : St → Option R) (skip : St → Option R) : Option R :=
  match o.guard with
  | none => run st
  | some (j, want) => match getAt all j with
    | some p => match p.dst with
      | some d => match look st.env d with
        | .one (.sc (.val (.bool b))) =>
          cond b (match want with | true => run (putE nt st (some d) (.bool true)) | false => skip (putE nt st (some d) (.bool true)))
            (match want with | true => skip (putE nt st (some d) (.bool false)) | false => run (putE nt st (some d) (.bool false)))
        | .one (.sc (.val (.tuple _))) => skip st
        | _ => none
      | none => none
    | none => none

noncomputable def seqK [DecidableEq R] (C : Ctx) (all : List Oper) : List Oper → St → (St → Option R) → Option R
  | [], st, k => k st
  | o :: r, st, k => guardedK C.nt all o st (fun st => execK C o st fun st => seqK C all r st k) (fun st => seqK C all r (putE C.nt st o.dst (.one (.sc (.val undef)))) k)

/-- May this one be taken first, whoever else may come up? -/
def firstOk (C : Ctx) (ld : Nat → Bool) (ops : Array Oper) (st : St) (i : Nat) : Bool :=
  match getAt ops.toList i with
  | some o => match kindOf o.op with
    | 0 => match o.op with
      | .convert _ d x => match C.P.underlying d with
        | some (.slice _) => false
        | _ => match st.opd x with | .one (.sc (.own id _)) => ld id | _ => true
      | .load _ x => match st.opd x with
        | .one (.sc (.ref id _)) => ld id
        | .one (.sc (.eref id _ _)) => ld id
        | _ => true
      | .lookup _ x _ _ => match st.opd x with
        | .one (.sc (.mref id)) => ld id
        | _ => true
      | _ => true
    | _ => false
  | none => false

def idOf : AV → Option Nat
  | .one (.sc (.ref id _)) => some id
  | .one (.sc (.own id _)) => some id
  | .one (.sc (.eref id _ _)) => some id
  | .one (.sc (.mref id)) => some id
  | _ => none

/-- The rows of one's own that an operation may turn. -/
def touchesE (o : Oper) (st : St) : List Nat := (o.op.operands.toList.map st.opd).filterMap idOf

def touches (C : Ctx) (o : Oper) (st : St) : List Nat :=
  match kindOf o.op with
  | 2 => match o.op with
    | .call { callee := .value x, args, .. } => match st.opd x, argsOf (args.toList.map st.opd) with
      | .one (.sc (.fn f caps)), some ass => match coerceArgs (C.sg f).ps (ass ++ caps.map .sc) st.blks with
        | some (args, σ₁) => closeIds σ₁ 40 0 (idsAV1s args [])
        | none => []
      | .one (.sc (.bnd f first)), some ass => match coerceArgs (C.sg f).ps (first.map .sc ++ ass) st.blks with
        | some (args, σ₁) => closeIds σ₁ 40 0 (idsAV1s args [])
        | none => []
      | _, _ => []
    | _ => []
  | _ => touchesE o st

/-- All of several ways, which must come to the same. -/
noncomputable def meets [DecidableEq R] : List (Option R) → Option R
  | [] => none
  | [a] => a
  | a :: b :: r => meet a (meets (b :: r))

/-- What an operation waits for, as bits. -/
def predM (o : Oper) : Nat := go o.after.toList
where
  go : List Edge → Nat
    | [] => 0
    | e :: r => match Region.binds .any e with
      | true => 2 ^ e.on ||| go r
      | false => go r

def readyM (mask : Nat) : List Oper → Nat → List Nat
  | [], _ => []
  | o :: r, i => match !mask.testBit i && Nat.beq (predM o &&& mask) (predM o) with
    | true => i :: readyM mask r (i + 1)
    | false => readyM mask r (i + 1)

/-- Nobody who may still come before it touches what it looks at or sets. -/
def freeM (ops : Array Oper) (mask i : Nat) (x : Oper) : List Oper → Nat → Bool
  | [], _ => true
  | o :: r, j => (Nat.beq i j || mask.testBit j || (predM o).testBit i || x.apart ops o) && freeM ops mask i x r (j + 1)

noncomputable def drawK [DecidableEq R] (C : Ctx) (ops : Array Oper) (n₀ : Nat) (ex : List Nat) : Nat → Nat → St → (St → Option R) → Option R
  | 0, mask, st, k => match readyM mask ops.toList 0 with
    | [] => k st
    | _ => none
  | f + 1, mask, st, k =>
    match readyM mask ops.toList 0 with
    | [] => k st
    | i :: rs => match (i :: rs).find? (firstOk C (fun id => Nat.blt id n₀ && !ex.contains id) ops st) with
      | some j => match getAt ops.toList j with
        | some o => match freeM ops mask j o ops.toList 0 with
          | true => guardedK C.nt ops.toList o st
            (fun st => pOp C.P (fun id => Nat.blt id n₀ && !ex.contains id) o st fun v => drawK C ops n₀ ex f (mask ||| 2 ^ j) (putE C.nt st o.dst v) k)
            (fun st => drawK C ops n₀ ex f (mask ||| 2 ^ j) (putE C.nt st o.dst (.one (.sc (.val undef)))) k)
          | false => none
        | none => none
      | none => meets ((i :: rs).map fun i => match getAt ops.toList i with
        | some o => guardedK C.nt ops.toList o st
            (fun st => match (touches C o st).all fun id => ex.contains id || Nat.ble n₀ id with
              | true => execK C o st fun st => drawK C ops n₀ ex f (mask ||| 2 ^ i) st k
              | false => none)
            (fun st => drawK C ops n₀ ex f (mask ||| 2 ^ i) (putE C.nt st o.dst (.one (.sc (.val undef)))) k)
        | none => none)

def exclOf : List (Nat × List Nat) → Nat → List Nat
  | [], _ => []
  | (i, l) :: r, j => match i == j with | true => l | false => exclOf r j

/-- A place with a name: it weighs less than all that leads to it, so that the kernel compares there first. -/
def go {S : Type} (f : S → Option R) (st : S) : Option R := f st

def loopKont (C : Ctx) (live : Nat) (again : St → Option R) (k : Out → Option R) : Out → Option R
  | .norm st => normK C live st again
  | o => k o

def loopN (C : Ctx) (live : Nat) (step : St → (Out → Option R) → Option R) : Nat → St → (Out → Option R) → Option R
  | 0, _, _ => none
  | n + 1, st, k => step st (loopKont C live (go fun st => loopN C live step n st k) k)

def isRegion : Code → Bool
  | .region _ ops draw => !draw && ops.toList.all fun o => o.guard.isNone
  | _ => false

noncomputable def seqKont (C : Ctx) (reg : Bool) (live : Nat) (next : St → Option R) (k : Out → Option R) : Out → Option R
  | .norm st => match reg with
    | true => next st
    | false => normK C live st next
  | o => k o

def blockKont (id : Nat) (k : Out → Option R) : Out → Option R
  | .exit i st => match i == id with
    | true => k (.norm st)
    | false => k (.exit i st)
  | o => k o

noncomputable def evK [DecidableEq R] (C : Ctx) : Code → List (Nat × Nat) → Nat → St → (Out → Option R) → Option R
  | .skip, _, _, st, k => k (.norm st)
  | .region id ops draw, _, _, st, k => match draw with
    | false => seqK C ops.toList ops.toList st fun st => k (.norm st)
    | true => match Region.noSelect ops with
      | true => drawK C ops st.blks.length (exclOf C.excl id) ops.size 0 st fun st => k (.norm st)
      | false => none
  | .seq a b, ex, live, st, k => (fun lb => evK C a ex lb st (seqKont C (isRegion a) lb (go fun st => evK C b ex live st k) k)) (codeU C.R b ex live)
  | .cond c a b, ex, live, st, k => match st.opd c with
    | .one (.sc (.val (.bool t))) => cond t (evK C a ex live st k) (evK C b ex live st k)
    | _ => none
  | .block id body, ex, live, st, k => evK C body ((id, live) :: ex) live st (blockKont id k)
  | .loop body, ex, live, st, k => (fun lb => normK C lb st (go fun st => loopN C lb (fun st k => evK C body ex lb st k) C.K st k)) (codeU C.R (.loop body) ex live)
  | .exit id, _, _, st, k => k (.exit id st)
  | .ret, _, _, st, k => k (.ret st)
  | _, _, _, _, _ => none

/-- The same from a place inside on (for naming only): a path through the code, what is left of the rounds of the loops around it. -/
noncomputable def atK [DecidableEq R] (C : Ctx) : Code → List Nat → List Nat → List (Nat × Nat) → Nat → St → (Out → Option R) → Option R
  | .loop body, [], [n], ex, live, st, k => (fun lb => go (fun st => loopN C lb (fun st k => evK C body ex lb st k) n st k) st) (codeU C.R (.loop body) ex live)
  | c, [], [], ex, live, st, k => go (fun st => evK C c ex live st k) st
  | .seq a b, 0 :: p, ns, ex, live, st, k => (fun lb => atK C a p ns ex lb st (seqKont C (isRegion a) lb (go fun st => evK C b ex live st k) k)) (codeU C.R b ex live)
  | .seq _ b, 1 :: p, ns, ex, live, st, k => atK C b p ns ex live st k
  | .cond _ a _, 0 :: p, ns, ex, live, st, k => atK C a p ns ex live st k
  | .cond _ _ b, 1 :: p, ns, ex, live, st, k => atK C b p ns ex live st k
  | .block id body, 0 :: p, ns, ex, live, st, k => atK C body p ns ((id, live) :: ex) live st (blockKont id k)
  | .loop body, 0 :: p, n :: ns, ex, live, st, k => (fun lb => atK C body p ns ex lb st (loopKont C lb (go fun st => loopN C lb (fun st k => evK C body ex lb st k) n st k) k)) (codeU C.R (.loop body) ex live)
  | _, _, _, _, _, _, _ => none

/-! ### With holes: what the equations are checked on -/

def eqP : List Nat → List Nat → Bool
  | [], [] => true
  | a :: r, b :: s => match Nat.beq a b with | true => eqP r s | false => false
  | _, _ => false

def namedB : List (List Nat) → List Nat → Bool
  | [], _ => false
  | a :: r, p => match eqP a p with | true => true | false => namedB r p

noncomputable def evH [DecidableEq R] (C : Ctx) (nm : List (List Nat)) (H : List Nat → List Nat → St → Option R) : Code → List Nat → List Nat → List (Nat × Nat) → Nat → St → (Out → Option R) → Option R
  | .skip, _, _, _, _, st, k => k (.norm st)
  | .region id ops draw, _, _, _, _, st, k => match draw with
    | false => seqK C ops.toList ops.toList st fun st => k (.norm st)
    | true => match Region.noSelect ops with
      | true => drawK C ops st.blks.length (exclOf C.excl id) ops.size 0 st fun st => k (.norm st)
      | false => none
  | .seq a b, p, ns, ex, live, st, k => (fun lb => evH C nm H a (p ++ [0]) ns ex lb st (seqKont C (isRegion a) lb (fun st => cond (namedB nm (p ++ [1])) (H (p ++ [1]) ns st) (evH C nm H b (p ++ [1]) ns ex live st k)) k)) (codeU C.R b ex live)
  | .cond c a b, p, ns, ex, live, st, k => match st.opd c with
    | .one (.sc (.val (.bool t))) => cond t (evH C nm H a (p ++ [0]) ns ex live st k) (evH C nm H b (p ++ [1]) ns ex live st k)
    | _ => none
  | .block id body, p, ns, ex, live, st, k => evH C nm H body (p ++ [0]) ns ((id, live) :: ex) live st (blockKont id k)
  | .loop body, p, ns, ex, live, st, k => normK C (codeU C.R (.loop body) ex live) st (fun st => H p (ns ++ [C.K]) st)
  | .exit id, _, _, _, _, st, k => k (.exit id st)
  | .ret, _, _, _, _, st, k => k (.ret st)
  | _, _, _, _, _, _, _ => none

noncomputable def atH [DecidableEq R] (C : Ctx) (nm : List (List Nat)) (H : List Nat → List Nat → St → Option R) : Code → List Nat → List Nat → List Nat → List Nat → List (Nat × Nat) → Nat → St → (Out → Option R) → Option R
  | .loop body, [], [n + 1], p, ns₀, ex, live, st, k => (fun lb => evH C nm H body (p ++ [0]) (ns₀ ++ [n]) ex lb st (loopKont C lb (fun st => H p (ns₀ ++ [n]) st) k)) (codeU C.R (.loop body) ex live)
  | .loop _, [], [0], _, _, _, _, _, _ => none
  | c, [], [], p, ns₀, ex, live, st, k => evH C nm H c p ns₀ ex live st k
  | .seq a b, 0 :: q, ns, p, ns₀, ex, live, st, k => (fun lb => atH C nm H a q ns (p ++ [0]) ns₀ ex lb st (seqKont C (isRegion a) lb (fun st => cond (namedB nm (p ++ [1])) (H (p ++ [1]) ns₀ st) (evH C nm H b (p ++ [1]) ns₀ ex live st k)) k)) (codeU C.R b ex live)
  | .seq _ b, 1 :: q, ns, p, ns₀, ex, live, st, k => atH C nm H b q ns (p ++ [1]) ns₀ ex live st k
  | .cond _ a _, 0 :: q, ns, p, ns₀, ex, live, st, k => atH C nm H a q ns (p ++ [0]) ns₀ ex live st k
  | .cond _ _ b, 1 :: q, ns, p, ns₀, ex, live, st, k => atH C nm H b q ns (p ++ [1]) ns₀ ex live st k
  | .block id body, 0 :: q, ns, p, ns₀, ex, live, st, k => atH C nm H body q ns (p ++ [0]) ns₀ ((id, live) :: ex) live st (blockKont id k)
  | .loop body, 0 :: q, n :: ns, p, ns₀, ex, live, st, k => (fun lb => atH C nm H body q ns (p ++ [0]) (ns₀ ++ [n]) ex lb st (loopKont C lb (fun st => H p (ns₀ ++ [n]) st) k)) (codeU C.R (.loop body) ex live)
  | _, _, _, _, _, _, _, _, _ => none

def resultOf (P : Program) (st : St) : ResultVar → Option AV1
  | .tmp t => match look st.env t with
    | .one v => some v
    | _ => none
  | .cell a t => match look st.env a with
    | .one (.sc (.ref id off)) => match getAt st.blks id with
      | some (.cells _ cs) => partK P t cs off fun v => match v with
        | .one v => some v
        | _ => none
      | _ => none
    | _ => none

def resultsU : List ResultVar → Nat
  | [] => 0
  | .tmp t :: r => 2 ^ t ||| resultsU r
  | .cell t _ :: r => 2 ^ t ||| resultsU r

end

def slots : List AV1 → Nat → List (Nat × AV)
  | [], _ => []
  | v :: r, i => (i, .one v) :: slots r (i + 1)

def finK (P : Program) (s : Sig) (fn : Func) : Out → Option (PD s.its)
  | .norm st | .ret st => match s.tup != (fn.results.size == 1) with
    | true => match optMap (resultOf P st) fn.results.toList with
      | some vs => projIts s.its vs st.blks
      | none => none
    | false => none
  | .exit .. => none

noncomputable def evFn (P : Program) (sg : FuncId → Sig) : Nat → (f : FuncId) → List AV1 → List Blk → Option (PD (sg f).its)
  | 0, _, _, _ => none
  | K + 1, f, args, σ => match (sg f).ext with
    | some g => g args σ
    | none => match P.funcs[f]? with
      | some fn => match fn.body with
        | some c => evK ⟨P, sg, evFn P sg K, K, σ.length, (sg f).coer, (sg f).excl, (sg f).bcoer, resultsU fn.results.toList, fn.ntmps⟩ c [] (resultsU fn.results.toList) ⟨slots args 0, σ⟩ (finK P (sg f) fn)
        | none => none
      | none => none

noncomputable def atFn (P : Program) (sg : FuncId → Sig) (K : Nat) (f : FuncId) (m : Nat) (path ns : List Nat) (st : St) : Option (PD (sg f).its) := match P.funcs[f]? with
  | some fn => match fn.body with
    | some c => atK ⟨P, sg, evFn P sg K, K, m, (sg f).coer, (sg f).excl, (sg f).bcoer, resultsU fn.results.toList, fn.ntmps⟩ c path ns [] (resultsU fn.results.toList) st (finK P (sg f) fn)
    | none => none
  | none => none

noncomputable def inFn (P : Program) (sg : FuncId → Sig) (K : Nat) (f : FuncId) (m : Nat) (nm : List (List Nat)) (H : List Nat → List Nat → St → Option (PD (sg f).its)) (path ns : List Nat) (st : St) : Option (PD (sg f).its) := match P.funcs[f]? with
  | some fn => match fn.body with
    | some c => atH ⟨P, sg, evFn P sg K, K, m, (sg f).coer, (sg f).excl, (sg f).bcoer, resultsU fn.results.toList, fn.ntmps⟩ nm H c path ns [] [] [] (resultsU fn.results.toList) st (finK P (sg f) fn)
    | none => none
  | none => none

section
variable {R : Type} [DecidableEq R] {C : Ctx} {nm : List (List Nat)} {H : List Nat → List Nat → St → Option R}

theorem evH_eq : ∀ (c : Code) (p ns : List Nat) (ex : List (Nat × Nat)) (live : Nat) (st : St) (k : Out → Option R), (∀ q ms st, H (p ++ q) (ns ++ ms) st = atK C c q ms ex live st k) → evH C nm H c p ns ex live st k = evK C c ex live st k := by
  intro c
  induction c with
  | seq a b iha ihb =>
    intro p ns ex live st k h
    simp only [evH, evK]
    have h1 : ∀ st, H (p ++ [1]) ns st = evK C b ex live st k := fun st => by
      have := h [1] [] st
      rw [List.append_nil] at this
      rw [this]
      cases b <;> rfl
    have hb : ∀ st, evH C nm H b (p ++ [1]) ns ex live st k = evK C b ex live st k := fun st => ihb _ _ _ _ _ _ (fun q ms st => by
      rw [List.append_assoc]
      exact (h (1 :: q) ms st).trans rfl)
    have hn : (fun st => cond (namedB nm (p ++ [1])) (H (p ++ [1]) ns st) (evH C nm H b (p ++ [1]) ns ex live st k)) = go fun st => evK C b ex live st k := by
      funext st
      rw [h1, hb]
      cases namedB nm (p ++ [1]) <;> rfl
    rw [hn]
    exact iha _ _ _ _ _ _ (fun q ms st => by
      rw [List.append_assoc]
      exact (h (0 :: q) ms st).trans rfl)
  | cond c a b iha ihb =>
    intro p ns ex live st k h
    simp only [evH, evK]
    rw [iha (p ++ [0]) ns ex live st k (fun q ms st => by rw [List.append_assoc]; exact (h (0 :: q) ms st).trans rfl), ihb (p ++ [1]) ns ex live st k (fun q ms st => by rw [List.append_assoc]; exact (h (1 :: q) ms st).trans rfl)]
  | block id body ih =>
    intro p ns ex live st k h
    simp only [evH, evK]
    exact ih _ _ _ _ _ _ (fun q ms st => by rw [List.append_assoc]; exact (h (0 :: q) ms st).trans rfl)
  | loop body ih =>
    intro p ns ex live st k h
    simp only [evH, evK]
    congr 1
    funext st
    have := h [] [C.K] st
    rw [List.append_nil] at this
    rw [this]
    rfl
  | _ => intros; rfl

theorem loop_named {body : Code} {p ns : List Nat} {ex : List (Nat × Nat)} {live : Nat} {k : Out → Option R} (h : ∀ q ms st, H (p ++ q) (ns ++ ms) st = atK C (.loop body) q ms ex live st k) (n : Nat) : (fun st => H p (ns ++ [n]) st) = go fun st => loopN C (codeU C.R (.loop body) ex live) (fun st k => evK C body ex (codeU C.R (.loop body) ex live) st k) n st k := by
  funext st
  have := h [] [n] st
  rw [List.append_nil] at this
  rw [this]
  rfl

theorem atH_eq : ∀ (c : Code) (q ms p ns : List Nat) (ex : List (Nat × Nat)) (live : Nat) (st : St) (k : Out → Option R), (∀ q ms st, H (p ++ q) (ns ++ ms) st = atK C c q ms ex live st k) → atK C c q ms ex live st k = atH C nm H c q ms p ns ex live st k := by
  intro c
  induction c with
  | seq a b iha ihb =>
    intro q ms p ns ex live st k h
    match q, ms with
    | [], [] => exact (evH_eq _ _ _ _ _ _ _ h).symm
    | [], _ :: _ => rfl
    | 0 :: q, ms =>
      have h1 : ∀ st, H (p ++ [1]) ns st = evK C b ex live st k := fun st => by
        have := h [1] [] st
        rw [List.append_nil] at this
        rw [this]
        cases b <;> rfl
      have hb : ∀ st, evH C nm H b (p ++ [1]) ns ex live st k = evK C b ex live st k := fun st => evH_eq _ _ _ _ _ _ _ (fun q ms st => by
        rw [List.append_assoc]
        exact (h (1 :: q) ms st).trans rfl)
      have hn : (fun st => cond (namedB nm (p ++ [1])) (H (p ++ [1]) ns st) (evH C nm H b (p ++ [1]) ns ex live st k)) = go fun st => evK C b ex live st k := by
        funext st
        rw [h1, hb]
        cases namedB nm (p ++ [1]) <;> rfl
      show atK C a q ms ex _ st _ = atH C nm H a q ms (p ++ [0]) ns ex _ st _
      rw [hn]
      exact iha _ _ _ _ _ _ _ _ (fun q ms st => by rw [List.append_assoc]; exact (h (0 :: q) ms st).trans rfl)
    | 1 :: q, ms => exact ihb _ _ _ _ _ _ _ _ (fun q ms st => by rw [List.append_assoc]; exact (h (1 :: q) ms st).trans rfl)
    | (n + 2) :: q, ms => rfl
  | cond c a b iha ihb =>
    intro q ms p ns ex live st k h
    match q, ms with
    | [], [] => exact (evH_eq _ _ _ _ _ _ _ h).symm
    | [], _ :: _ => rfl
    | 0 :: q, ms => exact iha _ _ _ _ _ _ _ _ (fun q ms st => by rw [List.append_assoc]; exact (h (0 :: q) ms st).trans rfl)
    | 1 :: q, ms => exact ihb _ _ _ _ _ _ _ _ (fun q ms st => by rw [List.append_assoc]; exact (h (1 :: q) ms st).trans rfl)
    | (n + 2) :: q, ms => rfl
  | block id body ih =>
    intro q ms p ns ex live st k h
    match q, ms with
    | [], [] => exact (evH_eq _ _ _ _ _ _ _ h).symm
    | [], _ :: _ => rfl
    | 0 :: q, ms => exact ih _ _ _ _ _ _ _ _ (fun q ms st => by rw [List.append_assoc]; exact (h (0 :: q) ms st).trans rfl)
    | (n + 1) :: q, ms => rfl
  | loop body ih =>
    intro q ms p ns ex live st k h
    match q, ms with
    | [], [] => exact (evH_eq _ _ _ _ _ _ _ h).symm
    | [], [0] => rfl
    | [], [n + 1] =>
      show evK C body ex _ st (loopKont C _ (go fun st => loopN C _ _ n st k) k) = evH C nm H body (p ++ [0]) (ns ++ [n]) ex _ st (loopKont C _ (fun st => H p (ns ++ [n]) st) k)
      rw [loop_named h n]
      exact (evH_eq _ _ _ _ _ _ _ (fun q ms st => by rw [List.append_assoc, List.append_assoc]; exact (h (0 :: q) (n :: ms) st).trans rfl)).symm
    | [], n :: _ :: _ => cases n <;> rfl
    | 0 :: q, [] => rfl
    | 0 :: q, n :: ms =>
      show atK C body q ms ex _ st (loopKont C _ (go fun st => loopN C _ _ n st k) k) = atH C nm H body q ms (p ++ [0]) (ns ++ [n]) ex _ st (loopKont C _ (fun st => H p (ns ++ [n]) st) k)
      rw [loop_named h n]
      exact ih _ _ _ _ _ _ _ _ (fun q ms st => by rw [List.append_assoc, List.append_assoc]; exact (h (0 :: q) (n :: ms) st).trans rfl)
    | (m + 1) :: q, ms => rfl
  | _ =>
    intro q ms p ns ex live st k h
    match q, ms with
    | [], [] => exact (evH_eq _ _ _ _ _ _ _ h).symm
    | [], _ :: _ => rfl
    | _ :: _, _ => rfl
end

/-- From a place inside on: what is behind other named places stands as a hole. -/
theorem atFn_eq {P : Program} {sg : FuncId → Sig} {K : Nat} {f : FuncId} {m : Nat} (nm : List (List Nat)) (path ns : List Nat) (st : St) : atFn P sg K f m path ns st = inFn P sg K f m nm (fun p ns st => atFn P sg K f m p ns st) path ns st := by
  cases hf : P.funcs[f]? with
  | none => simp only [atFn, inFn, hf]
  | some fn => cases hb : fn.body with
    | none => simp only [atFn, inFn, hf, hb]
    | some c =>
      have e : ∀ p ns st, atFn P sg K f m p ns st = atK ⟨P, sg, evFn P sg K, K, m, (sg f).coer, (sg f).excl, (sg f).bcoer, resultsU fn.results.toList, fn.ntmps⟩ c p ns [] (resultsU fn.results.toList) st (finK P (sg f) fn) := fun _ _ _ => by simp only [atFn, hf, hb]
      rw [e]
      simp only [inFn, hf, hb]
      exact atH_eq _ _ _ _ _ _ _ _ _ (fun q ms st => e _ _ _)

/-- The same of a whole function. -/
theorem evFn_eq {P : Program} {sg : FuncId → Sig} {K : Nat} {f : FuncId} {args : List AV1} {σ : List Blk} (nm : List (List Nat)) (he : (sg f).ext = none) : evFn P sg (K + 1) f args σ = inFn P sg K f σ.length nm (fun p ns st => atFn P sg K f σ.length p ns st) [] [] ⟨slots args 0, σ⟩ := by
  rw [← atFn_eq]
  simp only [evFn]
  rw [he]
  unfold atFn
  dsimp only
  split
  · split
    · rename_i c _
      cases c <;> rfl
    · rfl
  · rfl

def sigOf : List (Nat × Sig) → Nat → Sig
  | [], _ => {}
  | (i, s) :: r, j => match i == j with | true => s | false => sigOf r j

abbrev w64 (n : Int) : Int := IntKind.wrap .i64 n
abbrev rd (e : Sh) (l : List (den e)) (i : Nat) : den e := l.getD i (dflt e)
abbrev vI (n : Int) : AV := .one (.sc (.val (.int .i64 n)))
abbrev vB (b : Bool) : AV := .one (.sc (.val (.bool b)))
abbrev vS (s : ByteArray) : AV := .one (.sc (.val (.string s)))
abbrev vL (e : Sh) (l : List (den e)) : AV := .one (.sc (.list e l false))

end Go.Proofs.Ytmenplonaapliaa.AE
end
section
set_option linter.unusedVariables false
set_option linter.unusedSimpArgs false
namespace Go.Proofs.Ytmenplonaapliaa.AE
open Go Go.RowKit

theorem getAt_eq {α : Type} : ∀ (l : List α) (i : Nat), getAt l i = l[i]?
  | [], _ => by simp [getAt]
  | x :: r, 0 => by simp [getAt]
  | x :: r, i + 1 => by simp [getAt, getAt_eq r i]

theorem setAt_eq {α : Type} : ∀ (l : List α) (i : Nat) (x : α), setAt l i x = l.set i x
  | [], _, _ => by simp [setAt]
  | _ :: r, 0, x => by simp [setAt]
  | _ :: r, i + 1, x => by simp [setAt, setAt_eq r i]

/-- Which rows may not be leaned upon: they are somebody's own. -/
abbrev Own := Nat → Prop

def CellsAt (O : Own) (w : World) : (e : Sh) → den e → Array Value → Nat → Prop
  | .int k, n, vs, off => vs[off]? = some (.int k n)
  | .bool, b, vs, off => vs[off]? = some (.bool b)
  | .str, s, vs, off => vs[off]? = some (.string s)
  | .prod a b, x, vs, off => CellsAt O w a x.1 vs off ∧ CellsAt O w b x.2 vs (off + a.size)
  | .list e, l, vs, off => ∃ A cap, vs[off]? = some (.slice A l.length cap) ∧ l.length ≤ cap ∧
      (l = [] ∨ ∃ b o us T fr, A = some ⟨b, o, none⟩ ∧ ¬ O b ∧ w.heap[b]? = some (.cells us T fr) ∧ ∀ i x, l[i]? = some x → CellsAt O w e x us (o + i * e.size))

/-- A slice that reads as a list and is nobody's own. -/
def SliceR (O : Own) (w : World) (e : Sh) (l : List (den e)) (A : Option Addr) (cap : Nat) : Prop :=
  l.length ≤ cap ∧ (l = [] ∨ ∃ b o us T fr, A = some ⟨b, o, none⟩ ∧ ¬ O b ∧ w.heap[b]? = some (.cells us T fr) ∧ ∀ i x, l[i]? = some x → CellsAt O w e x us (o + i * e.size))

inductive RB where
  | c (b : Nat)
  | s (b : Option Nat) (len cap sz : Nat)

def OwnA (b : Option Nat) (A : Option Addr) : Prop := ∀ x, b = some x → A = some ⟨x, 0, none⟩

inductive ScR (O : Own) (w : World) (ρ : List RB) : Sc → Value → Prop where
  | val (v : Value) : ScR O w ρ (.val v) v
  | any (v : Value) : ScR O w ρ .any v
  | nilI : ScR O w ρ (.ifc true) .nilIface
  | ifc (t : TypeId) (p : Value) : ScR O w ρ (.ifc false) (.iface t p)
  | list {e : Sh} {l : List (den e)} {full : Bool} {A : Option Addr} {cap : Nat} (h : SliceR O w e l A cap) (hf : full = true → cap = l.length) : ScR O w ρ (.list e l full) (.slice A l.length cap)
  | ref {id off b : Nat} (h : ρ[id]? = some (.c b)) : ScR O w ρ (.ref id off) (.pointer (some ⟨b, off, none⟩))
  | own {id len cap sz : Nat} {b : Option Nat} {A : Option Addr} (h : ρ[id]? = some (.s b len cap sz)) (hA : OwnA b A) : ScR O w ρ (.own id none) (.slice A len cap)
  | view {id len cap sz lo hi c : Nat} {b : Option Nat} {A : Option Addr} (h : ρ[id]? = some (.s b len cap sz)) (h1 : lo ≤ hi) (h2 : hi ≤ len)
      (hA : ∀ x, b = some x → lo = 0 ∨ lo < hi → A = some ⟨x, lo * sz, none⟩) (hc : len - lo ≤ c ∧ c + lo ≤ cap) : ScR O w ρ (.own id (some (lo, hi))) (.slice A (hi - lo) c)
  | eref {id i off b len cap sz : Nat} (h : ρ[id]? = some (.s (some b) len cap sz)) (hi : i < len) : ScR O w ρ (.eref id i off) (.pointer (some ⟨b, i * sz + off, none⟩))
  | rref {e : Sh} {l : List (den e)} {i off b o : Nat} {us : Array Value} {T : TypeId} {fr : Nat × Nat} (h1 : ¬ O b) (h2 : w.heap[b]? = some (.cells us T fr))
      (h3 : CellsAt O w e (l.getD i (dflt e)) us o) : ScR O w ρ (.rref e l i off) (.pointer (some ⟨b, o + off, none⟩))
  | fn {f : FuncId} {caps : List Sc} {vs : List Value} (hl : caps.length = vs.length) (h : ∀ (i : Nat) c v, caps[i]? = some c → vs[i]? = some v → ScR O w ρ c v) : ScR O w ρ (.fn f caps) (.func (.func f) #[] vs.toArray)
  | bnd {f : FuncId} {caps : List Sc} {vs : List Value} (hl : caps.length = vs.length) (h : ∀ (i : Nat) c v, caps[i]? = some c → vs[i]? = some v → ScR O w ρ c v) : ScR O w ρ (.bnd f caps) (.func (.func f) vs.toArray #[])
  | mref {id b : Nat} (h : ρ[id]? = some (.c b)) : ScR O w ρ (.mref id) (.map (some b))

/-- A datum of one cell as a value. -/
def val1 : (s : Sh) → den s → Value
  | .int k, n => .int k n
  | .bool, b => .bool b
  | .str, s => .string s
  | _, _ => .tuple #[]

/-- Cells, one for one. -/
def ScsR (O : Own) (w : World) (ρ : List RB) (cs : List Sc) (vs : List Value) : Prop :=
  cs.length = vs.length ∧ ∀ (i : Nat) c v, cs[i]? = some c → vs[i]? = some v → ScR O w ρ c v

inductive AV1R (O : Own) (w : World) (ρ : List RB) : AV1 → Value → Prop where
  | sc {c : Sc} {v : Value} (h : ScR O w ρ c v) : AV1R O w ρ (.sc c) v
  | agg {cs : List Sc} {vs : Array Value} (h : ScsR O w ρ cs vs.toList) : AV1R O w ρ (.agg cs) (.agg vs)

def AV1sR (O : Own) (w : World) (ρ : List RB) (cs : List AV1) (vs : List Value) : Prop :=
  cs.length = vs.length ∧ ∀ (i : Nat) c v, cs[i]? = some c → vs[i]? = some v → AV1R O w ρ c v

inductive AVR (O : Own) (w : World) (ρ : List RB) : AV → Value → Prop where
  | one {x : AV1} {v : Value} (h : AV1R O w ρ x v) : AVR O w ρ (.one x) v
  | tup {xs : List AV1} {vs : Array Value} (h : AV1sR O w ρ xs vs.toList) : AVR O w ρ (.tup xs) (.tuple vs)

def unfrozen (fr : Nat × Nat) (n : Nat) : Prop := ∀ i, i < n → (fr.1 ≤ i && i < fr.2) = false
/-- .. and, but for bytes, none is marked behind them. -/
def loose (e : Sh) (fr : Nat × Nat) (n : Nat) : Prop := unfrozen fr n ∧ (e ≠ .int .u8 → (fr.1 ≤ n && n < fr.2) = false)
theorem loose_none (e : Sh) (n : Nat) : loose e (0, 0) n := ⟨fun i _ => by simp, fun _ => by simp⟩

def RowR (O : Own) (w : World) (b : Option Nat) (cap : Nat) (e : Sh) (l : List (den e)) (own : Bool) : Prop :=
  match b with
  | none => cap = 0
  | some b => (own = false → ¬ O b) ∧ ∃ vs T fr, w.heap[b]? = some (.cells vs T fr) ∧ cap * e.size ≤ vs.size ∧ (own = true → loose e fr vs.size) ∧ ∀ i x, l[i]? = some x → CellsAt O w e x vs (i * e.size)

inductive BlkR (O : Own) (w : World) (ρ : List RB) : RB → Blk → Prop where
  | cells {b : Nat} {T T' : TypeId} {cs : List Sc} {vs : Array Value} {fr : Nat × Nat} (h : w.heap[b]? = some (.cells vs T' fr)) (hu : unfrozen fr vs.size) (hc : ScsR O w ρ cs vs.toList) : BlkR O w ρ (.c b) (.cells T cs)
  | elems {b : Option Nat} {len cap : Nat} {e : Sh} {l : List (den e)} (hl : len = l.length) (hc : len ≤ cap) (h : RowR O w b cap e l true) : BlkR O w ρ (.s b len cap e.size) (.elems e l)
  | froz {b : Option Nat} {len cap : Nat} {e : Sh} {l : List (den e)} (hl : len = l.length) (hc : len ≤ cap) (h : RowR O w b cap e l false) : BlkR O w ρ (.s b len cap e.size) (.froz e l)
  | mp {b : Nat} {k v : Sh} {es : List (den k × den v)} {ms : Array MapEntry} {clock : Nat} (h : w.heap[b]? = some (.map ms clock)) (he : ms.toList.map (fun e => (e.key, e.val)) = es.map fun x => (val1 k x.1, val1 v x.2)) : BlkR O w ρ (.c b) (.mp k v es)
  | dead (r : RB) : BlkR O w ρ r .dead

/-- The rows of one's own, live ones. -/
inductive Live : RB → Blk → Nat → Prop where
  | cells {b : Nat} {T : TypeId} {cs : List Sc} : Live (.c b) (.cells T cs) b
  | elems {b len cap sz : Nat} {e : Sh} {l : List (den e)} : Live (.s (some b) len cap sz) (.elems e l) b
  | mp {b : Nat} {k v : Sh} {es : List (den k × den v)} : Live (.c b) (.mp k v es) b

def owns (ρ : List RB) (σ : List Blk) (b : Nat) : Prop := ∃ (id : Nat) (r : RB) (k : Blk), ρ[id]? = some r ∧ σ[id]? = some k ∧ Live r k b

/-! ### They go on saying it -/

/-- From (O, w) to (O', w'): nothing that may be leaned upon has turned. -/
structure Turn (O : Own) (w : World) (O' : Own) (w' : World) : Prop where
  own : ∀ b, b < w.heap.size → O' b → O b
  size : w.heap.size ≤ w'.heap.size
  block : ∀ b, b < w.heap.size → ¬ O b → w'.heap[b]? = w.heap[b]?

theorem lt_of_get {α : Type} {a : Array α} {i : Nat} {x : α} (h : a[i]? = some x) : i < a.size := by
  rcases Nat.lt_or_ge i a.size with h' | h'
  · exact h'
  · rw [Array.getElem?_eq_none h'] at h; cases h

theorem CellsAt.turn {O O' : Own} {w w' : World} (t : Turn O w O' w') : ∀ {e : Sh} {x : den e} {vs : Array Value} {off : Nat}, CellsAt O w e x vs off → CellsAt O' w' e x vs off
  | .int _, _, _, _, h => h
  | .bool, _, _, _, h => h
  | .str, _, _, _, h => h
  | .prod _ _, _, _, _, h => ⟨CellsAt.turn t h.1, CellsAt.turn t h.2⟩
  | .list e, l, vs, off, h => by
    obtain ⟨A, cap, h1, h2, h3⟩ := h
    refine ⟨A, cap, h1, h2, ?_⟩
    rcases h3 with h3 | ⟨b, o, us, T, fr, ha, hb, hh, hx⟩
    · exact .inl h3
    · have hlt := lt_of_get hh
      exact .inr ⟨b, o, us, T, fr, ha, fun hO => hb (t.own b hlt hO), (t.block b hlt hb).trans hh, fun i x hi => CellsAt.turn t (hx i x hi)⟩

theorem SliceR.turn {O O' : Own} {w w' : World} (t : Turn O w O' w') {e : Sh} {l : List (den e)} {A : Option Addr} {cap : Nat} (h : SliceR O w e l A cap) : SliceR O' w' e l A cap := by
  refine ⟨h.1, ?_⟩
  rcases h.2 with h3 | ⟨b, o, us, T, fr, ha, hb, hh, hx⟩
  · exact .inl h3
  · have hlt := lt_of_get hh
    exact .inr ⟨b, o, us, T, fr, ha, fun hO => hb (t.own b hlt hO), (t.block b hlt hb).trans hh, fun i x hi => CellsAt.turn t (hx i x hi)⟩

def Ext (ρ ρ' : List RB) : Prop := ∀ (id : Nat) r, ρ[id]? = some r → ρ'[id]? = some r

theorem Ext.refl (ρ : List RB) : Ext ρ ρ := fun _ _ h => h
theorem Ext.app (ρ : List RB) (l : List RB) : Ext ρ (ρ ++ l) := fun id r h => by
  rw [List.getElem?_append_left]
  · exact h
  · rcases Nat.lt_or_ge id ρ.length with h' | h'
    · exact h'
    · rw [List.getElem?_eq_none h'] at h; cases h
theorem Ext.trans {a b c : List RB} (h : Ext a b) (k : Ext b c) : Ext a c := fun id r x => k id r (h id r x)

theorem ScR.turn {O O' : Own} {w w' : World} {ρ ρ' : List RB} (t : Turn O w O' w') (x : Ext ρ ρ') {c : Sc} {v : Value} (h : ScR O w ρ c v) : ScR O' w' ρ' c v := by
  induction h with
  | val v => exact .val v
  | any v => exact .any v
  | nilI => exact .nilI
  | ifc t p => exact .ifc t p
  | list h hf => exact .list (h.turn t) hf
  | ref h => exact .ref (x _ _ h)
  | own h hA => exact .own (x _ _ h) hA
  | view h h1 h2 hA hc => exact .view (x _ _ h) h1 h2 hA hc
  | eref h hi => exact .eref (x _ _ h) hi
  | rref h1 h2 h3 => exact .rref (fun hO => h1 (t.own _ (lt_of_get h2) hO)) ((t.block _ (lt_of_get h2) h1).trans h2) (h3.turn t)
  | fn hl h ih => exact .fn hl ih
  | bnd hl h ih => exact .bnd hl ih
  | mref h => exact .mref (x _ _ h)

theorem ScsR.turn {O O' : Own} {w w' : World} {ρ ρ' : List RB} (t : Turn O w O' w') (x : Ext ρ ρ') {cs : List Sc} {vs : List Value} (h : ScsR O w ρ cs vs) : ScsR O' w' ρ' cs vs :=
  ⟨h.1, fun i c v hc hv => (h.2 i c v hc hv).turn t x⟩

theorem AV1R.turn {O O' : Own} {w w' : World} {ρ ρ' : List RB} (t : Turn O w O' w') (x : Ext ρ ρ') {c : AV1} {v : Value} (h : AV1R O w ρ c v) : AV1R O' w' ρ' c v := by
  cases h with
  | sc h => exact .sc (h.turn t x)
  | agg h => exact .agg (h.turn t x)

theorem AVR.turn {O O' : Own} {w w' : World} {ρ ρ' : List RB} (t : Turn O w O' w') (x : Ext ρ ρ') {c : AV} {v : Value} (h : AVR O w ρ c v) : AVR O' w' ρ' c v := by
  cases h with
  | one h => exact .one (h.turn t x)
  | tup h => exact .tup ⟨h.1, fun i c v hc hv => (h.2 i c v hc hv).turn t x⟩

/-- A row that is left as it is. -/
theorem BlkR.turn {O O' : Own} {w w' : World} {ρ ρ' : List RB} (t : Turn O w O' w') (x : Ext ρ ρ') {r : RB} {k : Blk} (hs : ∀ b, Live r k b → w'.heap[b]? = w.heap[b]?) (h : BlkR O w ρ r k) : BlkR O' w' ρ' r k := by
  cases h with
  | cells h hu hc => exact .cells ((hs _ .cells).trans h) hu (hc.turn t x)
  | dead r => exact .dead r
  | mp h he => exact .mp ((hs _ .mp).trans h) he
  | @elems b len cap e l hl hc h =>
    refine .elems hl hc ?_
    cases b with
    | none => exact h
    | some b =>
      obtain ⟨h0, vs, T, fr, h1, h2, h3, h4⟩ := h
      exact ⟨fun e => by simp at e, vs, T, fr, (hs _ .elems).trans h1, h2, h3, fun i x hi => (h4 i x hi).turn t⟩
  | @froz b len cap e l hl hc h =>
    refine .froz hl hc ?_
    cases b with
    | none => exact h
    | some b =>
      obtain ⟨h0, vs, T, fr, h1, h2, h3, h4⟩ := h
      have hb := h0 rfl
      exact ⟨fun _ hO => hb (t.own _ (lt_of_get h1) hO), vs, T, fr, (t.block _ (lt_of_get h1) hb).trans h1, h2, h3, fun i x hi => (h4 i x hi).turn t⟩

theorem Turn.refl (O : Own) (w : World) : Turn O w O w := ⟨fun _ _ h => h, Nat.le_refl _, fun _ _ _ => rfl⟩

theorem Turn.less {O O' : Own} (w : World) (h : ∀ b, O' b → O b) : Turn O w O' w := ⟨fun b _ hb => h b hb, Nat.le_refl _, fun _ _ _ => rfl⟩

theorem Turn.trans {O₁ O₂ O₃ : Own} {w₁ w₂ w₃ : World} (a : Turn O₁ w₁ O₂ w₂) (b : Turn O₂ w₂ O₃ w₃) : Turn O₁ w₁ O₃ w₃ :=
  ⟨fun x hx h => a.own x hx (b.own x (Nat.lt_of_lt_of_le hx a.size) h), Nat.le_trans a.size b.size,
   fun x hx h => (b.block x (Nat.lt_of_lt_of_le hx a.size) (fun h' => h (a.own x hx h'))).trans (a.block x hx h)⟩

/-! ### Rows and variables of one's own -/

/-- What is others' own, in a run that began with the world W₀: of that one nothing is anybody's own. -/
def XO (W₀ : World) : Type := Nat → Prop
variable {W₀ : World}

abbrev OX (X : XO W₀) (ρ : List RB) (σ : List Blk) : Own := fun b => owns ρ σ b ∨ X b

structure Mem (X : XO W₀) (w : World) (ρ : List RB) (σ : List Blk) : Prop where
  len : ρ.length = σ.length
  blk : ∀ (id : Nat) r k, ρ[id]? = some r → σ[id]? = some k → BlkR (OX X ρ σ) w ρ r k
  inj : ∀ (i j : Nat) r k r' k' b, ρ[i]? = some r → σ[i]? = some k → Live r k b → ρ[j]? = some r' → σ[j]? = some k' → Live r' k' b → i = j
  dis : ∀ b, owns ρ σ b → ¬ X b
  xlow : ∀ b, X b → b < w.heap.size
  top : Turn (fun _ => False) W₀ (OX X ρ σ) w

theorem BlkR.live {O : Own} {w : World} {ρ : List RB} {r : RB} {k : Blk} {b : Nat} (h : BlkR O w ρ r k) (hl : Live r k b) : b < w.heap.size := by
  cases hl with
  | cells => cases h with | cells h => exact lt_of_get h
  | elems => cases h with | elems hl hc h => obtain ⟨_, vs, T, fr, h1, _⟩ := h; exact lt_of_get h1
  | mp => cases h with | mp h => exact lt_of_get h

theorem Mem.low {X : XO W₀} {w : World} {ρ : List RB} {σ : List Blk} (m : Mem X w ρ σ) {b : Nat} (h : owns ρ σ b) : b < w.heap.size := by
  obtain ⟨id, r, k, hr, hk, hl⟩ := h
  exact (m.blk id r k hr hk).live hl

/-- A change of one block's word that makes nothing more one's own, the world as it is. -/
theorem Mem.put {X : XO W₀} {w : World} {ρ : List RB} {σ : List Blk} (m : Mem X w ρ σ) {id : Nat} {r : RB} {k k' : Blk} (hr : ρ[id]? = some r) (hk : σ[id]? = some k)
    (hlive : ∀ b, Live r k' b → Live r k b) (hb : BlkR (OX X ρ (σ.set id k')) w ρ r k') : Mem X w ρ (σ.set id k') ∧ Turn (OX X ρ σ) w (OX X ρ (σ.set id k')) w := by
  have hlt : id < σ.length := by
    rcases Nat.lt_or_ge id σ.length with h' | h'
    · exact h'
    · rw [List.getElem?_eq_none h'] at hk; cases hk
  have hown : ∀ b, owns ρ (σ.set id k') b → owns ρ σ b := by
    rintro b ⟨j, r', k₁, h1, h2, h3⟩
    by_cases e : id = j
    · subst e
      rw [List.getElem?_set_self hlt] at h2
      cases h2
      rw [hr] at h1; cases h1
      exact ⟨id, r, k, hr, hk, hlive b h3⟩
    · rw [List.getElem?_set_ne e] at h2
      exact ⟨j, r', k₁, h1, h2, h3⟩
  have t : Turn (OX X ρ σ) w (OX X ρ (σ.set id k')) w := .less w fun b h => h.imp (hown b) (fun x => x)
  refine ⟨⟨by simp [m.len], ?_, ?_, fun b hb => m.dis b (hown b hb), m.xlow, m.top.trans t⟩, t⟩
  · intro j r' k₁ h1 h2
    by_cases e : id = j
    · subst e
      rw [List.getElem?_set_self hlt] at h2
      cases h2
      rw [hr] at h1; cases h1
      exact hb
    · rw [List.getElem?_set_ne e] at h2
      exact (m.blk j r' k₁ h1 h2).turn t (Ext.refl _) (fun _ _ => rfl)
  · intro i j r₁ k₁ r₂ k₂ b h1 h2 h3 h4 h5 h6
    have a1 : ∃ k₃, σ[i]? = some k₃ ∧ Live r₁ k₃ b := by
      by_cases e : id = i
      · subst e
        rw [List.getElem?_set_self hlt] at h2; cases h2
        rw [hr] at h1; cases h1
        exact ⟨k, hk, hlive b h3⟩
      · rw [List.getElem?_set_ne e] at h2; exact ⟨k₁, h2, h3⟩
    have a2 : ∃ k₃, σ[j]? = some k₃ ∧ Live r₂ k₃ b := by
      by_cases e : id = j
      · subst e
        rw [List.getElem?_set_self hlt] at h5; cases h5
        rw [hr] at h4; cases h4
        exact ⟨k, hk, hlive b h6⟩
      · rw [List.getElem?_set_ne e] at h5; exact ⟨k₂, h5, h6⟩
    obtain ⟨k₃, a3, a4⟩ := a1
    obtain ⟨k₄, a5, a6⟩ := a2
    exact m.inj i j r₁ k₃ r₂ k₄ b h1 a3 a4 h4 a5 a6

theorem get_lt {α : Type} {l : List α} {i : Nat} {x : α} (h : l[i]? = some x) : i < l.length := by
  rcases Nat.lt_or_ge i l.length with h' | h'
  · exact h'
  · rw [List.getElem?_eq_none h'] at h; cases h

theorem Mem.rho {X : XO W₀} {w : World} {ρ : List RB} {σ : List Blk} (m : Mem X w ρ σ) {id : Nat} {k : Blk} (hk : σ[id]? = some k) : ∃ r, ρ[id]? = some r :=
  ⟨ρ[id]'(m.len ▸ get_lt hk), List.getElem?_eq_getElem _⟩

/-- A row is settled: it is nobody's own any more. -/
theorem Mem.settle {X : XO W₀} {w : World} {ρ : List RB} {σ : List Blk} (m : Mem X w ρ σ) {id : Nat} {e : Sh} {l : List (den e)} (hk : σ[id]? = some (.elems e l)) :
    Mem X w ρ (σ.set id (.froz e l)) ∧ Turn (OX X ρ σ) w (OX X ρ (σ.set id (.froz e l))) w := by
  obtain ⟨r, hr⟩ := m.rho hk
  have hb := m.blk id r _ hr hk
  refine m.put hr hk (by intro b h; cases h) ?_
  have hlt := get_lt hk
  have hown : ∀ b, owns ρ (σ.set id (.froz e l)) b → owns ρ σ b ∧ ∀ r' , ρ[id]? = some r' → ¬ Live r' (.elems e l) b := by
    rintro b ⟨j, r', k₁, h1, h2, h3⟩
    by_cases ee : id = j
    · subst ee
      rw [List.getElem?_set_self hlt] at h2
      cases h2; cases h3
    · rw [List.getElem?_set_ne ee] at h2
      exact ⟨⟨j, r', k₁, h1, h2, h3⟩, fun r₁ hr₁ hl => ee (m.inj id j r₁ _ r' k₁ b hr₁ hk hl h1 h2 h3)⟩
  have t : Turn (OX X ρ σ) w (OX X ρ (σ.set id (.froz e l))) w := .less w fun b h => h.imp (fun x => (hown b x).1) (fun x => x)
  cases hb with
  | @elems b len cap e l hl hc h =>
    refine .froz hl hc ?_
    cases b with
    | none => exact h
    | some b =>
      obtain ⟨h0, vs, T, fr, h1, h2, h3, h4⟩ := h
      refine ⟨fun _ hO => ?_, vs, T, fr, h1, h2, fun e => by simp at e, fun i x hi => (h4 i x hi).turn t⟩
      rcases hO with hO | hO
      · exact (hown b hO).2 _ hr .elems
      · exact m.dis b ⟨id, _, _, hr, hk, .elems⟩ hO

/-! ### Plain data, to cells and back -/

theorem inj_len : ∀ (e : Sh) (x : den e), (inj e x).length = e.size
  | .int _, _ => rfl
  | .bool, _ => rfl
  | .str, _ => rfl
  | .list _, _ => rfl
  | .prod a b, x => by simp [inj, Sh.size, inj_len a x.1, inj_len b x.2]

theorem Sh.size_pos : ∀ e : Sh, 0 < e.size
  | .int _ => Nat.one_pos
  | .bool => Nat.one_pos
  | .str => Nat.one_pos
  | .list _ => Nat.one_pos
  | .prod a b => by have := Sh.size_pos a; simp [Sh.size]; omega

/-- Cells that read as a datum: each of them reads as its part. -/
theorem inj_ok {O : Own} {w : World} {ρ : List RB} : ∀ {e : Sh} {x : den e} {vs : Array Value} {off : Nat}, CellsAt O w e x vs off → ∀ (i : Nat) c, (inj e x)[i]? = some c → ∃ v, vs[off + i]? = some v ∧ ScR O w ρ c v
  | .int k, n, vs, off, h, i, c, hc => by
    cases i with
    | zero => simp [inj] at hc; subst hc; exact ⟨_, h, .val _⟩
    | succ i => simp [inj] at hc
  | .bool, n, vs, off, h, i, c, hc => by
    cases i with
    | zero => simp [inj] at hc; subst hc; exact ⟨_, h, .val _⟩
    | succ i => simp [inj] at hc
  | .str, n, vs, off, h, i, c, hc => by
    cases i with
    | zero => simp [inj] at hc; subst hc; exact ⟨_, h, .val _⟩
    | succ i => simp [inj] at hc
  | .list e, l, vs, off, h, i, c, hc => by
    obtain ⟨A, cap, h1, h2, h3⟩ := h
    cases i with
    | zero => simp [inj] at hc; subst hc; exact ⟨_, h1, .list ⟨h2, h3⟩ (by simp)⟩
    | succ i => simp [inj] at hc
  | .prod a b, x, vs, off, h, i, c, hc => by
    simp only [inj] at hc
    rcases Nat.lt_or_ge i a.size with hi | hi
    · rw [List.getElem?_append_left (by rw [inj_len]; exact hi)] at hc
      exact inj_ok h.1 i c hc
    · rw [List.getElem?_append_right (by rw [inj_len]; exact hi), inj_len] at hc
      obtain ⟨v, h1, h2⟩ := inj_ok h.2 (i - a.size) c hc
      exact ⟨v, by rw [show off + i = off + a.size + (i - a.size) by omega]; exact h1, h2⟩

end Go.Proofs.Ytmenplonaapliaa.AE
end
section
set_option linter.unusedVariables false
set_option linter.unusedSimpArgs false
namespace Go.Proofs.Ytmenplonaapliaa.AE
open Go Go.RowKit
variable {W₀ : World}

theorem mul_add' (a b c : Nat) : (a + b) * c = a * c + b * c := Nat.add_mul a b c

/-- A settled row, or a piece of it, is a slice to lean upon. -/
theorem row_slice {O : Own} {w : World} {b : Option Nat} {len cap : Nat} {e : Sh} {l : List (den e)} (hl : len = l.length) (hc : len ≤ cap) (h : RowR O w b cap e l false) {A : Option Addr} (hA : OwnA b A) : SliceR O w e l A cap := by
  refine ⟨hl ▸ hc, ?_⟩
  cases b with
  | none =>
    have : l.length = 0 := by simp [RowR] at h; omega
    exact .inl (List.length_eq_zero_iff.1 this)
  | some b =>
    obtain ⟨h0, vs, T, fr, h1, h2, h3, h4⟩ := h
    exact .inr ⟨b, 0, vs, T, fr, hA b rfl, h0 rfl, h1, fun i x hi => by rw [Nat.zero_add]; exact h4 i x hi⟩

theorem row_view {O : Own} {w : World} {b : Option Nat} {len cap lo hi : Nat} {e : Sh} {l : List (den e)} (hl : len = l.length) (hc : len ≤ cap) (h : RowR O w b cap e l false) {A : Option Addr}
    (h1 : lo ≤ hi) (h2 : hi ≤ len) (hA : ∀ x, b = some x → lo = 0 ∨ lo < hi → A = some ⟨x, lo * e.size, none⟩) {c : Nat} (hcc : len - lo ≤ c) : SliceR O w e ((l.take hi).drop lo) A c := by
  have hlen : ((l.take hi).drop lo).length = hi - lo := by simp; omega
  refine ⟨by omega, ?_⟩
  cases b with
  | none =>
    have : l.length = 0 := by simp [RowR] at h; omega
    exact .inl (by rw [List.length_eq_zero_iff.1 this]; simp)
  | some b =>
    rcases Nat.lt_or_ge lo hi with hlt | hge
    · obtain ⟨h0, vs, T, fr, g1, g2, g3, g4⟩ := h
      refine .inr ⟨b, lo * e.size, vs, T, fr, hA b rfl (.inr hlt), h0 rfl, g1, fun i x hi' => ?_⟩
      have hi2 : l[lo + i]? = some x := by
        rw [List.getElem?_drop] at hi'
        rw [List.getElem?_take] at hi'
        split at hi'
        · exact hi'
        · cases hi'
      have := g4 (lo + i) x hi2
      rw [mul_add'] at this
      exact this
    · exact .inl (List.length_eq_zero_iff.1 (by omega))

theorem asList_ok {X : XO W₀} {w : World} {ρ : List RB} {σ σ' : List Blk} {e : Sh} {c : Sc} {l : List (den e)} {v : Value} (m : Mem X w ρ σ) (hc : ScR (OX X ρ σ) w ρ c v) (h : asList e c σ = some (l, σ')) :
    Mem X w ρ σ' ∧ Turn (OX X ρ σ) w (OX X ρ σ') w ∧ ∃ A cap, v = .slice A l.length cap ∧ SliceR (OX X ρ σ') w e l A cap := by
  unfold asList at h
  split at h
  · rename_i e' l' full
    split at h
    · rename_i he; subst he
      simp only [Option.some.injEq, Prod.mk.injEq] at h
      obtain ⟨rfl, rfl⟩ := h
      cases hc with
      | list hs hf => exact ⟨m, .refl _ _, _, _, rfl, hs⟩
    · cases h
  · simp only [Option.some.injEq, Prod.mk.injEq] at h
    obtain ⟨rfl, rfl⟩ := h
    cases hc with
    | val => exact ⟨m, .refl _ _, none, 0, rfl, Nat.le_refl _, .inl rfl⟩
  · rename_i id vw
    rw [getAt_eq] at h
    split at h
    · rename_i e' l' hk
      split at h
      · rename_i he; subst he
        simp only [Option.some.injEq, Prod.mk.injEq] at h
        obtain ⟨rfl, rfl⟩ := h
        rw [setAt_eq]
        obtain ⟨m', t⟩ := m.settle hk
        refine ⟨m', t, ?_⟩
        obtain ⟨r, hr⟩ := m.rho hk
        have hb := m'.blk id r (.froz e' l') hr (List.getElem?_set_self (get_lt hk))
        cases hc with
        | @own _ len cap sz b A ho hA =>
          rw [hr] at ho; cases ho
          cases hb with
          | froz hl hc' hrow => exact ⟨A, cap, by rw [hl]; rfl, row_slice hl hc' hrow hA⟩
        | @view _ len cap sz lo hi c b A ho h1 h2 hA hcc =>
          rw [hr] at ho; cases ho
          cases hb with
          | froz hl hc' hrow => exact ⟨A, c, by simp [viewOf]; omega, row_view hl hc' hrow h1 h2 hA hcc.1⟩
      · cases h
    · rename_i e' l' hk
      split at h
      · rename_i he; subst he
        simp only [Option.some.injEq, Prod.mk.injEq] at h
        obtain ⟨rfl, rfl⟩ := h
        refine ⟨m, .refl _ _, ?_⟩
        obtain ⟨r, hr⟩ := m.rho hk
        have hb := m.blk id r (.froz e' l') hr hk
        cases hc with
        | @own _ len cap sz b A ho hA =>
          rw [hr] at ho; cases ho
          cases hb with
          | froz hl hc' hrow => exact ⟨A, cap, by rw [hl]; rfl, row_slice hl hc' hrow hA⟩
        | @view _ len cap sz lo hi c b A ho h1 h2 hA hcc =>
          rw [hr] at ho; cases ho
          cases hb with
          | froz hl hc' hrow => exact ⟨A, c, by simp [viewOf]; omega, row_view hl hc' hrow h1 h2 hA hcc.1⟩
      · cases h
    · cases h
  · cases h

/-- From blocks to blocks: some rows may have been settled, nothing else. -/
structure Frz (X : XO W₀) (w : World) (ρ : List RB) (σ σ' : List Blk) : Prop where
  mem : Mem X w ρ σ'
  turn : Turn (OX X ρ σ) w (OX X ρ σ') w
  len : σ'.length = σ.length
  old : ∀ (id : Nat) k, σ[id]? = some k → σ'[id]? = some k ∨ ∃ e l, k = .elems e l ∧ σ'[id]? = some (.froz e l)

theorem Frz.refl {X : XO W₀} {w : World} {ρ : List RB} {σ : List Blk} (m : Mem X w ρ σ) : Frz X w ρ σ σ := ⟨m, .refl _ _, rfl, fun _ _ h => .inl h⟩

theorem Frz.trans {X : XO W₀} {w : World} {ρ : List RB} {σ₁ σ₂ σ₃ : List Blk} (a : Frz X w ρ σ₁ σ₂) (b : Frz X w ρ σ₂ σ₃) : Frz X w ρ σ₁ σ₃ :=
  ⟨b.mem, a.turn.trans b.turn, b.len.trans a.len, fun id k h => by
    rcases a.old id k h with h1 | ⟨e, l, rfl, h1⟩
    · exact b.old id k h1
    · rcases b.old id _ h1 with h2 | ⟨e', l', h2, h3⟩
      · exact .inr ⟨e, l, rfl, h2⟩
      · cases h2⟩

theorem asList_frz {X : XO W₀} {w : World} {ρ : List RB} {σ σ' : List Blk} {e : Sh} {c : Sc} {l : List (den e)} {v : Value} (m : Mem X w ρ σ) (hc : ScR (OX X ρ σ) w ρ c v) (h : asList e c σ = some (l, σ')) :
    Frz X w ρ σ σ' ∧ ∃ A cap, v = .slice A l.length cap ∧ SliceR (OX X ρ σ') w e l A cap := by
  obtain ⟨m', t, r⟩ := asList_ok m hc h
  refine ⟨⟨m', t, ?_, ?_⟩, r⟩
  · unfold asList at h
    split at h
    · split at h <;> simp at h; rw [← h.2]
    · simp at h; rw [← h.2]
    · split at h
      · split at h <;> simp at h; rw [← h.2]; simp [setAt_eq]
      · split at h <;> simp at h; rw [← h.2]
      · cases h
    · cases h
  · intro id k hk
    unfold asList at h
    split at h
    · split at h <;> simp at h; rw [← h.2]; exact .inl hk
    · simp at h; rw [← h.2]; exact .inl hk
    · rename_i id' vw
      rw [getAt_eq] at h
      split at h
      · rename_i e' l' hk'
        split at h <;> simp at h
        rw [← h.2, setAt_eq]
        by_cases ee : id' = id
        · subst ee
          rw [hk'] at hk; cases hk
          exact .inr ⟨_, _, rfl, List.getElem?_set_self (get_lt hk')⟩
        · rw [List.getElem?_set_ne ee]; exact .inl hk
      · split at h <;> simp at h; rw [← h.2]; exact .inl hk
      · cases h
    · cases h

theorem ScsR.tail {O : Own} {w : World} {ρ : List RB} {c : Sc} {cs : List Sc} {vs : List Value} (h : ScsR O w ρ (c :: cs) vs) : ∃ v vs', vs = v :: vs' ∧ ScR O w ρ c v ∧ ScsR O w ρ cs vs' := by
  cases vs with
  | nil => simpa using h.1
  | cons v vs' => exact ⟨v, vs', rfl, h.2 0 c v rfl rfl, by simpa using h.1, fun i c' v' hc hv => h.2 (i + 1) c' v' hc hv⟩

theorem ScsR.cons {O : Own} {w : World} {ρ : List RB} {c : Sc} {cs : List Sc} {v : Value} {vs : List Value} (h : ScR O w ρ c v) (hs : ScsR O w ρ cs vs) : ScsR O w ρ (c :: cs) (v :: vs) :=
  ⟨by simp [hs.1], fun i c' v' hc hv => by
    cases i with
    | zero => simp at hc hv; subst hc; subst hv; exact h
    | succ i => exact hs.2 i c' v' (by simpa using hc) (by simpa using hv)⟩

/-- Plain data out of cells. -/
theorem proj_ok {X : XO W₀} {w : World} {ρ : List RB} : ∀ {e : Sh} {cs : List Sc} {σ σ' : List Blk} {x : den e} {r : List Sc} {vs : List Value}, Mem X w ρ σ → ScsR (OX X ρ σ) w ρ cs vs → proj e cs σ = some (x, r, σ') →
    Frz X w ρ σ σ' ∧ ∃ vs₁ vs₂, vs = vs₁ ++ vs₂ ∧ vs₁.length = e.size ∧ ScsR (OX X ρ σ') w ρ r vs₂ ∧ ∀ (a : Array Value) off, (∀ i v, vs₁[i]? = some v → a[off + i]? = some v) → CellsAt (OX X ρ σ') w e x a off
  | .int k, cs, σ, σ', x, r, vs, m, hs, h => by
    cases cs with
    | nil => simp [proj] at h
    | cons c cs =>
      obtain ⟨v, vs', rfl, hc, hs'⟩ := hs.tail
      simp only [proj] at h
      split at h
      · rename_i k' n
        split at h
        · rename_i hk; subst hk
          simp only [Option.some.injEq, Prod.mk.injEq] at h
          obtain ⟨rfl, rfl, rfl⟩ := h
          cases hc
          exact ⟨.refl m, [_], vs', rfl, rfl, hs', fun a off ha => ha 0 _ rfl⟩
        · cases h
      · cases h
  | .bool, cs, σ, σ', x, r, vs, m, hs, h => by
    cases cs with
    | nil => simp [proj] at h
    | cons c cs =>
      obtain ⟨v, vs', rfl, hc, hs'⟩ := hs.tail
      simp only [proj] at h
      split at h
      · simp only [Option.some.injEq, Prod.mk.injEq] at h
        obtain ⟨rfl, rfl, rfl⟩ := h
        cases hc
        exact ⟨.refl m, [_], vs', rfl, rfl, hs', fun a off ha => ha 0 _ rfl⟩
      · cases h
  | .str, cs, σ, σ', x, r, vs, m, hs, h => by
    cases cs with
    | nil => simp [proj] at h
    | cons c cs =>
      obtain ⟨v, vs', rfl, hc, hs'⟩ := hs.tail
      simp only [proj] at h
      split at h
      · simp only [Option.some.injEq, Prod.mk.injEq] at h
        obtain ⟨rfl, rfl, rfl⟩ := h
        cases hc
        exact ⟨.refl m, [_], vs', rfl, rfl, hs', fun a off ha => ha 0 _ rfl⟩
      · cases h
  | .list e, cs, σ, σ', x, r, vs, m, hs, h => by
    cases cs with
    | nil => simp [proj] at h
    | cons c cs =>
      obtain ⟨v, vs', rfl, hc, hs'⟩ := hs.tail
      simp only [proj] at h
      split at h
      · rename_i l σ₁ hl
        simp only [Option.some.injEq, Prod.mk.injEq] at h
        obtain ⟨rfl, rfl, rfl⟩ := h
        obtain ⟨f, A, cap, rfl, hsl⟩ := asList_frz m hc hl
        exact ⟨f, [_], vs', rfl, rfl, hs'.turn f.turn (Ext.refl _), fun a off ha => ⟨A, cap, ha 0 _ rfl, hsl.1, hsl.2⟩⟩
      · cases h
  | .prod p q, cs, σ, σ', x, r, vs, m, hs, h => by
    simp only [proj] at h
    split at h
    · rename_i x₁ r₁ σ₁ h₁
      split at h
      · rename_i x₂ r₂ σ₂ h₂
        simp only [Option.some.injEq, Prod.mk.injEq] at h
        obtain ⟨rfl, rfl, rfl⟩ := h
        obtain ⟨f₁, u₁, u₂, rfl, hl₁, hs₁, c₁⟩ := proj_ok m hs h₁
        obtain ⟨f₂, u₃, u₄, rfl, hl₂, hs₂, c₂⟩ := proj_ok f₁.mem hs₁ h₂
        refine ⟨f₁.trans f₂, u₁ ++ u₃, u₄, by simp, by simp [hl₁, hl₂, Sh.size], hs₂, fun a off ha => ⟨(c₁ a off fun i v hv => ha i v ?_).turn f₂.turn, c₂ a (off + p.size) fun i v hv => ?_⟩⟩
        · rw [List.getElem?_append_left (get_lt hv)]; exact hv
        · have := ha (p.size + i) v (by rw [List.getElem?_append_right (by omega), hl₁]; rw [Nat.add_sub_cancel_left]; exact hv)
          rw [Nat.add_assoc]; exact this
      · cases h
    · cases h

theorem projAll_ok {X : XO W₀} {w : World} {ρ : List RB} {e : Sh} {cs : List Sc} {σ σ' : List Blk} {x : den e} {vs : List Value} (m : Mem X w ρ σ) (hs : ScsR (OX X ρ σ) w ρ cs vs) (h : projAll e cs σ = some (x, σ')) :
    Frz X w ρ σ σ' ∧ vs.length = e.size ∧ ∀ (a : Array Value) off, (∀ i v, vs[i]? = some v → a[off + i]? = some v) → CellsAt (OX X ρ σ') w e x a off := by
  unfold projAll at h
  split at h
  · rename_i x₁ σ₁ h₁
    simp only [Option.some.injEq, Prod.mk.injEq] at h
    obtain ⟨rfl, rfl⟩ := h
    obtain ⟨f, u₁, u₂, rfl, hl, hs', c⟩ := proj_ok m hs h₁
    have : u₂ = [] := List.length_eq_zero_iff.1 (by simpa using hs'.1.symm)
    subst this
    exact ⟨f, by simpa using hl, fun a off ha => c a off (by simpa using ha)⟩
  · cases h

/-- What a datum's cells read as, read as the datum's parts. -/
theorem projAll_inj {X : XO W₀} {w : World} {ρ : List RB} {e : Sh} {cs : List Sc} {σ σ' : List Blk} {x : den e} {vs : List Value} (m : Mem X w ρ σ) (hs : ScsR (OX X ρ σ) w ρ cs vs) (h : projAll e cs σ = some (x, σ')) :
    Frz X w ρ σ σ' ∧ ScsR (OX X ρ σ') w ρ (inj e x) vs := by
  obtain ⟨f, hl, hc⟩ := projAll_ok m hs h
  refine ⟨f, by rw [inj_len, hl], fun i c v hi hv => ?_⟩
  obtain ⟨v', h1, h2⟩ := inj_ok (ρ := ρ) (hc vs.toArray 0 (by intro i v hv; simpa using hv)) i c hi
  rw [Nat.zero_add] at h1
  have : vs[i]? = some v' := by simpa using h1
  rw [hv] at this; cases this
  exact h2

end Go.Proofs.Ytmenplonaapliaa.AE
end
section
set_option linter.unusedSectionVars false
set_option linter.unusedVariables false
set_option linter.unusedSimpArgs false
namespace Go.Proofs.Ytmenplonaapliaa.AE
open Go Go.RowKit

/-- Of the rows that may be read, and of all that nobody owns, w' has what w has. -/
structure Same (ld : Nat → Bool) (ρ : List RB) (σ : List Blk) (O : Own) (w w' : World) : Prop where
  size : w.heap.size ≤ w'.heap.size
  free : ∀ b, b < w.heap.size → ¬ O b → w'.heap[b]? = w.heap[b]?
  mine : ∀ (id : Nat) (r : RB) (k : Blk) b, ρ[id]? = some r → σ[id]? = some k → Live r k b → ld id = true → w'.heap[b]? = w.heap[b]?

def EnvR (O : Own) (w : World) (ρ : List RB) (env : List (Nat × AV)) (a : Act) : Prop := ∀ t, AVR O w ρ (look env t) (a.tmps.getD t undef)

theorem ofValue1_ok {O : Own} {w : World} {ρ : List RB} (v : Value) : AV1R O w ρ (ofValue1 v) v := by
  unfold ofValue1
  split
  · rename_i cs
    refine .agg ⟨by simp, fun i c v hc hv => ?_⟩
    simp only [List.getElem?_map] at hc
    rw [hv] at hc
    cases hc
    exact .val _
  · exact .sc (.val _)

theorem opd_ok {O : Own} {w : World} {ρ : List RB} {st : St} {a : Act} (h : EnvR O w ρ st.env a) (x : Operand) : AVR O w ρ (st.opd x) (a.eval x) := by
  cases x with
  | tmp t => exact h t
  | const v => exact .one (ofValue1_ok v)
  | global g => exact .one (.sc (.val _))
  | func f => exact .one (.sc (.fn (vs := []) rfl (by simp)))

theorem opds_ok {O : Own} {w : World} {ρ : List RB} {st : St} {a : Act} (h : EnvR O w ρ st.env a) (xs : Array Operand) (i : Nat) (x : AV) (v : Value)
    (hx : (xs.toList.map st.opd)[i]? = some x) (hv : (xs.map a.eval)[i]? = some v) : AVR O w ρ x v := by
  rw [List.getElem?_map] at hx
  simp only [Array.getElem?_map] at hv
  have e : xs.toList[i]? = xs[i]? := by simp
  rw [e] at hx
  cases h' : xs[i]? with
  | none => rw [h'] at hx; cases hx
  | some y =>
    rw [h'] at hx hv
    simp at hx hv
    subst hx; subst hv
    exact opd_ok h y

section
variable {P : Program} {R : Type} [DecidableEq R] {r : R}

theorem run_sizeT {t : TypeId} {n : Nat} (h : sizeT P t = some n) (w : World) : (sizeOf t).run P w = .ok n w := by
  unfold sizeT at h
  cases hi : P.info? t with
  | none => rw [hi] at h; cases h
  | some i =>
    rw [hi] at h
    simp at h
    subst h
    simp [sizeOf, typeInfo, program, hi, Sem.run]

theorem run_und {t : TypeId} {d : TypeDesc} (h : P.underlying t = some d) (w : World) : (underlying t).run P w = .ok d w := by
  simp [underlying, program, h, Sem.run]

theorem runPure_ok {α : Type} {s : Sem α} {x : α} (h : runPure P s = some x) (w : World) : s.run P w = .ok x w := by
  induction s with
  | pure a => simp [runPure] at h; subst h; rfl
  | program k ih => exact ih P h
  | _ => simp [runPure] at h

theorem scVal_ok {O : Own} {w : World} {ρ : List RB} {c : Sc} {v u : Value} (h : ScR O w ρ c v) (hc : scVal c = some u) : v = u := by
  unfold scVal at hc
  split at hc
  · cases hc; cases h; rfl
  · cases hc
    cases h with
    | @fn f caps vs hl h =>
      have : vs = [] := List.length_eq_zero_iff.1 hl.symm
      subst this; rfl
  · cases hc

omit [DecidableEq R] in
/-- A part of a struct's cells. -/
theorem partK_ok {O : Own} {w : World} {ρ : List RB} {t : TypeId} {cs : List Sc} {vs : Array Value} {off : Nat} {k : AV → Option R} (hs : ScsR O w ρ cs vs.toList) (h : partK P t cs off k = some r) :
    ∃ av v, k av = some r ∧ AVR O w ρ av v ∧ ∀ w', (part t vs off).run P w' = .ok v w' := by
  unfold partK at h
  have agg : ∀ {n : Nat} {d : TypeDesc}, P.underlying t = some d → (match d with | .struct _ | .array _ _ => true | _ => false) = true → sizeT P t = some n → guardK (Nat.ble (off + n) cs.length) (k (.one (.agg ((cs.drop off).take n)))) = some r →
      ∃ av v, k av = some r ∧ AVR O w ρ av v ∧ ∀ w', (part t vs off).run P w' = .ok v w' := by
    intro n d hu hd hn h
    unfold guardK at h
    cases hb : Nat.ble (off + n) cs.length with
    | false => rw [hb] at h; cases h
    | true =>
      rw [hb] at h
      refine ⟨_, .agg (vs.extract off (off + n)), h, .one (.agg ⟨?_, fun i c v hc hv => ?_⟩), fun w' => ?_⟩
      · have := Nat.le_of_ble_eq_true hb
        have := hs.1
        simp at *
        omega
      · have hi : i < n := by
          have := get_lt hc
          simp at this
          omega
        rw [List.getElem?_take, if_pos hi, List.getElem?_drop] at hc
        refine hs.2 (off + i) c v hc ?_
        simpa [Array.getElem?_extract, hi, Nat.min_def] using hv
      · cases d <;> simp at hd <;> simp [part, isAgg, run_und hu, run_sizeT hn]
  have one : ∀ {d : TypeDesc}, P.underlying t = some d → (match d with | .struct _ | .array _ _ => true | _ => false) = false → (match getAt cs off with | some c => k (.one (.sc c)) | none => none) = some r →
      ∃ av v, k av = some r ∧ AVR O w ρ av v ∧ ∀ w', (part t vs off).run P w' = .ok v w' := by
    intro d hu hd h
    rw [getAt_eq] at h
    split at h
    · rename_i c hc
      have hlt : off < vs.size := by have := get_lt hc; have := hs.1; simp at this; omega
      refine ⟨_, vs[off], h, .one (.sc (hs.2 off c _ hc (by simp [hlt]))), fun w' => ?_⟩
      cases d <;> simp at hd <;> simp [part, isAgg, run_und hu, hlt]
    · cases h
  cases hu : P.underlying t with
  | none => simp only [hu] at h; cases h
  | some d => cases hn : sizeT P t with
    | none => cases d <;> simp only [hu, hn] at h <;> first | (cases h; done) | exact one hu rfl h
    | some n => cases d <;> simp only [hu, hn] at h <;> first | exact agg hu rfl hn h | exact one hu rfl h

end

section
variable {P : Program} {R : Type} [DecidableEq R] {r : R}

omit [DecidableEq R] in
theorem guardK_ok {b : Bool} {k : Option R} (h : guardK b k = some r) : b = true ∧ k = some r := by
  cases b with
  | false => cases h
  | true => exact ⟨rfl, h⟩

theorem meet_ok {x y : Option R} (h : meet x y = some r) : x = some r ∧ y = some r := by
  unfold meet at h
  split at h
  · rename_i e; exact ⟨h, e ▸ h⟩
  · cases h

omit [DecidableEq R] in
theorem binInt_ok {op : BinOp} {i : IntKind} {m n : Int} {k : Value → Option R} (h : binInt op i m n k = some r) (h1 : op ≠ .shl) (h2 : op ≠ .shr) (t : TypeId) :
    ∃ v, k v = some r ∧ ∀ w, (Go.binOp op t (.int i m) (.int i n)).run P w = .ok v w := by
  cases op <;> simp only [binInt] at h <;> first
    | (exfalso; first | exact h1 rfl | exact h2 rfl; done)
    | (cases h; done)
    | (split at h
       · cases h
       · rename_i hn
         refine ⟨_, h, fun w => ?_⟩
         simp [Go.binOp, Op.intDiv, hn])
    | (refine ⟨_, h, fun w => ?_⟩
       simp [Go.binOp, Op.intArith, Op.intBits, Op.intCmp])

theorem binStr_ok {op : BinOp} {s u : ByteArray} {k : Value → Option R} (h : binStr op s u k = some r) (t : TypeId) :
    ∃ v, k v = some r ∧ ∀ w, (Go.binOp op t (.string s) (.string u)).run P w = .ok v w := by
  cases op
  case add =>
    simp only [binStr] at h
    obtain ⟨hb, h⟩ := guardK_ok h
    refine ⟨_, h, fun w => ?_⟩
    have hb' : s.size + u.size ≤ 9223372036854775807 := of_decide_eq_true hb
    have hm : IntKind.i64.max = 9223372036854775807 := by decide
    have : ¬ (((s.size + u.size : Nat) : Int) > IntKind.i64.max) := by rw [hm]; omega
    simp only [Go.binOp, Op.stringOp]
    rw [if_neg this]
    rfl
  all_goals simp only [binStr] at h
  all_goals first
    | (cases h; done)
    | (refine ⟨_, h, fun w => ?_⟩
       simp [Go.binOp, Op.stringOp, strEq, strLt])

theorem eqGuard_none {op : BinOp} {t : TypeId} {x y : Operand} {u v : Value} (h1 : ¬ (u = .nilIface ∧ v = .nilIface)) (h2 : ∀ a b, ¬ (u = .agg a ∧ v = .agg b)) (w : World) : (eqGuard op t x y u v).run P w = .ok () w := by
  unfold eqGuard
  by_cases hop : op = .eql ∨ op = .neq
  · cases u <;> cases v <;> first
      | exact absurd ⟨rfl, rfl⟩ h1
      | exact absurd ⟨rfl, rfl⟩ (h2 _ _)
      | (rcases hop with rfl | rfl <;> rfl)
  · cases op <;> first | rfl | (exfalso; simp at hop; done)

theorem eqV_ok : ∀ (n : Nat) (t : TypeId) (xs ys : List Value) (b : Bool), eqV P n t xs ys = some b → ∀ (d : Nat) (w : World), n ≤ d →
    (match P.underlying t with | some (.struct _) | some (.array _ _) => (Op.equalIn d t (.agg xs.toArray) (.agg ys.toArray)).run P w = .ok b w | _ => ∃ x y, xs = [x] ∧ ys = [y] ∧ (Op.equalIn d t x y).run P w = .ok b w)
  | 0, t, xs, ys, b, h => by simp [eqV] at h
  | n + 1, t, xs, ys, b, h => by
    intro d w hd
    obtain ⟨d, rfl⟩ : ∃ m, d = m + 1 := ⟨d - 1, by omega⟩
    simp only [eqV] at h
    split at h
    · rename_i i a j c hu
      split at h
      · rename_i hij; subst hij
        cases h
        rw [hu]
        exact ⟨_, _, rfl, rfl, by simp [Op.equalIn, run_und hu]⟩
      · cases h
    · rename_i a c hu
      cases h
      rw [hu]
      exact ⟨_, _, rfl, rfl, by simp [Op.equalIn, run_und hu]⟩
    · rename_i a c hu
      cases h
      rw [hu]
      exact ⟨_, _, rfl, rfl, by simp [Op.equalIn, run_und hu, strEq, beq_toListBytes]⟩
    · rename_i xs ys _ _ _ fs hu
      split at h
      · cases h
      · rename_i hs
        have hf : P.fieldsOf t = fs := by simp [Program.fieldsOf, hu]
        rw [hu]
        show (Op.equalIn (d + 1) t (.agg xs.toArray) (.agg ys.toArray)).run P w = .ok b w
        rw [run_equalIn_struct w d t xs.toArray ys.toArray (by rw [hf]; exact hu) hs, hf]
        generalize fs.toList = l at h
        clear hf hu
        induction l generalizing b with
        | nil => simp [eqV.fields] at h; subst h; rfl
        | cons f l ih =>
          simp only [eqV.fields] at h
          split at h
          · rename_i m hn hm
            split at h
            · rename_i p q hb hp hq
              cases h
              simp only [Bool.and_eq_true] at hb
              have hx := Nat.le_of_ble_eq_true hb.1
              have hy := Nat.le_of_ble_eq_true hb.2
              have ihf := eqV_ok n f.type _ _ p hp d w (by omega)
              have key : ∃ u v, (part f.type xs.toArray f.offset).run P w = .ok u w ∧ (part f.type ys.toArray f.offset).run P w = .ok v w ∧ (Op.equalIn d f.type u v).run P w = .ok p w := by
                cases hu : P.underlying f.type with
                | none => cases n <;> simp [eqV, hu] at hp
                | some dd =>
                  have one : (match dd with | .struct _ | .array _ _ => true | _ => false) = false → (∃ x y, (xs.drop f.offset).take m = [x] ∧ (ys.drop f.offset).take m = [y] ∧ (Op.equalIn d f.type x y).run P w = .ok p w) →
                      ∃ u v, (part f.type xs.toArray f.offset).run P w = .ok u w ∧ (part f.type ys.toArray f.offset).run P w = .ok v w ∧ (Op.equalIn d f.type u v).run P w = .ok p w := by
                    rintro hdd ⟨x, y, h1, h2, h3⟩
                    have m1 : 1 ≤ m := by
                      have := congrArg List.length h1
                      simp at this; omega
                    have g : ∀ {zs : List Value} {z : Value}, (zs.drop f.offset).take m = [z] → zs.toArray[f.offset]? = some z := by
                      intro zs z hz
                      have := congrArg (fun l => l[0]?) hz
                      simpa [List.getElem?_take, show 0 < m by omega] using this
                    refine ⟨x, y, ?_, ?_, h3⟩
                    · have := g h1
                      cases dd <;> simp at hdd <;> simp [part, isAgg, run_und hu] <;> (split <;> simp_all)
                    · have := g h2
                      cases dd <;> simp at hdd <;> simp [part, isAgg, run_und hu] <;> (split <;> simp_all)
                  have agg : (match dd with | .struct _ | .array _ _ => true | _ => false) = true → (Op.equalIn d f.type (.agg ((xs.drop f.offset).take m).toArray) (.agg ((ys.drop f.offset).take m).toArray)).run P w = .ok p w →
                      ∃ u v, (part f.type xs.toArray f.offset).run P w = .ok u w ∧ (part f.type ys.toArray f.offset).run P w = .ok v w ∧ (Op.equalIn d f.type u v).run P w = .ok p w := by
                    intro hdd h3
                    refine ⟨_, _, ?_, ?_, h3⟩
                    · cases dd <;> simp at hdd <;> simp [part, isAgg, run_und hu, run_sizeT hm, List.extract_eq_take_drop]
                    · cases dd <;> simp at hdd <;> simp [part, isAgg, run_und hu, run_sizeT hm, List.extract_eq_take_drop]
                  rw [hu] at ihf
                  cases dd <;> first | exact one rfl ihf | exact agg rfl ihf
              obtain ⟨u, v, k1, k2, k3⟩ := key
              have hn' : f.name ≠ "_" := of_decide_eq_true hn
              simp only [Op.eqFields, if_pos hn', Sem.run_bind, k1, k2, k3, Result.andThen_ok]
              cases p with
              | false => simp
              | true => simpa using ih q hq
            · cases h
          · rename_i hn
            have hn' : ¬ f.name ≠ "_" := of_decide_eq_false hn
            simp only [Op.eqFields, if_neg hn']
            exact ih b h
          · cases h
    · cases h

end

end Go.Proofs.Ytmenplonaapliaa.AE
end
section
set_option linter.unusedSectionVars false
set_option linter.unusedVariables false
set_option linter.unusedSimpArgs false
namespace Go.Proofs.Ytmenplonaapliaa.AE
open Go Go.RowKit

section
variable {P : Program} {R : Type} [DecidableEq R] {r : R}

theorem scVals_ok {O : Own} {w : World} {ρ : List RB} : ∀ {cs : List Sc} {vs us : List Value}, ScsR O w ρ cs vs → scVals cs = some us → us = vs
  | [], vs, us, h, hv => by
    have : vs = [] := List.length_eq_zero_iff.1 h.1.symm
    simp [scVals] at hv; rw [this, ← hv]
  | c :: cs, vs, us, h, hv => by
    obtain ⟨v, vs', rfl, hc, hs⟩ := h.tail
    simp only [scVals] at hv
    split at hv
    · rename_i u us' h1 h2
      cases hv
      rw [scVal_ok hc h1, scVals_ok hs h2]
    · cases hv

theorem AV1R.val_eq {O : Own} {w : World} {ρ : List RB} {u v : Value} (h : AV1R O w ρ (.sc (.val u)) v) : v = u := by
  cases h with
  | sc h => cases h; rfl

theorem run_guard_bin {op : BinOp} {t : TypeId} {x y : Operand} {u v : Value} {z : Value} (w : World) (h1 : (eqGuard op t x y u v).run P w = .ok () w) (h2 : (Go.binOp op t u v).run P w = .ok z w) :
    (do eqGuard op t x y u v; Go.binOp op t u v : Sem Value).run P w = .ok z w := by
  simp only [Sem.run_bind, h1, Result.andThen_ok, h2]

theorem nilK_ok {op : BinOp} {e : Bool} {k : Value → Option R} (h : nilK op e k = some r) (b : Bool) (he : e = false → b = false) : ∃ v, k v = some r ∧ ((op = .eql ∧ v = .bool b) ∨ (op = .neq ∧ v = .bool (!b))) := by
  cases op <;> simp only [nilK] at h <;> first
    | (cases h; done)
    | (cases e with
       | true =>
         obtain ⟨h1, h2⟩ := meet_ok h
         cases b
         · exact ⟨_, h2, by simp⟩
         · exact ⟨_, h1, by simp⟩
       | false =>
         rw [he rfl]
         exact ⟨_, h, by simp⟩)

theorem eqIn_slice {t e : TypeId} (hu : P.underlying t = some (.slice e)) (d : Nat) (A : Option Addr) (n c : Nat) (w : World) : (Op.equalIn (d + 1) t (.slice A n c) (.slice none 0 0)).run P w = .ok A.isNone w := by
  cases A <;> simp [Op.equalIn, run_und hu]

theorem eqIn_ptr {t e : TypeId} (hu : P.underlying t = some (.pointer e)) (d : Nat) (A : Addr) (w : World) : (Op.equalIn (d + 1) t (.pointer (some A)) (.pointer none)).run P w = .ok false w := by
  simp [Op.equalIn, run_und hu]

theorem eqIn_ifc {t : TypeId} {ms : Array (String × TypeId)} (hu : P.underlying t = some (.interface ms)) (d : Nat) (te : TypeId) (p : Value) (w : World) : (Op.equalIn (d + 1) t (.iface te p) .nilIface).run P w = .ok false w := by
  simp [Op.equalIn, run_und hu]

theorem eqIn_nilI {t : TypeId} {ms : Array (String × TypeId)} (hu : P.underlying t = some (.interface ms)) (d : Nat) (w : World) : (Op.equalIn (d + 1) t .nilIface .nilIface).run P w = .ok true w := by
  simp [Op.equalIn, run_und hu]

theorem eqGuard_nilI {op : BinOp} {t : TypeId} {x : Operand} {c : Value} (w : World) : (eqGuard op t x (.const c) .nilIface .nilIface).run P w = .ok () w := by
  unfold eqGuard
  cases op <;> simp

theorem run_eql {t : TypeId} {x y : Value} {b : Bool} {w : World} (hb : Go.binOp .eql t x y = (do pure (.bool (← Op.equal t x y)) : Sem Value)) (h : (Op.equalIn (9999 + 1) t x y).run P w = .ok b w) : (Go.binOp .eql t x y).run P w = .ok (.bool b) w := by
  rw [hb]; simp only [Sem.run_bind]
  show ((Op.equalIn (9999 + 1) t x y).run P w).andThen _ = _
  rw [h]; rfl

theorem run_neq {t : TypeId} {x y : Value} {b : Bool} {w : World} (hb : Go.binOp .neq t x y = (do pure (.bool (!(← Op.equal t x y))) : Sem Value)) (h : (Op.equalIn (9999 + 1) t x y).run P w = .ok b w) : (Go.binOp .neq t x y).run P w = .ok (.bool (!b)) w := by
  rw [hb]; simp only [Sem.run_bind]
  show ((Op.equalIn (9999 + 1) t x y).run P w).andThen _ = _
  rw [h]; rfl

theorem binK_ok {O : Own} {w : World} {ρ : List RB} {op : BinOp} {t : TypeId} {x y : Operand} {a b : AV1} {u v : Value} {k : Value → Option R} (ha : AV1R O w ρ a u) (hb : AV1R O w ρ b v) (h : binK P op t x y a b k = some r) :
    ∃ z, k z = some r ∧ ∀ w', (do eqGuard op t x y u v; Go.binOp op t u v : Sem Value).run P w' = .ok z w' := by
  unfold binK at h
  split at h
  · rename_i i m j n
    obtain rfl := ha.val_eq
    obtain rfl := hb.val_eq
    have g := fun w' => eqGuard_none (op := op) (t := t) (x := x) (y := y) (u := .int i m) (v := .int j n) (by simp) (by simp) (P := P) w'
    split at h
    · split at h
      · cases h
      · rename_i hn
        refine ⟨_, h, fun w' => run_guard_bin w' (g w') ?_⟩
        simp only [Go.binOp, Op.shift]
        rw [if_neg hn]
        rfl
    · split at h
      · cases h
      · rename_i hn
        refine ⟨_, h, fun w' => run_guard_bin w' (g w') ?_⟩
        simp only [Go.binOp, Op.shift]
        rw [if_neg hn]
        rfl
    · rename_i h1 h2
      split at h
      · rename_i hij; subst hij
        obtain ⟨z, hz, hr⟩ := binInt_ok (P := P) h (fun e => h1 e) (fun e => h2 e) t
        exact ⟨z, hz, fun w' => run_guard_bin w' (g w') (hr w')⟩
      · cases h
  · rename_i s s'
    obtain rfl := ha.val_eq
    obtain rfl := hb.val_eq
    have g := fun w' => eqGuard_none (op := op) (t := t) (x := x) (y := y) (u := .string s) (v := .string s') (by simp) (by simp) (P := P) w'
    obtain ⟨z, hz, hr⟩ := binStr_ok (P := P) h t
    exact ⟨z, hz, fun w' => run_guard_bin w' (g w') (hr w')⟩
  · rename_i v₁ u₁ _ _
    obtain rfl := ha.val_eq
    obtain rfl := hb.val_eq
    split at h
    · rename_i z hz
      exact ⟨z, h, fun w' => runPure_ok hz w'⟩
    · cases h
  · rename_i e l full
    obtain rfl := hb.val_eq
    cases ha with
    | sc ha =>
      split at h
      · rename_i et hu
        cases ha with
        | @list _ _ _ A cap hs hf =>
          obtain ⟨z, hz, hv⟩ := nilK_ok h A.isNone (by
            intro he
            rcases hs.2 with h0 | ⟨b, o, us, T, fr, hA, _⟩
            · rw [h0] at he; simp at he
            · rw [hA]; rfl)
          refine ⟨z, hz, fun w' => run_guard_bin w' (eqGuard_none (by simp) (by simp) w') ?_⟩
          rcases hv with ⟨rfl, rfl⟩ | ⟨rfl, rfl⟩
          · exact run_eql rfl (eqIn_slice hu _ _ _ _ _)
          · exact run_neq rfl (eqIn_slice hu _ _ _ _ _)
      · cases h
  · rename_i c _
    obtain rfl := hb.val_eq
    cases ha with
    | sc ha =>
      have key : ∀ {et : TypeId} {bb : Bool} {z : Value}, P.underlying t = some (.pointer et) → (op = .eql ∧ z = .bool false ∨ op = .neq ∧ z = .bool true) → guardK (isRef c) (k z) = some r →
          ∃ z, k z = some r ∧ ∀ w', (do eqGuard op t x y u (.pointer none); Go.binOp op t u (.pointer none) : Sem Value).run P w' = .ok z w' := by
        intro et bb z hu hop h
        obtain ⟨hc, h⟩ := guardK_ok h
        refine ⟨z, h, fun w' => run_guard_bin w' (eqGuard_none (by simp) (by simp) w') ?_⟩
        have : ∃ a, u = .pointer (some a) := by
          cases ha <;> first | (simp [isRef] at hc; done) | exact ⟨_, rfl⟩
        obtain ⟨a, rfl⟩ := this
        rcases hop with ⟨rfl, rfl⟩ | ⟨rfl, rfl⟩
        · exact run_eql rfl (eqIn_ptr hu _ _ _)
        · exact run_neq rfl (eqIn_ptr hu _ _ _)
      split at h
      · rename_i et hu; exact key (bb := true) hu (.inl ⟨rfl, rfl⟩) h
      · rename_i et hu; exact key (bb := true) hu (.inr ⟨rfl, rfl⟩) h
      · cases h
  · obtain rfl := hb.val_eq
    cases ha with
    | sc ha =>
      split at h
      · rename_i ms hu
        cases ha with
        | nilI => exact ⟨_, h, fun w' => run_guard_bin w' (eqGuard_nilI w') (run_eql rfl (eqIn_nilI hu _ _))⟩
        | ifc te p => exact ⟨_, h, fun w' => run_guard_bin w' (eqGuard_none (by simp) (by simp) w') (run_eql rfl (eqIn_ifc hu _ _ _ _))⟩
      · rename_i ms hu
        cases ha with
        | nilI => exact ⟨_, h, fun w' => run_guard_bin w' (eqGuard_nilI w') (run_neq rfl (eqIn_nilI hu _ _))⟩
        | ifc te p => exact ⟨_, h, fun w' => run_guard_bin w' (eqGuard_none (by simp) (by simp) w') (run_neq rfl (eqIn_ifc hu _ _ _ _))⟩
      · cases h
  · rename_i xs ys
    cases ha with
    | agg ha =>
      cases hb with
      | agg hb =>
        rename_i us vs
        split at h
        · rename_i xs' ys' h1 h2 hg ht
          have e1 := scVals_ok ha h1
          have e2 := scVals_ok hb h2
          subst e1; subst e2
          have key : ∀ {b : Bool}, eqV P 9 t us.toList vs.toList = some b → ∀ w', (Op.equalIn 10000 t (.agg us) (.agg vs)).run P w' = .ok b w' := by
            intro b heq w'
            have := eqV_ok 9 t _ _ b heq 10000 w' (by omega)
            cases hu : P.underlying t with
            | none => simp [eqV, hu] at heq
            | some d =>
              rw [hu] at this
              cases d <;> first
                | (exfalso; simp [isAggT, hu] at ht; done)
                | (simpa using this)
          split at h
          · rename_i b heq
            exact ⟨_, h, fun w' => run_guard_bin w' (run_eqGuard_agg w' _ _ _ _ _ _ hg) (by rw [run_eql_struct, key heq w']; rfl)⟩
          · rename_i b heq
            exact ⟨_, h, fun w' => run_guard_bin w' (run_eqGuard_agg w' _ _ _ _ _ _ hg) (by rw [run_neq_struct, key heq w']; rfl)⟩
          · cases h
        · cases h
  · cases h

end

section
variable {P : Program} {R : Type} [DecidableEq R] {r : R}

theorem oneSc_ok {O : Own} {w : World} {ρ : List RB} {c : Sc} {u : Value} (h : ScR O w ρ c u) (ho : oneSc c = true) : u.cells = #[u] ∧ u.oneCell' = true := by
  cases h with
  | val _ => cases u <;> first | (simp [oneSc] at ho; done) | exact ⟨rfl, rfl⟩
  | any _ => simp [oneSc] at ho
  | _ => exact ⟨rfl, rfl⟩

theorem av1Cells_ok {O : Own} {w : World} {ρ : List RB} {v : AV1} {u : Value} (h : AV1R O w ρ v u) (ho : okAV1 v = true) : ScsR O w ρ (av1Cells v) u.cells.toList := by
  cases h with
  | sc h =>
    rw [(oneSc_ok h ho).1]
    exact ⟨rfl, fun i c x hc hx => by
      cases i with
      | zero => simp [av1Cells] at hc hx; subst hc; subst hx; exact h
      | succ i => simp [av1Cells] at hc⟩
  | agg h => exact h

theorem setCells_eq : ∀ (l cs : List Sc) (off : Nat), off + l.length ≤ cs.length → (setCells cs off l).length = cs.length ∧ ∀ i, (setCells cs off l)[i]? = if off ≤ i ∧ i < off + l.length then l[i - off]? else cs[i]?
  | [], cs, off, h => ⟨rfl, fun i => by simp [setCells]; omega⟩
  | y :: ys, cs, off, h => by
    simp only [setCells, setAt_eq]
    simp only [List.length_cons] at h
    obtain ⟨h1, h2⟩ := setCells_eq ys (cs.set off y) (off + 1) (by simp; omega)
    refine ⟨by simpa using h1, fun i => ?_⟩
    rw [h2]
    simp only [List.length_cons]
    by_cases e : i = off
    · subst e
      rw [if_neg (by omega), if_pos (by omega), List.getElem?_set_self (by omega)]
      simp
    · by_cases e2 : off + 1 ≤ i ∧ i < off + 1 + ys.length
      · rw [if_pos e2, if_pos (by omega)]
        obtain ⟨m, hm⟩ : ∃ m, i - off = m + 1 := ⟨i - off - 1, by omega⟩
        rw [hm, List.getElem?_cons_succ, show i - (off + 1) = m by omega]
      · rw [if_neg e2, if_neg (by omega), List.getElem?_set_ne (by omega)]

/-- The same of the model's way to set the cells of a part. -/
theorem foldl_set (us : List Value) : ∀ (j : Nat) (cs : Array Value) (off : Nat), (∀ i, ((us.zipIdx j).foldl (fun cs p => cs.setIfInBounds (off + p.2) p.1) cs).toList[i]? = if off + j ≤ i ∧ i < off + j + us.length ∧ i < cs.size then us[i - off - j]? else cs.toList[i]?) ∧ ((us.zipIdx j).foldl (fun cs p => cs.setIfInBounds (off + p.2) p.1) cs).size = cs.size := by
  induction us with
  | nil => intro j cs off; exact ⟨fun i => by simp; omega, rfl⟩
  | cons u us ih =>
    intro j cs off
    simp only [List.zipIdx_cons, List.foldl_cons, List.length_cons]
    obtain ⟨h1, h2⟩ := ih (j + 1) (cs.setIfInBounds (off + j) u) off
    refine ⟨fun i => ?_, by rw [h2]; simp⟩
    rw [h1]
    simp only [Array.size_setIfInBounds, Array.toList_setIfInBounds]
    by_cases e : i = off + j
    · subst e
      rw [if_neg (by omega)]
      by_cases hs : off + j < cs.size
      · rw [if_pos (by omega), List.getElem?_set_self (by simpa using hs)]
        simp [show off + j - off - j = 0 by omega]
      · rw [if_neg (by omega)]
        rw [List.getElem?_eq_none (by simp; omega), List.getElem?_eq_none (by simp; omega)]
    · by_cases e2 : off + (j + 1) ≤ i ∧ i < off + (j + 1) + us.length ∧ i < cs.size
      · rw [if_pos e2, if_pos (by omega)]
        obtain ⟨m, hm⟩ : ∃ m, i - off - j = m + 1 := ⟨i - off - j - 1, by omega⟩
        rw [hm, List.getElem?_cons_succ, show i - off - (j + 1) = m by omega]
      · rw [if_neg e2]
        rw [List.getElem?_set_ne (by omega)]
        by_cases e3 : off + j ≤ i ∧ i < off + j + (us.length + 1) ∧ i < cs.size
        · exfalso; omega
        · rw [if_neg e3]

theorem setCells_ok {O : Own} {w : World} {ρ : List RB} {l cs : List Sc} {us : List Value} {vs : Array Value} {off : Nat} (hl : ScsR O w ρ l us) (hs : ScsR O w ρ cs vs.toList) (hb : off + l.length ≤ cs.length) :
    ScsR O w ρ (setCells cs off l) ((us.zipIdx).foldl (fun cs p => cs.setIfInBounds (off + p.2) p.1) vs).toList := by
  obtain ⟨a1, a2⟩ := setCells_eq l cs off hb
  obtain ⟨b1, b2⟩ := foldl_set us 0 vs off
  have hsz : cs.length = vs.size := by simpa using hs.1
  refine ⟨(a1.trans hsz).trans b2.symm, fun i c v hc hv => ?_⟩
  rw [a2] at hc
  rw [b1] at hv
  by_cases e : off ≤ i ∧ i < off + l.length
  · rw [if_pos e] at hc
    rw [if_pos (by have := hl.1; omega)] at hv
    exact hl.2 (i - off) c v hc (by simpa using hv)
  · rw [if_neg e] at hc
    rw [if_neg (by have := hl.1; omega)] at hv
    exact hs.2 i c v hc hv

omit [DecidableEq R] in
theorem fillK_ok {O : Own} {w : World} {ρ : List RB} {place : Nat → Option (Nat × Nat)} {k : List Sc → Option R} : ∀ {parts : List (Nat × AV)} {vals : List (Nat × Value)} {cs : List Sc} {vs : Array Value},
    (parts.length = vals.length ∧ ∀ (i : Nat) p q, parts[i]? = some p → vals[i]? = some q → p.1 = q.1 ∧ AVR O w ρ p.2 q.2) → ScsR O w ρ cs vs.toList → fillK place parts cs k = some r →
    ∃ cs' vs', k cs' = some r ∧ Instr.fill place vs vals = some vs' ∧ ScsR O w ρ cs' vs'.toList
  | [], vals, cs, vs, hp, hs, h => by
    have : vals = [] := List.length_eq_zero_iff.1 hp.1.symm
    subst this
    exact ⟨cs, vs, h, rfl, hs⟩
  | (i, .tup _) :: parts, vals, cs, vs, hp, hs, h => by simp [fillK] at h
  | (i, .one v) :: parts, vals, cs, vs, hp, hs, h => by
    cases vals with
    | nil => simp at hp
    | cons q vals =>
      obtain ⟨e1, hv⟩ := hp.2 0 _ _ rfl rfl
      obtain ⟨j, u⟩ := q
      simp only at e1 hv
      subst e1
      cases hv with
      | one hv =>
      simp only [fillK] at h
      split at h
      · rename_i off size hpl
        split at h
        · rename_i hb
          simp only [Bool.and_eq_true, beq_iff_eq] at hb
          obtain ⟨⟨h1, h2⟩, h3⟩ := hb
          have h2 := Nat.le_of_ble_eq_true h2
          have hc := av1Cells_ok hv h3
          have hsz : cs.length = vs.size := by simpa using hs.1
          have hcs : (av1Cells v).length = u.cells.size := by simpa using hc.1
          obtain ⟨cs', vs', k1, k2, k3⟩ := fillK_ok (parts := parts) (vals := vals) ⟨by simpa using hp.1, fun i p q hp' hq => hp.2 (i + 1) p q hp' hq⟩ (setCells_ok hc hs (by omega)) h
          refine ⟨cs', vs', k1, ?_, k3⟩
          have hnot : ¬ (u.cells.size ≠ size ∨ off + u.cells.size > vs.size) := by
            rintro (h | h) <;> omega
          simp only [Instr.fill, hpl]
          rw [if_neg (by simpa using hnot), ← k2]
          congr 1
          rw [← Array.foldl_toList]
          simp
        · cases h
      · cases h

end

end Go.Proofs.Ytmenplonaapliaa.AE
end
section
set_option linter.unusedSectionVars false
set_option linter.unusedVariables false
set_option linter.unusedSimpArgs false
namespace Go.Proofs.Ytmenplonaapliaa.AE
open Go Go.RowKit

/-- What an operation gives, in every world like this one. -/
def Gives (P : Program) (o : Oper) (a : Act) (O : Own) (w : World) (ρ : List RB) (S : World → Prop) {R : Type} (k : AV → Option R) (r : R) : Prop :=
  ∃ av v, k av = some r ∧ AVR O w ρ av v ∧ ∀ w', S w' → (execOp a.eval o).run P w' = .ok (.value v) w'

section
variable {P : Program} {R : Type} [DecidableEq R] {r : R} {O : Own} {w : World} {ρ : List RB} {a : Act} {o : Oper} {st : St} {k : AV → Option R} {S : World → Prop}

theorem AVR.val_eq {u v : Value} (h : AVR O w ρ (.one (.sc (.val u))) v) : v = u := by
  cases h with
  | one h => exact h.val_eq

theorem AVR.sc_of {c : Sc} {v : Value} (h : AVR O w ρ (.one (.sc c)) v) : ScR O w ρ c v := by
  cases h with
  | one h => cases h with | sc h => exact h

omit [DecidableEq R] in
theorem intK_ok {x : AV} {v : Value} {k : IntKind → Int → Option R} (hx : AVR O w ρ x v) (h : intK x k = some r) : ∃ i n, v = .int i n ∧ k i n = some r := by
  unfold intK at h
  split at h
  · exact ⟨_, _, hx.val_eq, h⟩
  · cases h

theorem give_move (henv : EnvR O w ρ st.env a) (x : Operand) (ho : o.op = .move x) (h : k (st.opd x) = some r) : Gives P o a O w ρ S k r :=
  ⟨_, _, h, opd_ok henv x, fun w' _ => by unfold execOp; rw [ho]; rfl⟩

theorem give_assign (henv : EnvR O w ρ st.env a) (x : Operand) (ho : o.op = .assign x) (h : k (st.opd x) = some r) : Gives P o a O w ρ S k r :=
  ⟨_, _, h, opd_ok henv x, fun w' _ => by unfold execOp; rw [ho]; rfl⟩

theorem give_pick (henv : EnvR O w ρ st.env a) {c x y : Operand} (ho : o.op = .pick c x y) {t : Bool} (hc : st.opd c = .one (.sc (.val (.bool t)))) (h : cond t (k (st.opd x)) (k (st.opd y)) = some r) : Gives P o a O w ρ S k r := by
  have e := (hc ▸ opd_ok henv c : AVR O w ρ _ _).val_eq
  cases t with
  | true => exact ⟨_, _, h, opd_ok henv x, fun w' _ => by unfold execOp; rw [ho]; simp [e, asBool]⟩
  | false => exact ⟨_, _, h, opd_ok henv y, fun w' _ => by unfold execOp; rw [ho]; simp [e, asBool]⟩

theorem give_field (henv : EnvR O w ρ st.env a) {t f : Nat} {x : Operand} (ho : o.op = .field t x f) {cs : List Sc} (hx : st.opd x = .one (.agg cs)) {fs : Array Field} (hu : P.underlying t = some (.struct fs)) {fd : Field} (hf : fs[f]? = some fd)
    (h : partK P fd.type cs fd.offset k = some r) : Gives P o a O w ρ S k r := by
  have e := (hx ▸ opd_ok henv x : AVR O w ρ _ _)
  generalize hv : a.eval x = v at e
  cases e with
  | one e => cases e with
    | agg e =>
      obtain ⟨av, u, h1, h2, h3⟩ := partK_ok (P := P) e h
      refine ⟨av, u, h1, h2, fun w' _ => ?_⟩
      unfold execOp; rw [ho]
      simp [Instr.field, run_und hu, hf, hv, asAgg, h3]

theorem zeroCells_ok {t : TypeId} {cs : List Sc} (h : zeroCells P t = some cs) : ∃ z, (∀ w, (zeroValue t).run P w = .ok z w) ∧ ScsR O w ρ cs z.cells.toList := by
  unfold zeroCells at h
  split at h
  · rename_i i hi
    split at h
    · rename_i v hv
      cases h
      refine ⟨v, fun w => by simp [zeroValue, typeInfo, program, hi, hv, Sem.run], by simp, fun j c x hc hx => ?_⟩
      rw [List.getElem?_map, hx] at hc
      cases hc
      exact .val _
    · cases h
  · cases h

theorem parts_ok (henv : EnvR O w ρ st.env a) (parts : Array (Nat × Operand)) : (parts.toList.map fun p => (p.1, st.opd p.2)).length = (parts.map fun (p : Nat × Operand) => (p.1, a.eval p.2)).toList.length ∧
    ∀ (i : Nat) p q, (parts.toList.map fun p => (p.1, st.opd p.2))[i]? = some p → (parts.map fun (p : Nat × Operand) => (p.1, a.eval p.2)).toList[i]? = some q → p.1 = q.1 ∧ AVR O w ρ p.2 q.2 := by
  refine ⟨by simp, fun i p q hp hq => ?_⟩
  rw [Array.toList_map] at hq
  rw [List.getElem?_map] at hp hq
  cases he : parts.toList[i]? with
  | none => rw [he] at hp; cases hp
  | some y =>
    rw [he] at hp hq
    cases hp; cases hq
    exact ⟨rfl, opd_ok henv y.2⟩

theorem give_build_struct (henv : EnvR O w ρ st.env a) {t : TypeId} {parts : Array (Nat × Operand)} (ho : o.op = .build t parts) {zero : List Sc} (hz : zeroCells P t = some zero) {fs : Array Field} (hu : P.underlying t = some (.struct fs))
    {places : Array (Nat × Nat)} (hp : runPure P (fs.mapM fun f => do pure (f.offset, ← sizeOf f.type)) = some places)
    (h : fillK (places[·]?) (parts.toList.map fun p => (p.1, st.opd p.2)) zero (fun cs => k (.one (.agg cs))) = some r) : Gives P o a O w ρ S k r := by
  obtain ⟨z, hz1, hz2⟩ := zeroCells_ok (O := O) (w := w) (ρ := ρ) hz
  obtain ⟨cs', vs', k1, k2, k3⟩ := fillK_ok (parts_ok henv parts) hz2 h
  refine ⟨_, .agg vs', k1, .one (.agg k3), fun w' _ => ?_⟩
  unfold execOp; rw [ho]
  have := runPure_ok hp w'
  simp only [Instr.build, Sem.run_bind, hz1, Result.andThen_ok, run_und hu, this, k2, Sem.run_pure]

theorem give_build_array (henv : EnvR O w ρ st.env a) {t : TypeId} {parts : Array (Nat × Operand)} (ho : o.op = .build t parts) {zero : List Sc} (hz : zeroCells P t = some zero) {n : Nat} {e : TypeId} (hu : P.underlying t = some (.array n e))
    {size : Nat} (hs : sizeT P e = some size)
    (h : fillK (fun i => some (i * size, size)) (parts.toList.map fun p => (p.1, st.opd p.2)) zero (fun cs => k (.one (.agg cs))) = some r) : Gives P o a O w ρ S k r := by
  obtain ⟨z, hz1, hz2⟩ := zeroCells_ok (O := O) (w := w) (ρ := ρ) hz
  obtain ⟨cs', vs', k1, k2, k3⟩ := fillK_ok (parts_ok henv parts) hz2 h
  refine ⟨_, .agg vs', k1, .one (.agg k3), fun w' _ => ?_⟩
  unfold execOp; rw [ho]
  simp only [Instr.build, Sem.run_bind, hz1, Result.andThen_ok, run_und hu, run_sizeT hs, k2, Sem.run_pure]

theorem give_extract (henv : EnvR O w ρ st.env a) {x : Operand} {i : Nat} (ho : o.op = .extract x i) {xs : List AV1} (hx : st.opd x = .tup xs) {v : AV1} (hv : getAt xs i = some v) (h : k (.one v) = some r) : Gives P o a O w ρ S k r := by
  have e := (hx ▸ opd_ok henv x : AVR O w ρ _ _)
  generalize hu : a.eval x = u at e
  cases e with
  | @tup _ vs e =>
    rw [getAt_eq] at hv
    have hlt : i < vs.size := by have := get_lt hv; have := e.1; simp at this; omega
    refine ⟨_, vs[i], h, .one (e.2 i v _ hv (by simp [hlt])), fun w' _ => ?_⟩
    unfold execOp; rw [ho]
    simp [Instr.extract, hu, hlt]

theorem give_binOp (henv : EnvR O w ρ st.env a) {op : BinOp} {t u : TypeId} {x y : Operand} (ho : o.op = .binOp op t x y u) {p q : AV1} (hx : st.opd x = .one p) (hy : st.opd y = .one q)
    (h : binK P op t x y p q (fun v => k (.one (.sc (.val v)))) = some r) : Gives P o a O w ρ S k r := by
  have e1 := (hx ▸ opd_ok henv x : AVR O w ρ _ _)
  have e2 := (hy ▸ opd_ok henv y : AVR O w ρ _ _)
  cases e1 with
  | one e1 => cases e2 with
    | one e2 =>
      obtain ⟨z, h1, h2⟩ := binK_ok (P := P) e1 e2 h
      refine ⟨_, z, h1, .one (.sc (.val _)), fun w' _ => ?_⟩
      unfold execOp; rw [ho]
      have := h2 w'
      simp only [Sem.run_bind] at this ⊢
      rw [this]
      rfl

theorem give_unOp (henv : EnvR O w ρ st.env a) {op : UnOp} {t : TypeId} {x : Operand} (ho : o.op = .unOp op t x) {v z : Value} (hx : st.opd x = .one (.sc (.val v))) (hz : runPure P (Op.unary op v) = some z) (h : k (.one (.sc (.val z))) = some r) : Gives P o a O w ρ S k r := by
  have e := (hx ▸ opd_ok henv x : AVR O w ρ _ _).val_eq
  refine ⟨_, z, h, .one (.sc (.val _)), fun w' _ => ?_⟩
  unfold execOp; rw [ho]
  simp [e, runPure_ok hz w']

theorem give_makeInterface (henv : EnvR O w ρ st.env a) {t : TypeId} {x : Operand} (ho : o.op = .makeInterface t x) {v : Value} (hx : st.opd x = .one (.sc (.val v))) {d : TypeDesc} (hu : P.underlying t = some d) (hd : ∀ ms, d ≠ .interface ms) (h : k (.one (.sc (.val (.iface t v)))) = some r) : Gives P o a O w ρ S k r := by
  have e := (hx ▸ opd_ok henv x : AVR O w ρ _ _).val_eq
  refine ⟨_, _, h, .one (.sc (.val _)), fun w' _ => ?_⟩
  unfold execOp; rw [ho]
  cases d <;> first | exact absurd rfl (hd _) | simp [Instr.makeInterface, run_und hu, e]

theorem give_nilCheck (henv : EnvR O w ρ st.env a) {x : Operand} (ho : o.op = .nilCheck x) {c : Sc} (hx : st.opd x = .one (.sc c)) (hc : (isRef c || isFn c) = true) (h : k (.one (.sc c)) = some r) : Gives P o a O w ρ S k r := by
  have e := (hx ▸ opd_ok henv x : AVR O w ρ _ _).sc_of
  refine ⟨_, a.eval x, h, .one (.sc e), fun w' _ => ?_⟩
  unfold execOp; rw [ho]
  simp only
  generalize a.eval x = v at e ⊢
  cases e <;> first | (simp [isRef, isFn] at hc; done) | rfl

theorem add_addr (b off n : Nat) : (⟨b, off, none⟩ : Addr).add n = ⟨b, off + n, none⟩ := by
  unfold Addr.add
  split
  · rename_i h; subst h; rfl
  · rfl

theorem give_fieldAddr (henv : EnvR O w ρ st.env a) {t f : Nat} {x : Operand} (ho : o.op = .fieldAddr t x f) {fs : Array Field} (hu : P.underlying t = some (.struct fs)) {fd : Field} (hf : fs[f]? = some fd) {n : Nat} (hn : sizeT P fd.type = some (n + 1))
    {c : Sc} (hx : st.opd x = .one (.sc c)) {c' : Sc} (hc : ∀ v, ScR O w ρ c v → ∃ b off, v = .pointer (some ⟨b, off, none⟩) ∧ ScR O w ρ c' (.pointer (some ⟨b, off + fd.offset, none⟩))) (h : k (.one (.sc c')) = some r) : Gives P o a O w ρ S k r := by
  have e := (hx ▸ opd_ok henv x : AVR O w ρ _ _).sc_of
  obtain ⟨b, off, hv, hc'⟩ := hc _ e
  refine ⟨_, _, h, .one (.sc hc'), fun w' _ => ?_⟩
  unfold execOp; rw [ho]
  simp [Instr.fieldAt, run_und hu, hf, hv, Instr.sureAddr, fieldPlace, run_sizeT hn, add_addr]

theorem give_convert_int (henv : EnvR O w ρ st.env a) {s d : TypeId} {x : Operand} (ho : o.op = .convert s d x) {i j : IntKind} {n : Int} (hx : st.opd x = .one (.sc (.val (.int i n)))) (hs : ∃ e, P.underlying s = some e) (hd : P.underlying d = some (.int j))
    (h : k (.one (.sc (.val (.int j (j.wrap n))))) = some r) : Gives P o a O w ρ S k r := by
  have e := (hx ▸ opd_ok henv x : AVR O w ρ _ _).val_eq
  obtain ⟨es, hs⟩ := hs
  refine ⟨_, _, h, .one (.sc (.val _)), fun w' _ => ?_⟩
  unfold execOp; rw [ho]
  simp only [convert, Sem.run_bind, run_und hs, run_und hd, Result.andThen_ok, e]
  simp [Conv.intToInt]

theorem give_convert_str (henv : EnvR O w ρ st.env a) {s d : TypeId} {x : Operand} (ho : o.op = .convert s d x) {u : ByteArray} (hx : st.opd x = .one (.sc (.val (.string u)))) (hs : P.underlying s = some .string) (hd : P.underlying d = some .string)
    (h : k (.one (.sc (.val (.string u)))) = some r) : Gives P o a O w ρ S k r := by
  have e := (hx ▸ opd_ok henv x : AVR O w ρ _ _).val_eq
  refine ⟨_, _, h, .one (.sc (.val _)), fun w' _ => ?_⟩
  unfold execOp; rw [ho]
  simp only [convert, Sem.run_bind, run_und hs, run_und hd, Result.andThen_ok, e]
  rfl

end

end Go.Proofs.Ytmenplonaapliaa.AE
end
section
set_option linter.unusedSectionVars false
set_option linter.unusedVariables false
set_option linter.unusedSimpArgs false
namespace Go.Proofs.Ytmenplonaapliaa.AE
open Go Go.RowKit
variable {W₀ : World}

section
variable {P : Program} {R : Type} [DecidableEq R] {r : R} {X : XO W₀} {O : Own} {w : World} {ρ : List RB} {a : Act} {o : Oper} {st : St} {k : AV → Option R} {S : World → Prop}

theorem cell_at {w : World} {b i : Nat} {vs : Array Value} {T : TypeId} {fr : Nat × Nat} (h : w.heap[b]? = some (.cells vs T fr)) : w.cell? ⟨b, i, none⟩ = vs[i]? := by
  simp [World.cell?, h]

omit [DecidableEq R] in
/-- A load of a part of known cells. -/
theorem load_part {t : TypeId} {cs : List Sc} {off b base : Nat} {vs : Array Value} {T : TypeId} {fr : Nat × Nat}
    (hcs : ∀ (i : Nat) c, cs[i]? = some c → ∃ v, vs[base + i]? = some v ∧ ScR O w ρ c v) (hS : ∀ w', S w' → w'.heap[b]? = some (.cells vs T fr)) (h : partK P t cs off k = some r) :
    ∃ av v, k av = some r ∧ AVR O w ρ av v ∧ ∀ w', S w' → (loadVar t ⟨b, base + off, none⟩).run P w' = .ok v w' := by
  unfold partK at h
  have agg : ∀ {n : Nat} {d : TypeDesc}, P.underlying t = some d → (match d with | .struct _ | .array _ _ => true | _ => false) = true → sizeT P t = some n → guardK (Nat.ble (off + n) cs.length) (k (.one (.agg ((cs.drop off).take n)))) = some r →
      ∃ av v, k av = some r ∧ AVR O w ρ av v ∧ ∀ w', S w' → (loadVar t ⟨b, base + off, none⟩).run P w' = .ok v w' := by
    intro n d hu hd hn h
    obtain ⟨hb, h⟩ := guardK_ok h
    have hb := Nat.le_of_ble_eq_true hb
    have hall : ∀ j, j < n → ∃ v, vs[base + off + j]? = some v := fun j hj => by
      obtain ⟨v, h1, _⟩ := hcs (off + j) _ (List.getElem?_eq_getElem (by omega))
      exact ⟨v, by rw [Nat.add_assoc]; exact h1⟩
    let us : List Value := (List.range n).map fun j => (vs[base + off + j]?).getD undef
    have hus : us.length = n := by simp [us]
    have hget : ∀ j v, us[j]? = some v → vs[base + off + j]? = some v := fun j v hv => by
      have hj : j < n := by have := get_lt hv; omega
      obtain ⟨u, hu'⟩ := hall j hj
      simp [us, hj, hu'] at hv
      rw [hu', hv]
    refine ⟨_, .agg us.toArray, h, .one (.agg ⟨by simp [hus]; omega, fun i c v hc hv => ?_⟩), fun w' hw => ?_⟩
    · have hi : i < n := by have := get_lt hc; simp at this; omega
      rw [List.getElem?_take, if_pos hi, List.getElem?_drop] at hc
      obtain ⟨u, h1, h2⟩ := hcs (off + i) c hc
      have := hget i v (by simpa using hv)
      rw [Nat.add_assoc] at this
      rw [this] at h1; cases h1
      exact h2
    · have hl := run_loadCells_list (P := P) w' ⟨b, base + off, none⟩ us (fun j v hv => by rw [add_addr, cell_at (hS w' hw)]; exact hget j v hv)
      rw [hus] at hl
      cases d <;> simp at hd <;> simp [loadVar, isAgg, run_und hu, run_sizeT hn, hl]
  have one : ∀ {d : TypeDesc}, P.underlying t = some d → (match d with | .struct _ | .array _ _ => true | _ => false) = false → (match getAt cs off with | some c => k (.one (.sc c)) | none => none) = some r →
      ∃ av v, k av = some r ∧ AVR O w ρ av v ∧ ∀ w', S w' → (loadVar t ⟨b, base + off, none⟩).run P w' = .ok v w' := by
    intro d hu hd h
    rw [getAt_eq] at h
    split at h
    · rename_i c hc
      obtain ⟨v, h1, h2⟩ := hcs off c hc
      refine ⟨_, v, h, .one (.sc h2), fun w' hw => ?_⟩
      have hl : (load ⟨b, base + off, none⟩).run P w' = .ok v w' := by rw [run_load, cell_at (hS w' hw), h1]
      cases d <;> simp at hd <;> simp only [loadVar, isAgg, Sem.run_bind, run_und hu, Result.andThen_ok, Sem.run_pure, Bool.false_eq_true, if_false, hl]
    · cases h
  cases hu : P.underlying t with
  | none => simp only [hu] at h; cases h
  | some d => cases hn : sizeT P t with
    | none => cases d <;> simp only [hu, hn] at h <;> first | (cases h; done) | exact one hu rfl h
    | some n => cases d <;> simp only [hu, hn] at h <;> first | exact agg hu rfl hn h | exact one hu rfl h

theorem give_load (henv : EnvR O w ρ st.env a) {t : TypeId} {x : Operand} (ho : o.op = .load t x) {b base off : Nat} (hx : a.eval x = .pointer (some ⟨b, base + off, none⟩)) {cs : List Sc} {vs : Array Value} {T : TypeId} {fr : Nat × Nat}
    (hcs : ∀ (i : Nat) c, cs[i]? = some c → ∃ v, vs[base + i]? = some v ∧ ScR O w ρ c v) (hS : ∀ w', S w' → w'.heap[b]? = some (.cells vs T fr)) (h : partK P t cs off k = some r) : Gives P o a O w ρ S k r := by
  obtain ⟨av, v, h1, h2, h3⟩ := load_part hcs hS h
  refine ⟨av, v, h1, h2, fun w' hw => ?_⟩
  unfold execOp; rw [ho]
  simp [Instr.loadAt, hx, Instr.sureAddr, h3 w' hw]

/-- What a row's element reads as. -/
theorem elem_cells {b cap : Nat} {e : Sh} {l : List (den e)} {own : Bool} {i : Nat} (h : RowR O w (some b) cap e l own) (hi : i < l.length) :
    ∃ vs T fr, w.heap[b]? = some (.cells vs T fr) ∧ ∀ (j : Nat) c, (inj e (l.getD i (dflt e)))[j]? = some c → ∃ v, vs[i * e.size + j]? = some v ∧ ScR O w ρ c v := by
  obtain ⟨h0, vs, T, fr, h1, h2, h3, h4⟩ := h
  have hx : l[i]? = some (l.getD i (dflt e)) := by rw [List.getD_eq_getElem?_getD, List.getElem?_eq_getElem hi]; rfl
  exact ⟨vs, T, fr, h1, fun j c hc => inj_ok (h4 i _ hx) j c hc⟩

theorem give_indexAddr (henv : EnvR O w ρ st.env a) {t : TypeId} {x i : Operand} (ho : o.op = .indexAddr t x i) {et sz : Nat} (hu : P.underlying t = some (.slice et)) (hs : sizeT P et = some sz)
    {ki : IntKind} {n : Int} (hi : a.eval i = .int ki n) {b off len cap : Nat} (hx : a.eval x = .slice (some ⟨b, off, none⟩) len cap) (h0 : 0 ≤ n) (h1 : n < len) {c : Sc} (hc : ScR O w ρ c (.pointer (some ⟨b, off + n.toNat * sz, none⟩)))
    (h : k (.one (.sc c)) = some r) : Gives P o a O w ρ S k r := by
  refine ⟨_, _, h, .one (.sc hc), fun w' _ => ?_⟩
  unfold execOp; rw [ho]
  simp [Instr.indexAt, hi, hx, asIntOf, run_und hu, run_sizeT hs, h0, h1, add_addr]

theorem give_indexAddr_array (henv : EnvR O w ρ st.env a) {t : TypeId} {x i : Operand} (ho : o.op = .indexAddr t x i) {et sz len : Nat} (hu : P.underlying t = some (.array len et)) (hs : sizeT P et = some sz)
    {ki : IntKind} {n : Int} (hi : a.eval i = .int ki n) {b off : Nat} (hx : a.eval x = .pointer (some ⟨b, off, none⟩)) (h0 : 0 ≤ n) (h1 : n < len) {c : Sc} (hc : ScR O w ρ c (.pointer (some ⟨b, off + n.toNat * sz, none⟩)))
    (h : k (.one (.sc c)) = some r) : Gives P o a O w ρ S k r := by
  refine ⟨_, _, h, .one (.sc hc), fun w' _ => ?_⟩
  unfold execOp; rw [ho]
  simp [Instr.indexAt, hi, hx, asIntOf, Instr.sureAddr, run_und hu, run_sizeT hs, h0, h1, add_addr]

theorem byte_get (s : ByteArray) (n : Nat) (h : n < s.size) : ∃ b, s[n]? = some b ∧ (b.toNat : Int) = ((s.data.toList.getD n 0).toNat : Int) := by
  refine ⟨s[n], by simp [h], ?_⟩
  have : n < s.data.size := h
  congr 2
  rw [List.getD_eq_getElem?_getD, Array.getElem?_toList, Array.getElem?_eq_getElem this]
  rfl

theorem give_index_str (henv : EnvR O w ρ st.env a) {t : TypeId} {x i : Operand} (ho : o.op = .index t x i) (hu : P.underlying t = some .string)
    {ki : IntKind} {n : Int} (hi : a.eval i = .int ki n) {s : ByteArray} (hx : a.eval x = .string s) (h0 : 0 ≤ n) (h1 : n < s.size)
    (h : k (.one (.sc (.val (.int .u8 (byteAt s n))))) = some r) : Gives P o a O w ρ S k r := by
  refine ⟨_, _, h, .one (.sc (.val _)), fun w' _ => ?_⟩
  unfold execOp; rw [ho]
  obtain ⟨b, hb, he⟩ := byte_get s n.toNat (by omega)
  simp [Instr.index, hi, hx, asIntOf, run_und hu, h0, hb, byteAt]
  simpa using he

omit [DecidableEq R] in
theorem pickK_ok {e : TypeId} {cs : List Sc} {sz : Nat} {n : Int} : ∀ {m j : Nat}, pOp.pickK P e cs sz n j m k = some r → ∃ i : Nat, n = i ∧ j ≤ i ∧ i < j + m ∧ partK P e cs (i * sz) k = some r
  | 0, j, h => by simp [pOp.pickK] at h
  | m + 1, j, h => by
    simp only [pOp.pickK] at h
    cases hb : n == (j : Int) with
    | true => rw [hb] at h; exact ⟨j, by simpa using hb, Nat.le_refl _, by omega, h⟩
    | false =>
      rw [hb] at h
      obtain ⟨i, h1, h2, h3, h4⟩ := pickK_ok h
      exact ⟨i, h1, by omega, by omega, h4⟩

theorem give_index_array (henv : EnvR O w ρ st.env a) {t : TypeId} {x i : Operand} (ho : o.op = .index t x i) {len et sz : Nat} (hu : P.underlying t = some (.array len et)) (hs : sizeT P et = some sz)
    {ki : IntKind} {n : Int} (hi : a.eval i = .int ki n) {cs : List Sc} (hx : st.opd x = .one (.agg cs)) (h : pOp.pickK P et cs sz n 0 len k = some r) : Gives P o a O w ρ S k r := by
  have e := (hx ▸ opd_ok henv x : AVR O w ρ _ _)
  generalize hv : a.eval x = v at e
  cases e with
  | one e => cases e with
    | agg e =>
      obtain ⟨j, rfl, _, hj, hp⟩ := pickK_ok h
      obtain ⟨av, u, h1, h2, h3⟩ := partK_ok (P := P) e hp
      refine ⟨av, u, h1, h2, fun w' _ => ?_⟩
      unfold execOp; rw [ho]
      have : j < len := by omega
      simp [Instr.index, hi, hv, asIntOf, run_und hu, run_sizeT hs, this, h3]

theorem give_len (henv : EnvR O w ρ st.env a) {x : Operand} {ts : Array TypeId} (ho : o.op = .call { callee := .builtin .len, args := #[x], argTypes := ts }) {t : TypeId} (ht : ts[0]? = some t) {d : TypeDesc} (hu : P.underlying t = some d)
    {n : Nat} (hx : (d = .string ∧ ∃ s, a.eval x = .string s ∧ s.size = n) ∨ (∃ e A c, d = .slice e ∧ a.eval x = .slice A n c)) (h : k (.one (.sc (.val (.int .i64 n)))) = some r) : Gives P o a O w ρ S k r := by
  refine ⟨_, _, h, .one (.sc (.val _)), fun w' _ => ?_⟩
  unfold execOp; rw [ho]
  rcases hx with ⟨rfl, s, hx, rfl⟩ | ⟨e, A, c, rfl, hx⟩ <;>
    simp [resolve, invoke, builtin, Builtin.len_, hx, ht, run_und hu, goInt]

theorem give_min (henv : EnvR O w ρ st.env a) {x y : Operand} {ts : Array TypeId} (ho : o.op = .call { callee := .builtin .min, args := #[x, y], argTypes := ts }) {i j : IntKind} {p q : Int} (hx : a.eval x = .int i p) (hy : a.eval y = .int j q)
    (h : k (.one (.sc (.val (.int i (if q < p then q else p))))) = some r) : Gives P o a O w ρ S k r := by
  refine ⟨_, _, h, .one (.sc (.val _)), fun w' _ => ?_⟩
  unfold execOp; rw [ho]
  simp [resolve, invoke, builtin, Builtin.min_, Builtin.min2, hx, hy]

theorem give_max (henv : EnvR O w ρ st.env a) {x y : Operand} {ts : Array TypeId} (ho : o.op = .call { callee := .builtin .max, args := #[x, y], argTypes := ts }) {i j : IntKind} {p q : Int} (hx : a.eval x = .int i p) (hy : a.eval y = .int j q)
    (h : k (.one (.sc (.val (.int i (if p < q then q else p))))) = some r) : Gives P o a O w ρ S k r := by
  refine ⟨_, _, h, .one (.sc (.val _)), fun w' _ => ?_⟩
  unfold execOp; rw [ho]
  simp [resolve, invoke, builtin, Builtin.max_, Builtin.max2, hx, hy]

/-- A bound of a slice expression. -/
def Bnd (a : Act) (x : Option Operand) (d n : Int) : Prop := (x = none ∧ n = d) ∨ ∃ y i, x = some y ∧ a.eval y = .int i n

theorem boundK_ok (henv : EnvR O w ρ st.env a) {x : Option Operand} {d : Int} {k : Int → Option R} (h : boundK (x.map st.opd) d k = some r) : ∃ n, Bnd a x d n ∧ k n = some r := by
  cases x with
  | none => exact ⟨d, .inl ⟨rfl, rfl⟩, h⟩
  | some y =>
    obtain ⟨i, n, hv, h⟩ := intK_ok (opd_ok henv y) h
    exact ⟨n, .inr ⟨y, i, rfl, hv⟩, h⟩

theorem run_sliceBound {i : IntKind} {n : Int} {y : Nat} {c : BoundsCode} (h0 : 0 ≤ n) (h1 : n ≤ y) (w : World) : (Instr.sliceBound (.int i n) y c).run P w = .ok n.toNat w := by
  simp [Instr.sliceBound, asIntOf, h0, h1]

theorem run_sliceBounds {sl : Bool} {len cap : Nat} {lo hi : Option Operand} {l h : Int} (hl : Bnd a lo 0 l) (hh : Bnd a hi len h) (h0 : 0 ≤ l) (h1 : l ≤ h) (h2 : h ≤ cap) (w : World) :
    (Instr.sliceBounds sl len cap (lo.map a.eval) (hi.map a.eval) none).run P w = .ok (l.toNat, h.toNat, cap) w := by
  have e : (h.toNat : Int) = h := Int.toNat_of_nonneg (by omega)
  rcases hl with ⟨rfl, rfl⟩ | ⟨y, i, rfl, hy⟩ <;> rcases hh with ⟨rfl, rfl⟩ | ⟨z, j, rfl, hz⟩
  · simp [Instr.sliceBounds]
  · simp only [Instr.sliceBounds, Option.map_some, Option.map_none, hz]
    simp only [Sem.run_bind, Sem.run_pure, Result.andThen_ok]
    split <;> simp [run_sliceBound (P := P) (by omega : 0 ≤ h) h2]
  · simp only [Instr.sliceBounds, Option.map_some, Option.map_none, hy]
    simp only [Sem.run_bind, Sem.run_pure, Result.andThen_ok]
    simp [run_sliceBound (P := P) h0 h1]
  · simp only [Instr.sliceBounds, Option.map_some, Option.map_none, hy, hz]
    simp only [Sem.run_bind, Sem.run_pure, Result.andThen_ok]
    have := run_sliceBound (P := P) (i := i) (n := l) (y := h.toNat) (c := .sliceB) h0 (by omega) w
    split <;> simp [run_sliceBound (P := P) (by omega : 0 ≤ h) h2, this]

theorem give_slice_str (henv : EnvR O w ρ st.env a) {t : TypeId} {x : Operand} {lo hi : Option Operand} (ho : o.op = .slice t x lo hi none) (hu : P.underlying t = some .string) {s : ByteArray} (hx : a.eval x = .string s) {l h : Int}
    (hl : Bnd a lo 0 l) (hh : Bnd a hi s.size h) (h0 : 0 ≤ l) (h1 : l ≤ h) (h2 : h ≤ s.size) (hk : k (.one (.sc (.val (.string (s.extract l.toNat h.toNat))))) = some r) : Gives P o a O w ρ S k r := by
  refine ⟨_, _, hk, .one (.sc (.val _)), fun w' _ => ?_⟩
  unfold execOp; rw [ho]
  simp [Instr.sliceAt, Instr.slice, run_und hu, hx, run_sliceBounds hl hh h0 h1 h2]

theorem give_slice_row (henv : EnvR O w ρ st.env a) {t : TypeId} {x : Operand} {lo hi : Option Operand} (ho : o.op = .slice t x lo hi none) {et sz : Nat} (hu : P.underlying t = some (.slice et)) (hs : sizeT P et = some sz) {A : Option Addr} {len cap : Nat} (hx : a.eval x = .slice A len cap) {l h : Int}
    (hl : Bnd a lo 0 l) (hh : Bnd a hi len h) (h0 : 0 ≤ l) (h1 : l ≤ h) (h2 : h ≤ cap) {c : Sc} (hc : ScR O w ρ c (.slice (if cap = l.toNat then A else A.map (·.add (l.toNat * sz))) (h.toNat - l.toNat) (cap - l.toNat))) (hk : k (.one (.sc c)) = some r) : Gives P o a O w ρ S k r := by
  refine ⟨_, _, hk, .one (.sc hc), fun w' _ => ?_⟩
  unfold execOp; rw [ho]
  simp [Instr.sliceAt, Instr.slice, run_und hu, run_sizeT hs, hx, run_sliceBounds hl hh h0 h1 h2]

theorem give_slice_array (henv : EnvR O w ρ st.env a) {t : TypeId} {x : Operand} {lo hi : Option Operand} (ho : o.op = .slice t x lo hi none) {n et sz : Nat} (hu : P.underlying t = some (.array n et)) (hs : sizeT P et = some sz) {A : Addr} (hx : a.eval x = .pointer (some A)) {l h : Int}
    (hl : Bnd a lo 0 l) (hh : Bnd a hi n h) (h0 : 0 ≤ l) (h1 : l ≤ h) (h2 : h ≤ n) {c : Sc} (hc : ScR O w ρ c (.slice (some (if n = l.toNat then A else A.add (l.toNat * sz))) (h.toNat - l.toNat) (n - l.toNat))) (hk : k (.one (.sc c)) = some r) : Gives P o a O w ρ S k r := by
  refine ⟨_, _, hk, .one (.sc hc), fun w' _ => ?_⟩
  unfold execOp; rw [ho]
  simp [Instr.sliceAt, Instr.sureAddr, run_und hu, run_sizeT hs, hx, run_sliceBounds hl hh h0 h1 h2]

/-! ### Maps -/

theorem ofVal1_ok : ∀ {s : Sh} {v : Value} {x : den s}, ofVal1 s v = some x → v = val1 s x
  | .int k, v, x, h => by cases v <;> simp [ofVal1] at h; obtain ⟨rfl, rfl⟩ := h; rfl
  | .bool, v, x, h => by cases v <;> simp [ofVal1] at h; subst h; rfl
  | .str, v, x, h => by cases v <;> simp [ofVal1] at h; subst h; rfl
  | .list _, v, x, h => by cases v <;> simp [ofVal1] at h
  | .prod _ _, v, x, h => by cases v <;> simp [ofVal1] at h

theorem keyOf_ok {s : Sh} {x : AV} {v : Value} {y : den s} (hx : AVR O w ρ x v) (h : keyOf s x = some y) : v = val1 s y := by
  unfold keyOf at h
  split at h
  · rw [hx.val_eq]; exact ofVal1_ok h
  · cases h

theorem keyT_ok {t : TypeId} {ks : Sh} (h : keyT P t ks = true) : ∃ d, P.underlying t = some d ∧ (∀ (e : Bool) (x : den ks) (n : Nat) (w : World), (Instr.checkKey e (n + 1) t (val1 ks x)).run P w = .ok () w) ∧ ∀ a b : den ks, Instr.sameNow d (val1 ks a) (val1 ks b) = some (keyB ks a b) := by
  unfold keyT at h
  split at h
  · rename_i k k' hu
    exact ⟨_, hu, fun e x n w => by simp [Instr.checkKey, run_und hu, val1], fun a b => by simp [Instr.sameNow, val1, keyB]⟩
  · rename_i hu
    exact ⟨_, hu, fun e x n w => by simp [Instr.checkKey, run_und hu, val1], fun a b => by simp [Instr.sameNow, val1, keyB, strEq, beq_toListBytes]⟩
  · cases h

theorem findNow_ok {ks vs : Sh} {d : TypeDesc} (hd : ∀ a b : den ks, Instr.sameNow d (val1 ks a) (val1 ks b) = some (keyB ks a b)) (key : den ks) : ∀ {ms : List MapEntry} {es : List (den ks × den vs)} (i : Nat), ms.map (fun e => (e.key, e.val)) = es.map (fun x => (val1 ks x.1, val1 vs x.2)) →
    (Instr.findNow d (val1 ks key) ms i = some none ∧ mget es key = none ∧ ∀ y, mput es key y = es ++ [(key, y)]) ∨
    (∃ j k0 y0, Instr.findNow d (val1 ks key) ms i = some (some (i + j, val1 vs y0)) ∧ mget es key = some y0 ∧ es[j]? = some (k0, y0) ∧ keyB ks key k0 = true ∧ ∀ y, mput es key y = es.set j (key, y))
  | [], [], i, _ => .inl ⟨rfl, rfl, fun _ => rfl⟩
  | [], _ :: _, i, h => by simp at h
  | _ :: _, [], i, h => by simp at h
  | m :: ms, e :: es, i, h => by
    simp only [List.map_cons, List.cons.injEq, Prod.mk.injEq] at h
    obtain ⟨⟨h1, h2⟩, h3⟩ := h
    simp only [Instr.findNow, mget, mput, h1, h2, hd]
    cases hk : keyB ks key e.1 with
    | true => exact .inr ⟨0, e.1, e.2, by simp, by simp, by simp, hk, fun y => by simp⟩
    | false =>
      rcases findNow_ok hd key (i + 1) h3 with ⟨a1, a2, a3⟩ | ⟨j, k0, y0, a1, a2, a3, a4, a5⟩
      · exact .inl ⟨a1, a2, fun y => by simp [a3]⟩
      · exact .inr ⟨j + 1, k0, y0, by simp only [a1]; congr 3; omega, a2, by simpa using a3, a4, fun y => by simp [a5]⟩

theorem run_findKey {t : TypeId} {d : TypeDesc} {k : Value} {ms : List MapEntry} {r : Option (Nat × Value)} (hu : P.underlying t = some d) (h : Instr.findNow d k ms 0 = some r) (w : World) : (Instr.findKey t k ms).run P w = .ok r w := by
  simp [Instr.findKey, run_und hu, h]

theorem zeroV_ok {t : TypeId} {v : Value} (h : zeroV P t = some v) (w : World) : (zeroValue t).run P w = .ok v w := by
  unfold zeroV at h
  split at h
  · rename_i i hi
    simp [zeroValue, typeInfo, program, hi, h, Sem.run]
  · cases h

theorem run_getMap {b clock : Nat} {ms : Array MapEntry} (h : w.heap[b]? = some (.map ms clock)) : (getObj b).run P w = .ok (.map ms clock) w := by
  simp [getObj, Sem.run, h]

theorem inj_val1 {vs : Sh} {x : den vs} {c : Sc} {v : Value} (h : inj vs x = [c]) (hv : v = val1 vs x) : ∀ (y : den vs) (z : Value), ofVal1 vs z = some y → c = .val (val1 vs x) := by
  intro y z hz
  cases vs with
  | int k => simp [inj] at h; exact h.symm
  | bool => simp [inj] at h; exact h.symm
  | str => simp [inj] at h; exact h.symm
  | list e => cases z <;> simp [ofVal1] at hz
  | prod a b => cases z <;> simp [ofVal1] at hz

theorem give_lookup (henv : EnvR O w ρ st.env a) {t : TypeId} {x i : Operand} {ok : Bool} (ho : o.op = .lookup t x i ok) {kt vt : TypeId} (hu : P.underlying t = some (.map kt vt)) {b clock : Nat} (hx : a.eval x = .map (some b))
    {ks vs : Sh} {es : List (den ks × den vs)} {ms : Array MapEntry} (he : ms.toList.map (fun e => (e.key, e.val)) = es.map fun x => (val1 ks x.1, val1 vs x.2)) (hS : ∀ w', S w' → w'.heap[b]? = some (.map ms clock))
    (hT : keyT P kt ks = true) {key : den ks} (hk : keyOf ks (st.opd i) = some key) {zv : Value} (hz : zeroV P vt = some zv) {z : den vs} (hzv : ofVal1 vs zv = some z) {c : Sc} (hc : inj vs ((mget es key).getD z) = [c])
    (h : cond ok (k (.tup [.sc c, .sc (.val (.bool (mget es key).isSome))])) (k (.one (.sc c))) = some r) : Gives P o a O w ρ S k r := by
  obtain ⟨d, hd, hck, hs⟩ := keyT_ok hT
  have hki := keyOf_ok (opd_ok henv i) hk
  have hcc := inj_val1 hc rfl _ _ hzv
  have hr : ∀ w', S w' → (Instr.lookup t (a.eval x) (a.eval i) ok).run P w' = .ok (if ok then .tuple #[val1 vs ((mget es key).getD z), .bool (mget es key).isSome] else val1 vs ((mget es key).getD z)) w' := by
    intro w' hw
    have hzr := zeroV_ok hz w'
    rw [ofVal1_ok hzv] at hzr
    have hck := hck ms.isEmpty key 9999 w'
    rcases findNow_ok hs key 0 he with ⟨a1, a2, a3⟩ | ⟨j, k0, y0, a1, a2, a3, a4, a5⟩
    · have hf := run_findKey hd a1 w'
      simp [Instr.lookup, run_und hu, hx, run_getMap (hS w' hw), hki, hck, hf, hzr, a2]
    · have hf := run_findKey hd a1 w'
      simp [Instr.lookup, run_und hu, hx, run_getMap (hS w' hw), hki, hck, hf, a2]
  cases ok with
  | true =>
    refine ⟨_, _, h, .tup (vs := #[val1 vs ((mget es key).getD z), .bool (mget es key).isSome]) ⟨rfl, fun i c' v hc' hv => ?_⟩, fun w' hw => ?_⟩
    · rcases i with _ | _ | i
      · simp at hc' hv; subst hc'; subst hv; rw [hcc]; exact .sc (.val _)
      · simp at hc' hv; subst hc'; subst hv; exact .sc (.val _)
      · simp at hc'
    · unfold execOp; rw [ho]; simp [hr w' hw]
  | false =>
    refine ⟨_, _, h, by rw [hcc]; exact .one (.sc (.val _)), fun w' hw => ?_⟩
    unfold execOp; rw [ho]; simp [hr w' hw]

theorem placeK_ok {n : Int} {k : Nat → Option R} : ∀ {m j : Nat}, pOp.placeK n j m k = some r → ∃ i : Nat, n = i ∧ j ≤ i ∧ i < j + m ∧ k i = some r
  | 0, j, h => by simp [pOp.placeK] at h
  | m + 1, j, h => by
    simp only [pOp.placeK] at h
    cases hn : n == (j : Int) with
    | true => rw [hn] at h; exact ⟨j, by simpa using hn, by omega, by omega, h⟩
    | false =>
      rw [hn] at h
      obtain ⟨i, h1, h2, h3, h4⟩ := placeK_ok h
      exact ⟨i, h1, by omega, by omega, h4⟩

end

end Go.Proofs.Ytmenplonaapliaa.AE
end
section
set_option linter.unusedSectionVars false
set_option linter.unusedVariables false
set_option linter.unusedSimpArgs false
namespace Go.Proofs.Ytmenplonaapliaa.AE
open Go Go.RowKit
variable {W₀ : World}

section
variable {P : Program} {R : Type} [DecidableEq R] {r : R} {X : XO W₀} {w : World} {ρ : List RB} {a : Act} {o : Oper} {st : St} {k : AV → Option R} {S : World → Prop} {ld : Nat → Bool}

theorem dand {p q : Prop} [Decidable p] [Decidable q] : (decide p && decide q) = true ↔ p ∧ q := by simp

theorem give_capsK {O : Own} (henv : EnvR O w ρ st.env a) {k : List Sc → Option R} : ∀ {xs : List Operand} {acc : List Sc} {vs : List Value}, ScsR O w ρ acc.reverse vs → pOp.capsK (xs.map st.opd) acc k = some r → ∃ cs, k cs = some r ∧ ScsR O w ρ cs (vs ++ xs.map a.eval)
  | [], acc, vs, hs, h => ⟨acc.reverse, by simpa [pOp.capsK] using h, by simpa using hs⟩
  | x :: xs, acc, vs, hs, h => by
    simp only [List.map_cons] at h
    have hx := opd_ok henv x
    cases hv : st.opd x with
    | tup y => rw [hv] at h; simp [pOp.capsK] at h
    | one y =>
      cases y with
      | agg y => rw [hv] at h; simp [pOp.capsK] at h
      | sc c =>
        rw [hv] at h hx
        simp only [pOp.capsK] at h
        obtain ⟨cs, h1, h2⟩ := give_capsK henv (acc := c :: acc) (vs := vs ++ [a.eval x]) (by
          rw [List.reverse_cons]
          refine ⟨by simpa using hs.1, fun i c' v' hc hv' => ?_⟩
          rcases Nat.lt_or_ge i acc.reverse.length with hi | hi
          · rw [List.getElem?_append_left hi] at hc
            rw [List.getElem?_append_left (hs.1 ▸ hi)] at hv'
            exact hs.2 i c' v' hc hv'
          · rw [List.getElem?_append_right hi] at hc
            rw [List.getElem?_append_right (hs.1 ▸ hi)] at hv'
            have : i - acc.reverse.length = 0 := by have := get_lt hc; simp at this; simpa using this
            rw [this] at hc
            rw [← hs.1, this] at hv'
            simp at hc hv'
            subst hc; subst hv'
            exact hx.sc_of) h
        exact ⟨cs, h1, by simpa using h2⟩

theorem lenSc_ok (m : Mem X w ρ st.blks) {c : Sc} {v : Value} (hc : ScR (OX X ρ st.blks) w ρ c v) {n : Nat} (h : pOp.lenSc st.blks c = some n) : ∃ A cap, v = .slice A n cap := by
  unfold pOp.lenSc at h
  split at h
  · cases h
    cases hc with
    | @list _ _ _ A cap hs hf => exact ⟨A, cap, rfl⟩
  · rename_i id vw
    unfold lenOwn at h
    split at h
    · cases h
      cases hc with
      | @view _ len cap sz lo hi c b A ho h1 h2 hA hcc => exact ⟨A, c, rfl⟩
    · rw [getAt_eq] at h
      cases hc with
      | @own _ len cap sz b A ho hA =>
        split at h
        · rename_i hk
          cases h
          have := m.blk id _ _ ho hk
          cases this with
          | elems hl hc h => exact ⟨A, cap, by rw [hl]⟩
        · rename_i hk
          cases h
          have := m.blk id _ _ ho hk
          cases this with
          | froz hl hc h => exact ⟨A, cap, by rw [hl]⟩
        · cases h
  · cases h
    cases hc with
    | val => exact ⟨none, 0, rfl⟩
  · cases h

theorem bytes_ok {O : Own} {w' : World} {A : Option Addr} {l : List Int} {cap : Nat} (h : SliceR O w' (.int .u8) l A cap) : (Conv.bytesToString (.slice A l.length cap)).run P w' = .ok (.string (bytesOf l)) w' := by
  rcases h.2 with h0 | ⟨b, off, us, T, fr, rfl, _, hh, hx⟩
  · subst h0
    cases A with
    | none => rfl
    | some x =>
      rw [run_bytesToString w' x _ cap [] (by simp [loadCells, loadCellsFrom])]
      rfl
  · have hl := run_loadCells_list (P := P) w' ⟨b, off, none⟩ (l.map (Value.int .u8)) (fun j v hv => by
      rw [add_addr, cell_at hh]
      rw [List.getElem?_map] at hv
      cases hj : l[j]? with
      | none => rw [hj] at hv; cases hv
      | some x =>
        rw [hj] at hv; cases hv
        have := hx j x hj
        simpa [Sh.size, CellsAt] using this)
    rw [List.length_map] at hl
    rw [run_bytesToString w' _ _ cap l hl, foldl_push_bytes]
    simp [bytesOf]

theorem run_convert_bytes {s d e : TypeId} {v : Value} {u : ByteArray} {w' : World} (hs : P.underlying s = some (.slice e)) (hd : P.underlying d = some .string) (he : P.underlying e = some (.int .u8)) (hv : ∃ A n c, v = .slice A n c)
    (h : (Conv.bytesToString v).run P w' = .ok (.string u) w') : (convert s d v).run P w' = .ok (.string u) w' := by
  obtain ⟨A, n, c, rfl⟩ := hv
  cases A <;> simp only [convert, Sem.run_bind, run_und hs, run_und hd, run_und he, Result.andThen_ok, h]

theorem Same.turn {O : Own} {w' : World} {σ : List Blk} (h : Same ld ρ σ O w w') : Turn O w O w' := ⟨fun _ _ h => h, h.size, h.free⟩

theorem opd_eq {O : Own} (henv : EnvR O w ρ st.env a) {x : Operand} {y : AV} (hx : st.opd x = y) : AVR O w ρ y (a.eval x) := hx ▸ opd_ok henv x

theorem addr_if {cap l b off sz : Nat} (h : cap = l → l = 0) : (if cap = l then (some ⟨b, off, none⟩ : Option Addr) else (some (⟨b, off, none⟩ : Addr)).map (·.add (l * sz))) = some ⟨b, off + l * sz, none⟩ := by
  split
  · rename_i e; rw [h e]; simp
  · simp [add_addr]

theorem slice_list {O : Own} {e : Sh} {l : List (den e)} {A : Option Addr} {cap p q : Nat} (h : SliceR O w e l A cap) (h1 : p ≤ q) (h2 : q ≤ l.length) : SliceR O w e ((l.take q).drop p) (if cap = p then A else A.map (·.add (p * e.size))) (cap - p) := by
  have hlen : ((l.take q).drop p).length = q - p := by simp; omega
  refine ⟨by have := h.1; omega, ?_⟩
  rcases Nat.lt_or_ge p q with hlt | hge
  · rcases h.2 with hnil | ⟨b, off, us, T, fr, rfl, hb, hh, hx⟩
    · subst hnil; simp at h2; omega
    · refine .inr ⟨b, off + p * e.size, us, T, fr, addr_if (fun hc => by have := h.1; omega), hb, hh, fun i x hi => ?_⟩
      have hi2 : l[p + i]? = some x := by
        rw [List.getElem?_drop, List.getElem?_take] at hi
        split at hi
        · exact hi
        · cases hi
      have := hx (p + i) x hi2
      rw [mul_add', ← Nat.add_assoc] at this
      exact this
  · exact .inl (List.length_eq_zero_iff.1 (by omega))

theorem run_sliceBounds3 {sl : Bool} {len cap : Nat} {lo : Option Operand} {x y : Operand} {i j : IntKind} {l h mx : Int} (hl : Bnd a lo 0 l) (hh : a.eval x = .int i h) (hm : a.eval y = .int j mx) (h0 : 0 ≤ l) (h1 : l ≤ h) (h2 : h ≤ mx) (h3 : mx ≤ cap) (w : World) :
    (Instr.sliceBounds sl len cap (lo.map a.eval) (some (a.eval x)) (some (a.eval y))).run P w = .ok (l.toNat, h.toNat, mx.toNat) w := by
  have hm' := fun c => run_sliceBound (P := P) (i := j) (n := mx) (y := cap) (c := c) (by omega) h3 w
  have hh' := run_sliceBound (P := P) (i := i) (n := h) (y := mx.toNat) (c := .slice3B) (by omega) (by omega) w
  rcases hl with ⟨rfl, rfl⟩ | ⟨z, ki, rfl, hz⟩
  · simp only [Instr.sliceBounds, Option.map_none, hh, hm, Sem.run_bind, hm', hh', Result.andThen_ok]
    simp
  · have hz' := run_sliceBound (P := P) (i := ki) (n := l) (y := h.toNat) (c := .slice3C) h0 (by omega) w
    simp only [Instr.sliceBounds, Option.map_some, hh, hm, hz, Sem.run_bind, hm', hh', Result.andThen_ok]
    simp [hz']

theorem give_slice3 {O : Own} (henv : EnvR O w ρ st.env a) {t : TypeId} {x y z : Operand} {lo : Option Operand} (ho : o.op = .slice t x lo (some y) (some z)) {et sz : Nat} (hu : P.underlying t = some (.slice et)) (hs : sizeT P et = some sz) {A : Option Addr} {len cap : Nat} (hx : a.eval x = .slice A len cap) {i j : IntKind} {l h mx : Int}
    (hl : Bnd a lo 0 l) (hh : a.eval y = .int i h) (hm : a.eval z = .int j mx) (h0 : 0 ≤ l) (h1 : l ≤ h) (h2 : h ≤ mx) (h3 : mx ≤ cap) {c : Sc} (hc : ScR O w ρ c (.slice (if mx.toNat = l.toNat then A else A.map (·.add (l.toNat * sz))) (h.toNat - l.toNat) (mx.toNat - l.toNat))) (hk : k (.one (.sc c)) = some r) : Gives P o a O w ρ S k r := by
  refine ⟨_, _, hk, .one (.sc hc), fun w' _ => ?_⟩
  unfold execOp; rw [ho]
  simp [Instr.sliceAt, Instr.slice, run_und hu, run_sizeT hs, hx, run_sliceBounds3 hl hh hm h0 h1 h2 h3]

theorem give_slice (m : Mem X w ρ st.blks) (henv : EnvR (OX X ρ st.blks) w ρ st.env a) {t : TypeId} {x : Operand} {lo hi mx : Option Operand} (ho : o.op = .slice t x lo hi mx)
    (h : pOp.sliceK P st t x lo hi mx (fun c => k (.one (.sc c))) = some r) : Gives P o a (OX X ρ st.blks) w ρ S k r := by
  unfold pOp.sliceK at h
  split at h
  · rename_i s hu hx
    split at h
    · obtain ⟨hh, b1, h⟩ := boundK_ok henv h
      obtain ⟨ll, b2, h⟩ := boundK_ok henv h
      obtain ⟨hg, h⟩ := guardK_ok h
      obtain ⟨hg, g3⟩ := (Bool.and_eq_true _ _).mp hg
      obtain ⟨g1, g2⟩ := dand.1 hg
      exact give_slice_str henv ho hu (opd_eq henv hx).val_eq b2 b1 g1 g2 (of_decide_eq_true g3) h
    · cases h
  · rename_i et e l full hu hx
    have hv := (opd_eq henv hx).sc_of
    generalize hvx : a.eval x = v at hv
    cases hv with
    | @list _ _ _ A cap hsl hf =>
      split at h
      · rename_i sz hs
        split at h
        · rename_i he
          have he : sz = e.size := by simpa using he
          obtain ⟨hh, b1, h⟩ := boundK_ok henv h
          obtain ⟨ll, b2, h⟩ := boundK_ok henv h
          obtain ⟨hg, h⟩ := guardK_ok h
          obtain ⟨hg, g3⟩ := (Bool.and_eq_true _ _).mp hg
          obtain ⟨g1, g2⟩ := dand.1 hg
          have g3 := of_decide_eq_true g3
          have hq : hh.toNat ≤ l.length := by omega
          have hlen : ((l.take hh.toNat).drop ll.toNat).length = hh.toNat - ll.toNat := by simp; omega
          refine give_slice_row henv ho hu hs hvx b2 b1 g1 g2 (by have := hsl.1; omega) ?_ h
          rw [← hlen, he]
          refine .list (slice_list hsl (by omega) hq) (fun hfull => ?_)
          rcases b1 with ⟨rfl, rfl⟩ | ⟨y, i, rfl, _⟩
          · have := hf hfull; rw [hlen]; omega
          · simp at hfull
        · cases h
      · rename_i sz z hs
        split at h
        · rename_i y he
          have he : sz = e.size := by simpa using he
          obtain ⟨i, mx, hm, h⟩ := intK_ok (opd_ok henv z) h
          obtain ⟨j, hh, hy, h⟩ := intK_ok (opd_ok henv y) h
          obtain ⟨ll, b2, h⟩ := boundK_ok henv h
          obtain ⟨hg, h⟩ := guardK_ok h
          obtain ⟨hg, g4⟩ := (Bool.and_eq_true _ _).mp hg
          obtain ⟨hg, g3⟩ := (Bool.and_eq_true _ _).mp hg
          obtain ⟨g1, g2⟩ := dand.1 hg
          have g3 := of_decide_eq_true g3
          have g4 := of_decide_eq_true g4
          have hlen : ((l.take hh.toNat).drop ll.toNat).length = hh.toNat - ll.toNat := by simp; omega
          refine give_slice3 henv ho hu hs hvx b2 hy hm g1 g2 g3 (by have := hsl.1; omega) ?_ h
          rw [← hlen, he]
          refine .list ?_ (fun hfull => by have : hh = mx := by simpa using hfull
                                           subst this; rw [hlen])
          have hcap := hsl.1
          refine ⟨by omega, ?_⟩
          rcases Nat.lt_or_ge ll.toNat hh.toNat with hlt | hge
          · have := (slice_list (p := ll.toNat) (q := hh.toNat) hsl (by omega) (by omega)).2
            rw [if_neg (by omega)] at this
            rw [if_neg (by omega)]
            exact this
          · exact .inl (List.length_eq_zero_iff.1 (by omega))
        · cases h
      · cases h
  · rename_i et id vw hu hx
    have hv := (opd_eq henv hx).sc_of
    generalize hvx : a.eval x = v at hv
    split at h
    · rename_i sz e l hs hk
      rw [getAt_eq] at hk
      obtain ⟨rb, hr⟩ := m.rho hk
      have hb := m.blk id rb _ hr hk
      split at h
      · rename_i he
        have he : sz = e.size := by simpa using he
        obtain ⟨hh, b1, h⟩ := boundK_ok henv h
        obtain ⟨ll, b2, h⟩ := boundK_ok henv h
        obtain ⟨hg, h⟩ := guardK_ok h
        obtain ⟨hg, g3⟩ := (Bool.and_eq_true _ _).mp hg
        obtain ⟨g1, g2⟩ := dand.1 hg
        have g3 := of_decide_eq_true g3
        cases hv with
        | @own _ len cap sz' b A ho' hA =>
          rw [hr] at ho'; cases ho'
          cases hb with
          | elems hl hc hrow =>
            subst hl
            refine give_slice_row henv ho hu hs hvx b2 b1 g1 g2 (by omega) ?_ h
            refine .view hr (by omega) (by omega) (fun x hx' hlo => ?_) (by omega)
            have hA' := hA x hx'
            subst hA'
            rw [he]
            refine (addr_if (fun hcc => ?_)).trans (by rw [Nat.zero_add])
            omega
      · rename_i p q he
        have he : sz = e.size := by simpa using he
        obtain ⟨hh, b1, h⟩ := boundK_ok henv h
        obtain ⟨ll, b2, h⟩ := boundK_ok henv h
        obtain ⟨hg, h⟩ := guardK_ok h
        obtain ⟨g0, hg⟩ := (Bool.and_eq_true _ _).mp hg
        have g0 : p = 0 ∨ p < q := by simpa using g0
        obtain ⟨hg, g3⟩ := (Bool.and_eq_true _ _).mp hg
        obtain ⟨g1, g2⟩ := dand.1 hg
        have g3 := of_decide_eq_true g3
        cases hv with
        | @view _ len cap sz' lo' hi' c b A ho' q1 q2 hA hcc =>
          rw [hr] at ho'; cases ho'
          cases hb with
          | elems hl hc hrow =>
            have b1' : Bnd a hi ((q - p : Nat) : Int) hh := b1
            refine give_slice_row henv ho hu hs hvx b2 b1' g1 g2 (by omega) ?_ h
            rw [show hh.toNat - ll.toNat = (p + hh.toNat) - (p + ll.toNat) by omega]
            refine .view hr (by omega) (by omega) (fun x hx' hlo => ?_) (by omega)
            have hA' := hA x hx' g0
            subst hA'
            rw [he, mul_add']
            exact addr_if (fun hcc => by omega)
      · cases h
    · rename_i sz e l z hs hk
      rw [getAt_eq] at hk
      obtain ⟨rb, hr⟩ := m.rho hk
      have hb := m.blk id rb _ hr hk
      split at h
      · rename_i y he
        have he : sz = e.size := by simpa using he
        obtain ⟨i, mx, hm, h⟩ := intK_ok (opd_ok henv z) h
        obtain ⟨j, hh, hy, h⟩ := intK_ok (opd_ok henv y) h
        obtain ⟨ll, b2, h⟩ := boundK_ok henv h
        obtain ⟨hg, h⟩ := guardK_ok h
        obtain ⟨hg, g4⟩ := (Bool.and_eq_true _ _).mp hg
        obtain ⟨hg, g3⟩ := (Bool.and_eq_true _ _).mp hg
        obtain ⟨g1, g2⟩ := dand.1 hg
        have g3 := of_decide_eq_true g3
        have g4 := of_decide_eq_true g4
        cases hv with
        | @own _ len cap sz' b A ho' hA =>
          rw [hr] at ho'; cases ho'
          cases hb with
          | elems hl hc hrow => exact give_slice3 henv ho hu hs hvx b2 hy hm g1 g2 g3 (by omega) (.any _) h
      · cases h
    · cases h
  · rename_i len et id hu hx
    have hv := (opd_eq henv hx).sc_of
    generalize hvx : a.eval x = v at hv
    split at h
    · rename_i e l sz hk hs
      rw [getAt_eq] at hk
      obtain ⟨rb, hr⟩ := m.rho hk
      have hb := m.blk id rb _ hr hk
      split at h
      · rename_i he
        have he : sz = e.size := by simpa using he
        obtain ⟨hh, b1, h⟩ := boundK_ok henv h
        obtain ⟨ll, b2, h⟩ := boundK_ok henv h
        obtain ⟨hg, h⟩ := guardK_ok h
        obtain ⟨hg, g4⟩ := (Bool.and_eq_true _ _).mp hg
        obtain ⟨hg, g3⟩ := (Bool.and_eq_true _ _).mp hg
        obtain ⟨g1, g2⟩ := dand.1 hg
        have g3 := of_decide_eq_true g3
        have g4 := of_decide_eq_true g4
        cases hv with
        | @eref _ _ _ b len' cap sz' ho' hlt =>
          rw [hr] at ho'; cases ho'
          cases hb with
          | elems hl hc hrow =>
            refine give_slice_array henv ho hu hs hvx b2 b1 g1 g2 g3 ?_ h
            refine .view hr (by omega) (by omega) (fun x hx' hlo => ?_) (by omega)
            cases hx'
            have := addr_if (cap := len) (l := ll.toNat) (b := b) (off := 0) (sz := sz) (by omega)
            simp only [Option.map_some, Nat.zero_add] at this
            rw [he] at this ⊢
            simp only [Nat.zero_mul, Nat.zero_add]
            rw [← this]
            split <;> rfl
      · cases h
    · cases h
  · cases h

theorem pOp_ok (m : Mem X w ρ st.blks) (henv : EnvR (OX X ρ st.blks) w ρ st.env a) (hS : ∀ w', S w' → Same ld ρ st.blks (OX X ρ st.blks) w w') (h : pOp P ld o st k = some r) : Gives P o a (OX X ρ st.blks) w ρ S k r := by
  unfold pOp at h
  split at h
  · rename_i x ho; exact give_move henv x ho h
  · rename_i x ho; exact give_assign henv x ho h
  · rename_i c x y ho
    split at h
    · rename_i t hc; exact give_pick henv ho hc h
    · cases h
  · rename_i t x f ho
    split at h
    · rename_i cs hx
      split at h
      · rename_i fs hu
        split at h
        · rename_i fd hf; exact give_field henv ho hx hu hf h
        · cases h
      · cases h
    · cases h
  · rename_i t parts ho
    split at h
    · rename_i zero fs hz hu
      split at h
      · rename_i places hp; exact give_build_struct henv ho hz hu hp h
      · cases h
    · rename_i zero n e hz hu
      split at h
      · rename_i size hs; exact give_build_array henv ho hz hu hs h
      · cases h
    · cases h
  · rename_i x i ho
    split at h
    · rename_i xs hx
      split at h
      · rename_i v hv; exact give_extract henv ho hx hv h
      · cases h
    · cases h
  · rename_i op t x y u ho
    split at h
    · rename_i p q hx hy; exact give_binOp henv ho hx hy h
    · cases h
  · rename_i op t x ho
    split at h
    · rename_i v hx
      split at h
      · rename_i z hz; exact give_unOp henv ho hx hz h
      · cases h
    · cases h
  · rename_i s d x ho
    split at h
    · rename_i i n hx
      split at h
      · rename_i e j hs hd; exact give_convert_int henv ho hx ⟨_, hs⟩ hd h
      · cases h
    · rename_i u hx
      split at h
      · rename_i hs hd; exact give_convert_str henv ho hx hs hd h
      · cases h
    · rename_i l full hx
      split at h
      · rename_i e hs hd
        split at h
        · rename_i he
          have hv := (opd_eq henv hx).sc_of
          refine ⟨_, _, h, .one (.sc (.val _)), fun w' hw => ?_⟩
          unfold execOp; rw [ho]
          simp only [Sem.run_bind]
          generalize a.eval x = v at hv
          cases hv with
          | @list _ _ _ A cap hs' hf => rw [run_convert_bytes hs hd he ⟨_, _, _, rfl⟩ (bytes_ok (hs'.turn (hS w' hw).turn))]; rfl
        · cases h
      · cases h
    · rename_i id vw hx
      split at h
      · rename_i e hs hd
        split at h
        · rename_i l he hl hk
          rw [getAt_eq] at hk
          have hv := (opd_eq henv hx).sc_of
          refine ⟨_, _, h, .one (.sc (.val _)), fun w' hw => ?_⟩
          unfold execOp; rw [ho]
          simp only [Sem.run_bind]
          generalize a.eval x = v at hv
          obtain ⟨rb, hr⟩ := m.rho hk
          have hb := m.blk id rb _ hr hk
          have key : ∀ {b : Option Nat} {len cap : Nat}, RowR (OX X ρ st.blks) w b cap (.int .u8) l true → ρ[id]? = some (.s b len cap 1) → RowR (fun _ => False) w' b cap (.int .u8) l false := by
            intro b len cap hrow hr'
            cases b with
            | none => exact hrow
            | some b =>
              obtain ⟨h0, vs, T, fr, h1, h2, h3, h4⟩ := hrow
              exact ⟨fun _ h => h, vs, T, fr, ((hS w' hw).mine id _ _ b hr' hk .elems hl).trans h1, h2, fun e => by simp at e, fun i x hx => h4 i x hx⟩
          cases hv with
          | @own _ len cap sz b A ho' hA =>
            rw [hr] at ho'; cases ho'
            cases hb with
            | elems hl' hc' hrow =>
              subst hl'
              rw [run_convert_bytes hs hd he ⟨_, _, _, rfl⟩ (bytes_ok (row_slice rfl hc' (key hrow hr) hA))]; rfl
          | @view _ len cap sz lo hi c b A ho' h1 h2 hA hcc =>
            rw [hr] at ho'; cases ho'
            cases hb with
            | elems hl' hc' hrow =>
              have hlen : ((l.take hi).drop lo).length = hi - lo := by simp; omega
              have := bytes_ok (P := P) (row_view hl' hc' (key hrow hr) h1 h2 hA hcc.1)
              rw [hlen] at this
              rw [run_convert_bytes hs hd he ⟨_, _, _, rfl⟩ this]; rfl
        · cases h
      · cases h
    · cases h
  · rename_i t x ho
    split at h
    · cases h
    · rename_i v d hd hx hu; exact give_makeInterface henv ho hx hu (fun ms e => by subst e; exact hd _ rfl) h
    · cases h
  · rename_i f first caps ho
    split at h
    · rename_i hf
      obtain ⟨cs, h1, h2⟩ := give_capsK henv (acc := []) (vs := []) ⟨rfl, by simp⟩ (xs := caps.toList) h
      refine ⟨_, _, h1, .one (.sc (.fn (vs := caps.toList.map a.eval) h2.1 h2.2)), fun w' _ => ?_⟩
      unfold execOp; rw [ho]
      have : first = #[] := by simpa using hf
      rw [this]
      simp [Instr.makeFunc, ← Array.toList_map]
    · rename_i x xs hf
      split at h
      · rename_i hcaps
        obtain ⟨cs, h1, h2⟩ := give_capsK henv (acc := []) (vs := []) ⟨rfl, by simp⟩ (xs := x :: xs) h
        refine ⟨_, _, h1, .one (.sc (.bnd (vs := (x :: xs).map a.eval) h2.1 h2.2)), fun w' _ => ?_⟩
        unfold execOp; rw [ho]
        have hc : caps = #[] := by simpa using hcaps
        rw [hc, ← hf]
        simp [Instr.makeFunc, ← Array.toList_map]
      · cases h
  · rename_i t x i ok ho
    split at h
    · rename_i kt vt id hu hx
      split at h
      · rename_i ks vs es zv hld hk hz
        split at h
        · rename_i key z hT hkey hzv
          split at h
          · rename_i c hc
            rw [getAt_eq] at hk
            have hv := (opd_eq henv hx).sc_of
            generalize hvx : a.eval x = v at hv
            cases hv with
            | mref hr =>
              have hb := m.blk id _ _ hr hk
              cases hb with
              | mp hh he => exact give_lookup henv ho hu hvx he (fun w' hw => ((hS w' hw).mine id _ _ _ hr hk .mp hld).trans hh) hT hkey hz hzv hc h
          · cases h
        · cases h
      · cases h
    · cases h
  · rename_i x ho
    split at h
    · rename_i c hx
      obtain ⟨hc, h⟩ := guardK_ok h
      exact give_nilCheck henv ho hx hc h
    · cases h
  · rename_i t x f ho
    split at h
    · rename_i fs hu
      split at h
      · rename_i fd hf
        split at h
        · rename_i n hn
          split at h
          · rename_i id off hx
            exact give_fieldAddr henv ho hu hf hn hx (fun v hv => by cases hv with | ref hv => exact ⟨_, _, rfl, .ref hv⟩) h
          · rename_i id i off hx
            exact give_fieldAddr henv ho hu hf hn hx (fun v hv => by cases hv with | eref hv hi => exact ⟨_, _, rfl, by rw [Nat.add_assoc]; exact .eref hv hi⟩) h
          · rename_i e l i off hx
            exact give_fieldAddr henv ho hu hf hn hx (fun v hv => by cases hv with | rref h1 h2 h3 => exact ⟨_, _, rfl, by rw [Nat.add_assoc]; exact .rref h1 h2 h3⟩) h
          · cases h
        · cases h
      · cases h
    · cases h
  · rename_i t x i ho
    split at h
    · rename_i et hu
      split at h
      · rename_i sz hs
        obtain ⟨ki, n, hi, h⟩ := intK_ok (opd_ok henv i) h
        split at h
        · rename_i e l full hx
          split at h
          · rename_i he
            have he : sz = e.size := by simpa using he
            obtain ⟨hg, h⟩ := guardK_ok h
            obtain ⟨h0, h1⟩ := dand.1 hg
            have hv := (opd_eq henv hx).sc_of
            generalize hvx : a.eval x = v at hv
            cases hv with
            | @list _ _ _ A cap hsl hf =>
              rcases hsl.2 with hnil | ⟨b, off, us, T, fr, rfl, hb, hh, hxs⟩
              · rw [hnil] at h1; simp at h1; omega
              · have hlt : n.toNat < l.length := by omega
                refine give_indexAddr henv ho hu hs hi hvx h0 h1 (c := .rref e l n.toNat 0) ?_ h
                rw [he]
                have hc := hxs n.toNat (l.getD n.toNat (dflt e)) (by rw [List.getD_eq_getElem?_getD, List.getElem?_eq_getElem hlt]; rfl)
                exact .rref (off := 0) hb hh hc
          · cases h
        · rename_i id vw hx
          split at h
          · rename_i e l hk
            rw [getAt_eq] at hk
            split at h
            · rename_i he
              have he : sz = e.size := by simpa using he
              have hv := (opd_eq henv hx).sc_of
              generalize hvx : a.eval x = v at hv
              obtain ⟨rb, hr⟩ := m.rho hk
              have hb := m.blk id rb _ hr hk
              split at h
              · obtain ⟨hg, h⟩ := guardK_ok h
                obtain ⟨h0, h1⟩ := dand.1 hg
                cases hv with
                | @own _ len cap sz' b A ho' hA =>
                  rw [hr] at ho'; cases ho'
                  cases hb with
                  | elems hl hc hrow =>
                    cases b with
                    | none => simp [RowR] at hrow; omega
                    | some b =>
                      have hA' := hA b rfl
                      subst hA'
                      refine give_indexAddr henv ho hu hs hi hvx h0 (by omega) (c := .eref id n.toNat 0) ?_ h
                      rw [he, Nat.zero_add]
                      exact .eref (off := 0) hr (by omega)
              · rename_i lo hi'
                obtain ⟨hg, h⟩ := guardK_ok h
                obtain ⟨hg, h2⟩ := (Bool.and_eq_true _ _).mp hg
                obtain ⟨h0, h1⟩ := dand.1 hg
                have h2 := of_decide_eq_true h2
                cases hv with
                | @view _ len cap sz' lo hi' c b A ho' g1 g2 hA hcc =>
                  rw [hr] at ho'; cases ho'
                  cases hb with
                  | elems hl hc hrow =>
                    cases b with
                    | none => simp [RowR] at hrow; omega
                    | some b =>
                      have hA' := hA b rfl (.inr (by omega))
                      subst hA'
                      refine give_indexAddr henv ho hu hs hi hvx h0 h1 (c := .eref id (lo + n.toNat) 0) ?_ h
                      rw [he, ← mul_add']
                      exact .eref (off := 0) hr (by omega)
            · cases h
          · cases h
        · cases h
      · cases h
    · rename_i len et hu
      split at h
      · rename_i sz id off hs hx
        obtain ⟨ki, n, hi, h⟩ := intK_ok (opd_ok henv i) h
        obtain ⟨j, rfl, h1, h2, h⟩ := placeK_ok h
        have hv := (opd_eq henv hx).sc_of
        generalize hvx : a.eval x = v at hv
        cases hv with
        | ref hr => exact give_indexAddr_array henv ho hu hs hi hvx (by omega) (by omega) (by simpa using ScR.ref hr) h
      · rename_i sz id i₀ off hs hx
        split at h
        · rename_i e l hk
          rw [getAt_eq] at hk
          have hv := (opd_eq henv hx).sc_of
          generalize hvx : a.eval x = v at hv
          split at h
          · rename_i he
            have he : sz + 1 = e.size := Nat.eq_of_beq_eq_true he
            split at h
            · rename_i hz
              rw [Bool.and_eq_true] at hz
              obtain ⟨z1, z2⟩ := hz
              have z1 := Nat.eq_of_beq_eq_true z1
              have z2 := Nat.eq_of_beq_eq_true z2
              subst z1; subst z2
              obtain ⟨ki, n, hi, h⟩ := intK_ok (opd_ok henv i) h
              obtain ⟨hg, h⟩ := guardK_ok h
              obtain ⟨hg, h2⟩ := (Bool.and_eq_true _ _).mp hg
              obtain ⟨h0, h1⟩ := dand.1 hg
              have h2 := of_decide_eq_true h2
              obtain ⟨rb, hr⟩ := m.rho hk
              have hb := m.blk id rb _ hr hk
              cases hv with
              | @eref _ _ _ b len' cap sz' ho' hlt =>
                rw [hr] at ho'; cases ho'
                cases hb with
                | elems hl hc hrow =>
                  refine give_indexAddr_array henv ho hu hs hi hvx h0 h1 (c := .eref id n.toNat 0) ?_ h
                  simp only [Nat.succ_eq_add_one, he, Nat.zero_mul, Nat.zero_add]
                  exact .eref (off := 0) hr (by omega)
            · cases h
          · obtain ⟨ki, n, hi, h⟩ := intK_ok (opd_ok henv i) h
            obtain ⟨j, rfl, h1, h2, h⟩ := placeK_ok h
            cases hv with
            | eref ho' hlt =>
              refine give_indexAddr_array henv ho hu hs hi hvx (by omega) (by omega) ?_ h
              rw [Nat.add_assoc]
              exact .eref ho' hlt
        · cases h
      · cases h
    · cases h
  · rename_i t x i ho
    obtain ⟨ki, n, hi, h⟩ := intK_ok (opd_ok henv i) h
    split at h
    · rename_i s hx
      split at h
      · rename_i hu
        obtain ⟨hg, h⟩ := guardK_ok h
        obtain ⟨h0, h1⟩ := dand.1 hg
        exact give_index_str henv ho hu hi (opd_eq henv hx).val_eq h0 h1 h
      · cases h
    · rename_i cs hx
      split at h
      · rename_i len e hu
        split at h
        · rename_i sz hs; exact give_index_array henv ho hu hs hi hx h
        · cases h
      · cases h
    · cases h
  · rename_i t x ho
    split at h
    · rename_i id off hx
      split at h
      · rename_i T cs hld hk
        rw [getAt_eq] at hk
        have hv := (opd_eq henv hx).sc_of
        generalize hvx : a.eval x = v at hv
        cases hv with
        | ref hr =>
          have hb := m.blk id _ _ hr hk
          cases hb with
          | @cells b _ _ _ vs fr hh hu hc =>
            refine give_load henv ho (base := 0) (off := off) (by rw [hvx, Nat.zero_add]) (cs := cs) (vs := vs) (fun i c hc' => ?_) (fun w' hw => ((hS w' hw).mine id _ _ _ hr hk .cells hld).trans hh) h
            have hlt : i < vs.size := by have := get_lt hc'; have := hc.1; simp at this; omega
            exact ⟨vs[i], by simp [hlt], hc.2 i c _ hc' (by simp [hlt])⟩
      · cases h
    · rename_i id i off hx
      split at h
      · rename_i cs hld hk
        have hv := (opd_eq henv hx).sc_of
        generalize hvx : a.eval x = v at hv
        cases hv with
        | @eref _ _ _ b len cap sz hr hlt =>
          unfold elemCells at hk
          rw [getAt_eq] at hk
          split at hk
          · rename_i e l hkk
            cases hk
            have hb := m.blk id _ _ hr hkk
            cases hb with
            | elems hl hc hrow =>
              obtain ⟨vs, T, fr, h1, h2⟩ := elem_cells (ρ := ρ) hrow (by omega : i < l.length)
              exact give_load henv ho hvx h2 (fun w' hw => ((hS w' hw).mine id _ _ b hr hkk .elems hld).trans h1) h
          · rename_i e l hkk
            cases hk
            have hb := m.blk id _ _ hr hkk
            cases hb with
            | froz hl hc hrow =>
              obtain ⟨vs, T, fr, h1, h2⟩ := elem_cells (ρ := ρ) hrow (by omega : i < l.length)
              exact give_load henv ho hvx h2 (fun w' hw => ((hS w' hw).free b (lt_of_get h1) (hrow.1 rfl)).trans h1) h
          · cases hk
      · cases h
    · rename_i e l i off hx
      have hv := (opd_eq henv hx).sc_of
      generalize hvx : a.eval x = v at hv
      cases hv with
      | @rref _ _ _ _ b base us T fr h1 h2 h3 =>
        exact give_load henv ho hvx (fun j c hc => inj_ok h3 j c hc) (fun w' hw => ((hS w' hw).free b (lt_of_get h2) h1).trans h2) h
    · cases h
  · rename_i t x lo hi mx ho
    exact give_slice m henv ho h
  · rename_i b args ts ho
    split at h
    · rename_i x hargs
      have hargs : args = #[x] := by cases args with | mk l => exact congrArg Array.mk hargs
      subst hargs
      split at h
      · rename_i t _ hts
        have hts : ts[0]? = some t := by rw [← Array.getElem?_toList, hts]; rfl
        split at h
        · rename_i s hu hx
          exact give_len henv ho hts hu (.inl ⟨rfl, s, (opd_eq henv hx).val_eq, rfl⟩) h
        · rename_i e c hu hx
          split at h
          · rename_i n hn
            obtain ⟨A, cap, hv⟩ := lenSc_ok m (opd_eq henv hx).sc_of hn
            exact give_len henv ho hts hu (.inr ⟨e, A, cap, rfl, hv⟩) h
          · cases h
        · cases h
      · cases h
    · rename_i x y hargs
      have hargs : args = #[x, y] := by cases args with | mk l => exact congrArg Array.mk hargs
      subst hargs
      obtain ⟨i, p, hp, h⟩ := intK_ok (opd_ok henv x) h
      obtain ⟨j, q, hq, h⟩ := intK_ok (opd_ok henv y) h
      exact give_min henv ho hp hq h
    · rename_i x y hargs
      have hargs : args = #[x, y] := by cases args with | mk l => exact congrArg Array.mk hargs
      subst hargs
      obtain ⟨i, p, hp, h⟩ := intK_ok (opd_ok henv x) h
      obtain ⟨j, q, hq, h⟩ := intK_ok (opd_ok henv y) h
      exact give_max henv ho hp hq h
    · cases h
  · cases h

end

end Go.Proofs.Ytmenplonaapliaa.AE
end
section
set_option linter.unusedVariables false
set_option linter.unusedSimpArgs false
namespace Go.Proofs.Ytmenplonaapliaa.AE
open Go Go.RowKit
variable {W₀ : World}

/-- From a world and blocks to others: what may be leaned upon stays; only rows in 'T' have turned. -/
structure Step (X : XO W₀) (w : World) (ρ : List RB) (σ : List Blk) (w' : World) (ρ' : List RB) (σ' : List Blk) (T : Nat → Prop) : Prop where
  mem : Mem X w' ρ' σ'
  ext : Ext ρ ρ'
  turn : Turn (OX X ρ σ) w (OX X ρ' σ') w'
  os : w'.os = w.os
  tape : w'.tape = w.tape
  output : w'.output = w.output
  same : ∀ b, b < w.heap.size → (∀ (id : Nat) r k, ρ[id]? = some r → σ[id]? = some k → Live r k b → ¬ T id) → w'.heap[b]? = w.heap[b]?
  orig : ∀ (id : Nat) r k b, ρ'[id]? = some r → σ'[id]? = some k → Live r k b → b < w.heap.size → ∃ (i : Nat) (r' : RB) (k' : Blk), ρ[i]? = some r' ∧ σ[i]? = some k' ∧ Live r' k' b ∧ (i = id ∨ T i)

theorem Frz.back {X : XO W₀} {w : World} {ρ : List RB} {σ σ' : List Blk} (f : Frz X w ρ σ σ') {id : Nat} {r : RB} {k : Blk} {b : Nat} (hk : σ'[id]? = some k) (hl : Live r k b) : σ[id]? = some k := by
  have hlt : id < σ.length := by
    have : id < σ'.length := by
      rcases Nat.lt_or_ge id σ'.length with h' | h'
      · exact h'
      · rw [List.getElem?_eq_none h'] at hk; cases hk
    rw [f.len] at this; exact this
  rcases f.old id _ (List.getElem?_eq_getElem hlt) with h | ⟨e, l, h1, h2⟩
  · rw [List.getElem?_eq_getElem hlt]; rw [h] at hk; exact hk
  · rw [h2] at hk; cases hk; cases hl

theorem Step.refl {X : XO W₀} {w : World} {ρ : List RB} {σ : List Blk} (m : Mem X w ρ σ) (T : Nat → Prop) : Step X w ρ σ w ρ σ T := ⟨m, .refl _, .refl _ _, rfl, rfl, rfl, fun _ _ _ => rfl, fun id r k b h1 h2 h3 _ => ⟨id, r, k, h1, h2, h3, .inl rfl⟩⟩

theorem Step.frz {X : XO W₀} {w : World} {ρ : List RB} {σ σ' : List Blk} (f : Frz X w ρ σ σ') (T : Nat → Prop) : Step X w ρ σ w ρ σ' T := ⟨f.mem, .refl _, f.turn, rfl, rfl, rfl, fun _ _ _ => rfl, fun id r k b h1 h2 h3 _ => ⟨id, r, k, h1, f.back h2 h3, h3, .inl rfl⟩⟩

theorem app_get {α : Type} {l : List α} {x y : α} {i : Nat} (h : (l ++ [x])[i]? = some y) : l[i]? = some y ∨ (i = l.length ∧ y = x) := by
  rcases Nat.lt_or_ge i l.length with hi | hi
  · rw [List.getElem?_append_left hi] at h; exact .inl h
  · rw [List.getElem?_append_right hi] at h
    have : i - l.length = 0 := by have := get_lt h; simpa using this
    rw [this] at h
    simp at h
    exact .inr ⟨by omega, h.symm⟩

/-- A new block, with rows that were nobody's. -/
theorem Mem.push {X : XO W₀} {w w' : World} {ρ : List RB} {σ : List Blk} (m : Mem X w ρ σ) {r : RB} {k : Blk} (hsz : w.heap.size ≤ w'.heap.size) (hsame : ∀ b, b < w.heap.size → w'.heap[b]? = w.heap[b]?)
    (hlive : ∀ b, Live r k b → w.heap.size ≤ b) (hb : BlkR (OX X (ρ ++ [r]) (σ ++ [k])) w' (ρ ++ [r]) r k) : Mem X w' (ρ ++ [r]) (σ ++ [k]) ∧ Turn (OX X ρ σ) w (OX X (ρ ++ [r]) (σ ++ [k])) w' := by
  have hown : ∀ b, owns (ρ ++ [r]) (σ ++ [k]) b → owns ρ σ b ∨ w.heap.size ≤ b := by
    rintro b ⟨id, r', k', h1, h2, h3⟩
    rcases app_get h1 with h1 | ⟨h1, rfl⟩ <;> rcases app_get h2 with h2 | ⟨h2, rfl⟩
    · exact .inl ⟨id, r', k', h1, h2, h3⟩
    · have := get_lt h1; have := m.len; omega
    · have := get_lt h2; have := m.len; omega
    · exact .inr (hlive b h3)
  have t : Turn (OX X ρ σ) w (OX X (ρ ++ [r]) (σ ++ [k])) w' :=
    ⟨fun b hb h => h.elim (fun h => (hown b h).elim .inl (fun h => by omega)) .inr, hsz, fun b hb _ => hsame b hb⟩
  refine ⟨⟨by simp [m.len], ?_, ?_, ?_, fun b hb => Nat.lt_of_lt_of_le (m.xlow b hb) hsz, m.top.trans t⟩, t⟩
  · intro id r' k' h1 h2
    rcases app_get h1 with h1 | ⟨h1, rfl⟩ <;> rcases app_get h2 with h2 | ⟨h2, rfl⟩
    · have hbk := m.blk id r' k' h1 h2
      exact hbk.turn t (Ext.app _ _) (fun b hl => hsame b (hbk.live hl))
    · have := get_lt h1; have := m.len; omega
    · have := get_lt h2; have := m.len; omega
    · exact hb
  · intro i j r₁ k₁ r₂ k₂ b h1 h2 h3 h4 h5 h6
    have old : ∀ {i : Nat} {r₁ : RB} {k₁ : Blk}, (ρ ++ [r])[i]? = some r₁ → (σ ++ [k])[i]? = some k₁ → Live r₁ k₁ b → (ρ[i]? = some r₁ ∧ σ[i]? = some k₁ ∧ b < w.heap.size) ∨ (i = ρ.length ∧ w.heap.size ≤ b) := by
      intro i r₁ k₁ h1 h2 h3
      rcases app_get h1 with g1 | ⟨g1, e1⟩ <;> rcases app_get h2 with g2 | ⟨g2, e2⟩
      · exact .inl ⟨g1, g2, (m.blk i r₁ k₁ g1 g2).live h3⟩
      · have := get_lt g1; have := m.len; omega
      · have := get_lt g2; have := m.len; omega
      · subst e1; subst e2; exact .inr ⟨g1, hlive b h3⟩
    rcases old h1 h2 h3 with ⟨a1, a2, a3⟩ | ⟨a1, a3⟩ <;> rcases old h4 h5 h6 with ⟨b1, b2, b3⟩ | ⟨b1, b3⟩
    · exact m.inj i j r₁ k₁ r₂ k₂ b a1 a2 h3 b1 b2 h6
    · omega
    · omega
    · omega
  · intro b hb hx
    rcases hown b hb with h | h
    · exact m.dis b h hx
    · have := m.xlow b hx; omega

/-- Where rows come from, behind a new block. -/
theorem orig_push {ρ : List RB} {σ : List Blk} (hl : ρ.length = σ.length) {r₀ : RB} {k₀ : Blk} {n : Nat} {T : Nat → Prop} (hnew : ∀ b, Live r₀ k₀ b → b < n → ∃ (i : Nat) (r' : RB) (k' : Blk), ρ[i]? = some r' ∧ σ[i]? = some k' ∧ Live r' k' b ∧ T i) :
    ∀ (id : Nat) r k b, (ρ ++ [r₀])[id]? = some r → (σ ++ [k₀])[id]? = some k → Live r k b → b < n → ∃ (i : Nat) (r' : RB) (k' : Blk), ρ[i]? = some r' ∧ σ[i]? = some k' ∧ Live r' k' b ∧ (i = id ∨ T i) := by
  intro id r k b h1 h2 h3 h4
  rcases app_get h1 with g1 | ⟨g1, e1⟩ <;> rcases app_get h2 with g2 | ⟨g2, e2⟩
  · exact ⟨id, r, k, g1, g2, h3, .inl rfl⟩
  · have := get_lt g1; omega
  · have := get_lt g2; omega
  · subst e1; subst e2
    obtain ⟨i, r', k', q1, q2, q3, q4⟩ := hnew b h3 h4
    exact ⟨i, r', k', q1, q2, q3, .inr q4⟩

theorem push_same (w : World) (o : Obj) (b : Nat) (h : b < w.heap.size) : (w.heap.push o)[b]? = w.heap[b]? := by
  rw [Array.getElem?_push, if_neg (by omega)]

section
variable {P : Program} {R : Type} {r : R} {X : XO W₀} {w : World} {ρ : List RB} {a : Act} {o : Oper} {st : St} {k : AV → List Blk → Option R}

/-- What an operation does. -/
def Does (P : Program) (o : Oper) (a : Act) (X : XO W₀) (w : World) (ρ : List RB) (σ : List Blk) (T : Nat → Prop) (k : AV → List Blk → Option R) (r : R) : Prop :=
  ∃ av v nx w' ρ' σ', k av σ' = some r ∧ (execOp a.eval o).run P w = .ok nx w' ∧ (nx = .value v ∨ (nx = .skip ∧ v = undef)) ∧ AVR (OX X ρ' σ') w' ρ' av v ∧ Step X w ρ σ w' ρ' σ' T

/-- A new variable, in cells. -/
theorem new_cells (m : Mem X w ρ st.blks) {t : TypeId} {cs : List Sc} {vs : Array Value} (hs : ScsR (OX X ρ st.blks) w ρ cs vs.toList) (T : Nat → Prop) :
    Step X w ρ st.blks { w with heap := w.heap.push (.cells vs t) } (ρ ++ [.c w.heap.size]) (st.blks ++ [.cells t cs]) T ∧ ScR (OX X (ρ ++ [.c w.heap.size]) (st.blks ++ [.cells t cs])) { w with heap := w.heap.push (.cells vs t) } (ρ ++ [.c w.heap.size]) (.ref st.blks.length 0) (.pointer (some ⟨w.heap.size, 0, none⟩)) := by
  have hsz : w.heap.size ≤ (w.heap.push (.cells vs t)).size := by simp
  have hown : ∀ b, b < w.heap.size → OX X (ρ ++ [.c w.heap.size]) (st.blks ++ [.cells t cs]) b → OX X ρ st.blks b := by
    rintro b hb (⟨id, r', k', h1, h2, h3⟩ | h)
    · rcases app_get h1 with h1 | ⟨h1, rfl⟩ <;> rcases app_get h2 with h2 | ⟨h2, rfl⟩
      · exact .inl ⟨id, r', k', h1, h2, h3⟩
      · have := get_lt h1; have := m.len; omega
      · have := get_lt h2; have := m.len; omega
      · cases h3; omega
    · exact .inr h
  have t0 : Turn (OX X ρ st.blks) w (OX X (ρ ++ [.c w.heap.size]) (st.blks ++ [.cells t cs])) { w with heap := w.heap.push (.cells vs t) } := ⟨hown, hsz, fun b hb _ => push_same w _ b hb⟩
  obtain ⟨m', t'⟩ := m.push (w' := { w with heap := w.heap.push (.cells vs t) }) (r := .c w.heap.size) (k := .cells t cs) hsz (push_same w _) (by intro b h; cases h; exact Nat.le_refl _)
    (.cells (T' := t) (vs := vs) (fr := (0, 0)) (by simp) (fun i _ => by simp) (hs.turn t0 (Ext.app _ _)))
  exact ⟨⟨m', Ext.app _ _, t', rfl, rfl, rfl, fun b hb _ => push_same w _ b hb, orig_push m.len (fun b h hb => by cases h; omega)⟩, .ref (by rw [List.getElem?_append_right (by rw [m.len]; exact Nat.le_refl _), m.len]; simp)⟩

/-- A new row of one's own. -/
theorem new_row (m : Mem X w ρ st.blks) {T : TypeId} {e : Sh} {l : List (den e)} {cap : Nat} {vs : Array Value} (hc : l.length ≤ cap) (hsz : vs.size = cap * e.size) {n : Nat}
    (hx : ∀ i x, l[i]? = some x → CellsAt (OX X ρ st.blks) w e x vs (i * e.size)) {fr : Nat × Nat} (hu : loose e fr vs.size) (T' : Nat → Prop) :
    Step X w ρ st.blks { w with heap := w.heap.push (.cells vs T fr), drawn := n } (ρ ++ [.s (some w.heap.size) l.length cap e.size]) (st.blks ++ [.elems e l]) T' ∧
    ScR (OX X (ρ ++ [.s (some w.heap.size) l.length cap e.size]) (st.blks ++ [.elems e l])) { w with heap := w.heap.push (.cells vs T fr), drawn := n } (ρ ++ [.s (some w.heap.size) l.length cap e.size]) (.own st.blks.length none) (.slice (some ⟨w.heap.size, 0, none⟩) l.length cap) := by
  have hsz' : w.heap.size ≤ (w.heap.push (.cells vs T fr)).size := by simp
  have hown : ∀ b, b < w.heap.size → OX X (ρ ++ [.s (some w.heap.size) l.length cap e.size]) (st.blks ++ [.elems e l]) b → OX X ρ st.blks b := by
    rintro b hb (⟨id, r', k', h1, h2, h3⟩ | h)
    · rcases app_get h1 with h1 | ⟨h1, rfl⟩ <;> rcases app_get h2 with h2 | ⟨h2, rfl⟩
      · exact .inl ⟨id, r', k', h1, h2, h3⟩
      · have := get_lt h1; have := m.len; omega
      · have := get_lt h2; have := m.len; omega
      · cases h3; omega
    · exact .inr h
  have t0 : Turn (OX X ρ st.blks) w (OX X (ρ ++ [.s (some w.heap.size) l.length cap e.size]) (st.blks ++ [.elems e l])) { w with heap := w.heap.push (.cells vs T fr), drawn := n } := ⟨hown, hsz', fun b hb _ => push_same w _ b hb⟩
  obtain ⟨m', t'⟩ := m.push (w' := { w with heap := w.heap.push (.cells vs T fr), drawn := n }) (r := .s (some w.heap.size) l.length cap e.size) (k := .elems e l) hsz' (push_same w _) (by intro b h; cases h; exact Nat.le_refl _)
    (.elems rfl hc ⟨fun h => by simp at h, vs, T, fr, by simp, Nat.le_of_eq hsz.symm, fun _ => hu, fun i x hi => (hx i x hi).turn t0⟩)
  exact ⟨⟨m', Ext.app _ _, t', rfl, rfl, rfl, fun b hb _ => push_same w _ b hb, orig_push m.len (fun b h hb => by cases h; omega)⟩, .own (b := some w.heap.size) (sz := e.size) (by rw [List.getElem?_append_right (by rw [m.len]; exact Nat.le_refl _), m.len]; simp) (fun x hx => by cases hx; rfl)⟩

theorem does_box (m : Mem X w ρ st.blks) (henv : EnvR (OX X ρ st.blks) w ρ st.env a) {t : TypeId} {x : Operand} (ho : o.op = .box t x) {v : AV1} (hx : st.opd x = .one v) (hv : okAV1 v = true)
    (h : k (.one (.sc (.ref st.blks.length 0))) (st.blks ++ [.cells t (av1Cells v)]) = some r) (T : Nat → Prop) : Does P o a X w ρ st.blks T k r := by
  have e := opd_eq henv hx
  cases e with
  | one e =>
    obtain ⟨s, hr⟩ := new_cells m (t := t) (av1Cells_ok e hv) T
    refine ⟨_, _, .value (.pointer (some ⟨w.heap.size, 0, none⟩)), _, _, _, h, ?_, .inl rfl, .one (.sc hr), s⟩
    unfold execOp; rw [ho]
    simp [Instr.box, newVar, newRow]

theorem does_alloc (m : Mem X w ρ st.blks) {t : TypeId} (ho : o.op = .alloc t) {cs : List Sc} (hz : zeroCells P t = some cs)
    (h : k (.one (.sc (.ref st.blks.length 0))) (st.blks ++ [.cells t cs]) = some r) (T : Nat → Prop) : Does P o a X w ρ st.blks T k r := by
  obtain ⟨z, h1, h2⟩ := zeroCells_ok (O := OX X ρ st.blks) (w := w) (ρ := ρ) hz
  obtain ⟨s, hr⟩ := new_cells m (t := t) h2 T
  refine ⟨_, _, .value (.pointer (some ⟨w.heap.size, 0, none⟩)), _, _, _, h, ?_, .inl rfl, .one (.sc hr), s⟩
  unfold execOp; rw [ho]
  simp [Instr.alloc, h1, newVar, newRow]

end

end Go.Proofs.Ytmenplonaapliaa.AE
end
section
set_option linter.unusedVariables false
set_option linter.unusedSimpArgs false
namespace Go.Proofs.Ytmenplonaapliaa.AE
open Go Go.RowKit

def setV (vs : Array Value) : Nat → List Value → Array Value
  | _, [] => vs
  | off, u :: us => setV (vs.setIfInBounds off u) (off + 1) us

theorem setV_size (us : List Value) : ∀ (vs : Array Value) (off : Nat), (setV vs off us).size = vs.size := by
  induction us with
  | nil => intro vs off; rfl
  | cons u us ih => intro vs off; simp [setV, ih]

theorem setV_get (us : List Value) : ∀ (vs : Array Value) (off i : Nat), off + us.length ≤ vs.size → (setV vs off us)[i]? = if off ≤ i ∧ i < off + us.length then us[i - off]? else vs[i]? := by
  induction us with
  | nil => intro vs off i h; rw [if_neg (by simp only [List.length_nil]; omega)]; rfl
  | cons u us ih =>
    intro vs off i h
    simp only [List.length_cons] at h
    simp only [setV, List.length_cons]
    rw [ih _ _ _ (by simp; omega)]
    by_cases e : i = off
    · subst e
      rw [if_neg (by omega), if_pos (by omega)]
      simp [show i < vs.size by omega]
    · by_cases e2 : off + 1 ≤ i ∧ i < off + 1 + us.length
      · rw [if_pos e2, if_pos (by omega)]
        obtain ⟨m, hm⟩ : ∃ m, i - off = m + 1 := ⟨i - off - 1, by omega⟩
        rw [hm, List.getElem?_cons_succ, show i - (off + 1) = m by omega]
      · rw [if_neg e2, if_neg (by omega)]
        exact Array.getElem?_setIfInBounds_ne (by omega)

theorem ScsR.set {O : Own} {w : World} {ρ : List RB} {cs : List Sc} {vs : Array Value} {c : Sc} {v : Value} {i : Nat} (hs : ScsR O w ρ cs vs.toList) (h : ScR O w ρ c v) : ScsR O w ρ (cs.set i c) (vs.setIfInBounds i v).toList := by
  refine ⟨by simpa using hs.1, fun j c' v' hc hv => ?_⟩
  rw [Array.toList_setIfInBounds] at hv
  by_cases e : i = j
  · subst e
    rw [List.getElem?_set_self (by have := get_lt hc; simpa using this)] at hc
    rw [List.getElem?_set_self (by have := get_lt hv; simpa using this)] at hv
    cases hc; cases hv; exact h
  · rw [List.getElem?_set_ne e] at hc hv
    exact hs.2 j c' v' hc hv

theorem setV_ok {O : Own} {w : World} {ρ : List RB} : ∀ {l : List Sc} {us : List Value} {cs : List Sc} {vs : Array Value} {off : Nat}, ScsR O w ρ l us → ScsR O w ρ cs vs.toList → ScsR O w ρ (setCells cs off l) (setV vs off us).toList
  | [], us, cs, vs, off, hl, hs => by
    have : us = [] := List.length_eq_zero_iff.1 hl.1.symm
    subst this; exact hs
  | c :: l, us, cs, vs, off, hl, hs => by
    obtain ⟨u, us', rfl, hc, hl'⟩ := hl.tail
    simp only [setCells, setAt_eq, setV]
    exact setV_ok hl' (hs.set hc)

theorem setCell_heap {w : World} {b i : Nat} {vs : Array Value} {T : TypeId} {fr : Nat × Nat} (h : w.heap[b]? = some (.cells vs T fr)) (v : Value) :
    (w.setCell ⟨b, i, none⟩ v).heap[b]? = some (.cells (vs.setIfInBounds i v) T fr) ∧ (∀ c, c ≠ b → (w.setCell ⟨b, i, none⟩ v).heap[c]? = w.heap[c]?) ∧ (w.setCell ⟨b, i, none⟩ v).heap.size = w.heap.size := by
  refine ⟨?_, fun c hc => ?_, by simp [World.setCell]⟩
  · simp [World.setCell, Array.getElem?_modify, h]
  · simp only [World.setCell, Array.getElem?_modify]
    rw [if_neg (by omega)]

/-- Between two worlds: one row has turned. -/
structure Wrote (w w' : World) (b : Nat) (vs : Array Value) (T : TypeId) (fr : Nat × Nat) : Prop where
  row : w'.heap[b]? = some (.cells vs T fr)
  rest : ∀ c, c ≠ b → w'.heap[c]? = w.heap[c]?
  size : w'.heap.size = w.heap.size
  os : w'.os = w.os
  tape : w'.tape = w.tape
  output : w'.output = w.output

theorem storeCells_ok (P : Program) {b o : Nat} {T : TypeId} {fr : Nat × Nat} : ∀ (us : List Value) (i : Nat) (vs : Array Value) (w : World), w.heap[b]? = some (.cells vs T fr) → o + i + us.length ≤ vs.size → unfrozen fr vs.size → (∀ v ∈ us, v.oneCell' = true) →
    ∃ w', (storeCells ⟨b, o, none⟩ us i).run P w = .ok () w' ∧ Wrote w w' b (setV vs (o + i) us) T fr
  | [], i, vs, w, h, _, _, _ => ⟨w, rfl, h, fun _ _ => rfl, rfl, rfl, rfl, rfl⟩
  | u :: us, i, vs, w, h, hl, hu, h1 => by
    simp only [List.length_cons] at hl
    obtain ⟨g1, g2, g3⟩ := setCell_heap (i := o + i) h u
    obtain ⟨w', k1, k2⟩ := storeCells_ok P (o := o) us (i + 1) (vs.setIfInBounds (o + i) u) (w.setCell ⟨b, o + i, none⟩ u) g1 (by simp; omega) (by simpa using hu) (fun v hv => h1 v (by simp [hv]))
    have hlt : o + i < vs.size := by omega
    have hcell : w.cell? ⟨b, o + i, none⟩ = some (vs[o + i]'hlt) := by rw [cell_at h]; simp [hlt]
    have hfro : w.frozen? ⟨b, o + i, none⟩ = false := by
      have := hu (o + i) (by omega)
      obtain ⟨f1, f2⟩ := fr
      simpa [World.frozen?, h] using this
    refine ⟨w', ?_, ?_⟩
    · simp only [storeCells, Sem.run_bind, add_addr, run_store P w _ u _ (h1 u (by simp)), hcell, hfro]
      simpa using k1
    · rw [show o + (i + 1) = o + i + 1 by omega] at k2
      exact ⟨k2.row, fun c hc => (k2.rest c hc).trans (g2 c hc), k2.size.trans g3, k2.os, k2.tape, k2.output⟩

/-! ### Rows of data as cells -/

theorem CellsAt.shift {O : Own} {w : World} : ∀ {e : Sh} {x : den e} {vs us : Array Value} {p q : Nat}, CellsAt O w e x vs p → (∀ i, i < e.size → us[q + i]? = vs[p + i]?) → CellsAt O w e x us q
  | .int _, _, _, _, _, _, h, hs => (hs 0 (by simp [Sh.size])).trans h
  | .bool, _, _, _, _, _, h, hs => (hs 0 (by simp [Sh.size])).trans h
  | .str, _, _, _, _, _, h, hs => (hs 0 (by simp [Sh.size])).trans h
  | .list _, _, _, _, _, _, h, hs => by
    obtain ⟨A, cap, h1, h2⟩ := h
    exact ⟨A, cap, (hs 0 (by simp [Sh.size])).trans h1, h2⟩
  | .prod a b, _, _, _, _, _, h, hs => ⟨h.1.shift (fun i hi => hs i (by simp [Sh.size]; omega)), h.2.shift (fun i hi => by have := hs (a.size + i) (by simp [Sh.size]; omega); rw [← Nat.add_assoc, ← Nat.add_assoc] at this; exact this)⟩

theorem CellsAt.one {O : Own} {w : World} : ∀ {e : Sh} {x : den e} {vs : Array Value} {p : Nat}, CellsAt O w e x vs p → ∀ i, i < e.size → ∃ v, vs[p + i]? = some v ∧ v.oneCell' = true
  | .int _, _, _, _, h, i, hi => by have : i = 0 := by simp [Sh.size] at hi; exact hi
                                    subst this; exact ⟨_, h, rfl⟩
  | .bool, _, _, _, h, i, hi => by have : i = 0 := by simp [Sh.size] at hi; exact hi
                                   subst this; exact ⟨_, h, rfl⟩
  | .str, _, _, _, h, i, hi => by have : i = 0 := by simp [Sh.size] at hi; exact hi
                                  subst this; exact ⟨_, h, rfl⟩
  | .list _, _, _, _, h, i, hi => by have : i = 0 := by simp [Sh.size] at hi; exact hi
                                     subst this; obtain ⟨A, cap, h1, _⟩ := h; exact ⟨_, h1, rfl⟩
  | .prod a b, _, _, p, h, i, hi => by
    rcases Nat.lt_or_ge i a.size with hia | hia
    · exact h.1.one i hia
    · obtain ⟨v, h1, h2⟩ := h.2.one (i - a.size) (by simp [Sh.size] at hi; omega)
      exact ⟨v, by rw [show p + i = p + a.size + (i - a.size) by omega]; exact h1, h2⟩

/-- A list's elements, in cells. -/
def FlatR (O : Own) (w : World) (e : Sh) (l : List (den e)) (vs : List Value) : Prop :=
  vs.length = l.length * e.size ∧ ∀ i x, l[i]? = some x → CellsAt O w e x vs.toArray (i * e.size)

theorem idx_lt {i n s j : Nat} (h : i < n) (hj : j < s) : i * s + j < n * s := by
  have h1 : (i + 1) * s ≤ n * s := Nat.mul_le_mul_right s (by omega)
  rw [mul_add'] at h1
  omega

/-- A row in memory holds its list's cells. -/
theorem flat_of {O : Own} {w : World} {e : Sh} {l : List (den e)} {us : Array Value} {off : Nat} (hx : ∀ i x, l[i]? = some x → CellsAt O w e x us (off + i * e.size)) :
    ∃ vs, FlatR O w e l vs ∧ (∀ j v, vs[j]? = some v → us[off + j]? = some v) ∧ (∀ v ∈ vs, v.oneCell' = true) := by
  have key : ∀ j, j < l.length * e.size → ∃ v, us[off + j]? = some v ∧ v.oneCell' = true := fun j hj => by
    have hs := e.size_pos
    have hi : j / e.size < l.length := Nat.div_lt_of_lt_mul (by rw [Nat.mul_comm]; exact hj)
    obtain ⟨v, h1, h2⟩ := (hx (j / e.size) _ (List.getElem?_eq_getElem hi)).one (j % e.size) (Nat.mod_lt _ hs)
    rw [Nat.add_assoc, Nat.mul_comm, Nat.div_add_mod] at h1
    exact ⟨v, h1, h2⟩
  let vs : List Value := (List.range (l.length * e.size)).map fun j => (us[off + j]?).getD undef
  have hlen : vs.length = l.length * e.size := by simp [vs]
  have hget : ∀ j, j < l.length * e.size → vs[j]? = us[off + j]? := fun j hj => by
    obtain ⟨v, hv, _⟩ := key j hj
    simp [vs, hj, hv]
  refine ⟨vs, ⟨hlen, fun i x hi => (hx i x hi).shift (fun j hj => ?_)⟩, fun j v hv => ?_, fun v hv => ?_⟩
  · have := hget (i * e.size + j) (idx_lt (get_lt hi) hj)
    rw [Nat.add_assoc]
    simpa using this
  · have hj : j < l.length * e.size := by have := get_lt hv; omega
    rw [← hget j hj]; exact hv
  · obtain ⟨j, hj⟩ := List.getElem?_of_mem hv
    have hjl : j < l.length * e.size := by have := get_lt hj; omega
    obtain ⟨u, h1, h2⟩ := key j hjl
    rw [hget j hjl, h1] at hj
    cases hj; exact h2

theorem FlatR.app {O : Own} {w : World} {e : Sh} {l l' : List (den e)} {vs us : List Value} (h : FlatR O w e l vs) (h' : FlatR O w e l' us) : FlatR O w e (l ++ l') (vs ++ us) := by
  refine ⟨by rw [List.length_append, List.length_append, h.1, h'.1, mul_add'], fun i x hi => ?_⟩
  rcases Nat.lt_or_ge i l.length with hl | hl
  · rw [List.getElem?_append_left hl] at hi
    refine (h.2 i x hi).shift (fun j hj => ?_)
    have := idx_lt hl hj
    rw [← h.1] at this
    simp [List.getElem?_append_left this]
  · rw [List.getElem?_append_right hl] at hi
    refine (h'.2 (i - l.length) x hi).shift (fun j hj => ?_)
    have e1 : i * e.size + j = vs.length + ((i - l.length) * e.size + j) := by
      have : i * e.size = l.length * e.size + (i - l.length) * e.size := by rw [← mul_add']; congr 1; omega
      rw [h.1, this, Nat.add_assoc]
    rw [e1]
    simp [List.getElem?_append_right (Nat.le_add_right _ _)]

end Go.Proofs.Ytmenplonaapliaa.AE
end
section
set_option linter.unusedVariables false
set_option linter.unusedSimpArgs false
namespace Go.Proofs.Ytmenplonaapliaa.AE
open Go Go.RowKit
variable {W₀ : World}

/-- One of one's own rows is written. -/
theorem Mem.write {X : XO W₀} {w w' : World} {ρ : List RB} {σ : List Blk} (m : Mem X w ρ σ) {id b : Nat} {r : RB} {k k' : Blk} (hr : ρ[id]? = some r) (hk : σ[id]? = some k) (hl : Live r k b) (hl' : ∀ c, Live r k' c → c = b)
    (hrest : ∀ c, c ≠ b → w'.heap[c]? = w.heap[c]?) (hsize : w'.heap.size = w.heap.size) (hb : Turn (OX X ρ σ) w (OX X ρ (σ.set id k')) w' → BlkR (OX X ρ (σ.set id k')) w' ρ r k') :
    Mem X w' ρ (σ.set id k') ∧ Turn (OX X ρ σ) w (OX X ρ (σ.set id k')) w' := by
  have hlt := get_lt hk
  have hown : ∀ c, owns ρ (σ.set id k') c → owns ρ σ c := by
    rintro c ⟨j, r', k₁, h1, h2, h3⟩
    by_cases e : id = j
    · subst e
      rw [List.getElem?_set_self hlt] at h2; cases h2
      rw [hr] at h1; cases h1
      rw [hl' c h3]
      exact ⟨id, r, k, hr, hk, hl⟩
    · rw [List.getElem?_set_ne e] at h2
      exact ⟨j, r', k₁, h1, h2, h3⟩
  have hob : OX X ρ σ b := .inl ⟨id, r, k, hr, hk, hl⟩
  have t : Turn (OX X ρ σ) w (OX X ρ (σ.set id k')) w' :=
    ⟨fun c _ h => h.imp (hown c) (fun x => x), by rw [hsize]; exact Nat.le_refl _, fun c _ h => hrest c (fun e => h (e ▸ hob))⟩
  refine ⟨⟨by simp [m.len], ?_, ?_, fun c hc => m.dis c (hown c hc), fun c hc => by rw [hsize]; exact m.xlow c hc, m.top.trans t⟩, t⟩
  · intro j r' k₁ h1 h2
    by_cases e : id = j
    · subst e
      rw [List.getElem?_set_self hlt] at h2; cases h2
      rw [hr] at h1; cases h1
      exact hb t
    · rw [List.getElem?_set_ne e] at h2
      exact (m.blk j r' k₁ h1 h2).turn t (Ext.refl _) (fun c hc => hrest c (fun ec => by subst ec; exact e (m.inj id j r k r' k₁ _ hr hk hl h1 h2 hc)))
  · intro i j r₁ k₁ r₂ k₂ c h1 h2 h3 h4 h5 h6
    have up : ∀ {i : Nat} {r₁ : RB} {k₁ : Blk}, ρ[i]? = some r₁ → (σ.set id k')[i]? = some k₁ → Live r₁ k₁ c → ∃ k₃, σ[i]? = some k₃ ∧ Live r₁ k₃ c := by
      intro i r₁ k₁ h1 h2 h3
      by_cases e : id = i
      · subst e
        rw [List.getElem?_set_self hlt] at h2; cases h2
        rw [hr] at h1; cases h1
        exact ⟨k, hk, by rw [hl' c h3]; exact hl⟩
      · rw [List.getElem?_set_ne e] at h2; exact ⟨k₁, h2, h3⟩
    obtain ⟨k₃, a1, a2⟩ := up h1 h2 h3
    obtain ⟨k₄, b1, b2⟩ := up h4 h5 h6
    exact m.inj i j r₁ k₃ r₂ k₄ c h1 a1 a2 h4 b1 b2

theorem Step.write {X : XO W₀} {w w' : World} {ρ : List RB} {σ : List Blk} {id b : Nat} {r : RB} {k k' : Blk} {vs : Array Value} {T' : TypeId} {fr : Nat × Nat} (hr : ρ[id]? = some r) (hk : σ[id]? = some k) (hl : Live r k b) (hl' : ∀ c, Live r k' c → c = b) (hw : Wrote w w' b vs T' fr)
    (h : Mem X w' ρ (σ.set id k') ∧ Turn (OX X ρ σ) w (OX X ρ (σ.set id k')) w') {T : Nat → Prop} (hT : T id) : Step X w ρ σ w' ρ (σ.set id k') T :=
  ⟨h.1, .refl _, h.2, hw.os, hw.tape, hw.output, fun c _ hc => hw.rest c (fun e => by subst e; exact hc id r k hr hk hl hT), fun j r₁ k₁ c h1 h2 h3 _ => by
    by_cases e : id = j
    · subst e
      rw [List.getElem?_set_self (get_lt hk)] at h2; cases h2
      rw [hr] at h1; cases h1
      exact ⟨id, r, k, hr, hk, by rw [hl' c h3]; exact hl, .inl rfl⟩
    · rw [List.getElem?_set_ne e] at h2
      exact ⟨j, r₁, k₁, h1, h2, h3, .inl rfl⟩⟩

/-- First some rows are settled, then a step. -/
theorem Step.after {X : XO W₀} {w w' : World} {ρ ρ' : List RB} {σ σ₁ σ' : List Blk} {T : Nat → Prop} (f : Frz X w ρ σ σ₁) (s : Step X w ρ σ₁ w' ρ' σ' T) : Step X w ρ σ w' ρ' σ' T :=
  ⟨s.mem, s.ext, f.turn.trans s.turn, s.os, s.tape, s.output, fun b hb h => s.same b hb (fun id r k h1 h2 h3 => h id r k h1 (f.back h2 h3) h3), fun id r k b h1 h2 h3 h4 => by
    obtain ⟨i, r', k', q1, q2, q3, q4⟩ := s.orig id r k b h1 h2 h3 h4
    exact ⟨i, r', k', q1, f.back q2 q3, q3, q4⟩⟩

section
variable {P : Program} {R : Type} {r : R} {X : XO W₀} {w : World} {ρ : List RB} {a : Act} {o : Oper} {st : St} {k : AV → List Blk → Option R}

theorem run_storeVar {t : TypeId} {n : Nat} (hn : sizeT P t = some n) {v : Value} (hv : v.cells.size = n) {A : Addr} {w w' : World} (h : (storeCells A v.cells.toList).run P w = .ok () w') : (storeVar t A v).run P w = .ok () w' := by
  simp [storeVar, run_sizeT hn, hv, h]

theorem ones_ok {O : Own} {cs : List Sc} {us : List Value} (hs : ScsR O w ρ cs us) (h : cs.all oneSc = true) : ∀ v ∈ us, v.oneCell' = true := by
  intro v hv
  obtain ⟨i, hi⟩ := List.getElem?_of_mem hv
  have hlt : i < cs.length := by have := get_lt hi; have := hs.1; omega
  exact (oneSc_ok (hs.2 i cs[i] v (List.getElem?_eq_getElem hlt) hi) (List.all_eq_true.1 h _ (List.getElem_mem hlt))).2

theorem projN_ok {X : XO W₀} {w : World} {ρ : List RB} {e : Sh} : ∀ {n : Nat} {cs : List Sc} {σ σ' : List Blk} {l : List (den e)} {vs : List Value}, Mem X w ρ σ → ScsR (OX X ρ σ) w ρ cs vs → projN e n cs σ = some (l, σ') →
    Frz X w ρ σ σ' ∧ l.length = n ∧ FlatR (OX X ρ σ') w e l vs
  | 0, [], σ, σ', l, vs, m, hs, h => by
    simp [projN] at h
    obtain ⟨rfl, rfl⟩ := h
    have : vs = [] := List.length_eq_zero_iff.1 hs.1.symm
    subst this
    exact ⟨.refl m, rfl, by simp, by simp⟩
  | 0, _ :: _, σ, σ', l, vs, m, hs, h => by simp [projN] at h
  | n + 1, cs, σ, σ', l, vs, m, hs, h => by
    simp only [projN] at h
    split at h
    · rename_i x r σ₁ h₁
      split at h
      · rename_i l₁ σ₂ h₂
        cases h
        obtain ⟨f₁, u₁, u₂, rfl, hl, hs₁, c₁⟩ := proj_ok m hs h₁
        obtain ⟨f₂, hn, hf⟩ := projN_ok f₁.mem hs₁ h₂
        refine ⟨f₁.trans f₂, by simp [hn], by rw [List.length_append, hl, hf.1, List.length_cons, mul_add', Nat.one_mul, Nat.add_comm], fun i y hi => ?_⟩
        cases i with
        | zero =>
          simp at hi; subst hi
          rw [Nat.zero_mul]
          exact (c₁ _ 0 (fun i v hv => by rw [Nat.zero_add]; simp [List.getElem?_append_left (get_lt hv)]; simpa using hv)).turn f₂.turn
        | succ i =>
          have := hf.2 i y (by simpa using hi)
          refine this.shift (fun j hj => ?_)
          have e1 : (i + 1) * e.size + j = u₁.length + (i * e.size + j) := by rw [hl, mul_add', Nat.one_mul]; omega
          rw [e1]
          simp [List.getElem?_append_right (Nat.le_add_right _ _)]
      · cases h
    · cases h

theorem does_store (m : Mem X w ρ st.blks) (henv : EnvR (OX X ρ st.blks) w ρ st.env a) {t : TypeId} {x y : Operand} (ho : o.op = .store t x y) {c : Sc} {v : AV1} (hx : st.opd x = .one (.sc c)) (hy : st.opd y = .one v)
    (h : storeK P st.blks t c v (fun σ => k (.one (.sc (.val undef))) σ) = some r) {T : Nat → Prop} (hT : ∀ id, (∃ off, c = .ref id off) ∨ (∃ i off, c = .eref id i off) → T id) : Does P o a X w ρ st.blks T k r := by
  have e := opd_eq henv hy
  have ec := (opd_eq henv hx).sc_of
  generalize hax : a.eval x = ax at ec
  generalize hay : a.eval y = ay at e
  cases e with
  | one e =>
  unfold storeK at h
  split at h
  · rename_i n hn
    split at h
    · rename_i hb
      simp only [Bool.and_eq_true, beq_iff_eq] at hb
      obtain ⟨⟨b1, b2⟩, b3⟩ := hb
      have hc := av1Cells_ok e b3
      have h1 := ones_ok hc b2
      have hsz : ay.cells.size = n := by have := hc.1; simp at this; omega
      have fin : ∀ {A : Addr} {w' : World} {σ' : List Blk}, ax = .pointer (some A) → (storeCells A ay.cells.toList).run P w = .ok () w' → k (.one (.sc (.val undef))) σ' = some r → Step X w ρ st.blks w' ρ σ' T → Does P o a X w ρ st.blks T k r := by
        intro A w' σ' hA hrun hk s
        refine ⟨_, _, .skip, w', ρ, σ', hk, ?_, .inr ⟨rfl, rfl⟩, .one (.sc (.val _)), s⟩
        unfold execOp; rw [ho]
        simp [Instr.storeAt, hax, hA, Instr.sureAddr, run_storeVar hn (hay ▸ hsz : (a.eval y).cells.size = n) (by rw [hay]; exact hrun)]
      split at h
      · rename_i id off
        rw [getAt_eq] at h
        split at h
        · rename_i T' cs hk
          split at h
          · rename_i hble
            have hble := Nat.le_of_ble_eq_true hble
            cases ec with
            | @ref _ _ b hr =>
              have hbk := m.blk id _ _ hr hk
              cases hbk with
              | @cells _ _ _ _ vs fr hh hu hcs =>
                have hvs : cs.length = vs.size := by simpa using hcs.1
                have hus : ay.cells.toList.length = n := by simpa using hsz
                obtain ⟨w', hrun, hw⟩ := storeCells_ok P (o := off) ay.cells.toList 0 vs w hh (by omega) hu h1
                have hm := m.write (k' := .cells T' (setCells cs off (av1Cells v))) hr hk .cells (by intro c hc; cases hc; rfl) hw.rest hw.size (fun t => by
                  have hrow := hw.row
                  rw [Nat.add_zero] at hrow
                  exact .cells hrow (by rw [setV_size]; exact hu) (setV_ok (hc.turn t (Ext.refl _)) (hcs.turn t (Ext.refl _))))
                rw [← setAt_eq] at hm
                have s := Step.write (T := T) (k' := .cells T' (setCells cs off (av1Cells v))) hr hk .cells (by intro c hc; cases hc; rfl) hw (by rw [setAt_eq] at hm; exact hm) (hT id (.inl ⟨_, rfl⟩))
                rw [← setAt_eq] at s
                exact fin rfl hrun h s
          · cases h
        · cases h
      · rename_i id i off
        rw [getAt_eq] at h
        split at h
        · rename_i e l hk
          split at h
          · rename_i hble
            have hble := Nat.le_of_ble_eq_true hble
            split at h
            · rename_i x σ' hp
              rw [getAt_eq] at h
              split at h
              · rename_i e' l' hk'
                cases ec with
                | @eref _ _ _ b len cap sz hr hlt =>
                  have hbk := m.blk id _ _ hr hk
                  cases hbk with
                  | elems hl hcap hrow =>
                    have hil : i < l.length := by omega
                    obtain ⟨vs, T', fr, g1, g2⟩ := elem_cells (ρ := ρ) hrow hil
                    obtain ⟨q0, vs', T'', fr', q1, q2, q3, q4⟩ := hrow
                    rw [g1] at q1; cases q1
                    -- the element's own cells
                    have hin : (i + 1) * e.size ≤ vs.size := Nat.le_trans (Nat.mul_le_mul_right _ (by omega)) q2
                    rw [mul_add', Nat.one_mul] at hin
                    let ev : Array Value := vs.extract (i * e.size) (i * e.size + e.size)
                    have hev : ev.size = e.size := by simp [ev]; omega
                    have hevg : ∀ j, j < e.size → ev[j]? = vs[i * e.size + j]? := fun j hj => by
                      simp only [ev, Array.getElem?_extract]
                      rw [if_pos (by omega)]
                    have hsc : ScsR (OX X ρ st.blks) w ρ (inj e (l.getD i (dflt e))) ev.toList := by
                      refine ⟨by rw [inj_len]; simp [hev], fun j c u hc hu => ?_⟩
                      obtain ⟨u', k1, k2⟩ := g2 j c hc
                      have hj : j < e.size := by have := get_lt hc; rw [inj_len] at this; exact this
                      rw [← hevg j hj] at k1
                      rw [Array.getElem?_toList, k1] at hu
                      cases hu; exact k2
                    obtain ⟨f, hlen, hcell⟩ := projAll_ok m (setV_ok (off := off) hc hsc) hp
                    have hus : ay.cells.toList.length = n := by simpa using hsz
                    obtain ⟨w', hrun, hw⟩ := storeCells_ok P (o := i * e.size + off) ay.cells.toList 0 vs w g1 (by omega) (q3 rfl).1 h1
                    have hk2 : σ'[id]? = some (.elems e l) := by
                      rcases f.old id _ hk with z | ⟨_, _, _, z⟩
                      · exact z
                      · rw [z] at hk'; cases hk'
                    have hm := f.mem.write (k' := .elems e (l.set i x)) hr hk2 .elems (by intro c hc; cases hc; rfl) hw.rest hw.size (fun t => by
                      have hrow' := hw.row
                      rw [Nat.add_zero] at hrow'
                      refine .elems (by simpa using hl) hcap ⟨fun h => by simp at h, _, _, _, hrow', by rw [setV_size]; exact q2, fun _ => by rw [setV_size]; exact q3 rfl, fun j y hy => ?_⟩
                      by_cases eij : i = j
                      · subst eij
                        rw [List.getElem?_set_self hil] at hy; cases hy
                        refine (hcell _ (i * e.size) (fun j u hu => ?_)).turn t
                        have hj : j < e.size := by have := get_lt hu; rw [← hlen]; exact this
                        rw [Array.getElem?_toList, setV_get _ _ _ _ (by omega)] at hu
                        rw [setV_get _ _ _ _ (by omega)]
                        by_cases e2 : off ≤ j ∧ j < off + ay.cells.toList.length
                        · rw [if_pos e2] at hu
                          rw [if_pos (by omega), show i * e.size + j - (i * e.size + off) = j - off by omega]
                          exact hu
                        · rw [if_neg e2] at hu
                          rw [if_neg (by omega), ← hevg j hj]
                          exact hu
                      · rw [List.getElem?_set_ne eij] at hy
                        refine ((q4 j y hy).turn (f.turn.trans t)).shift (fun p hp' => ?_)
                        rw [setV_get _ _ _ _ (by omega), if_neg]
                        rcases Nat.lt_or_gt_of_ne eij with hlt' | hlt'
                        · have : (i + 1) * e.size ≤ j * e.size := Nat.mul_le_mul_right _ hlt'
                          rw [mul_add', Nat.one_mul] at this
                          omega
                        · have : (j + 1) * e.size ≤ i * e.size := Nat.mul_le_mul_right _ hlt'
                          rw [mul_add', Nat.one_mul] at this
                          omega)
                    have s := Step.after f (Step.write (T := T) hr hk2 .elems (by intro c hc; cases hc; rfl) hw hm (hT id (.inr ⟨_, _, rfl⟩)))
                    rw [setAt_eq] at h
                    exact fin rfl hrun h s
              · cases h
            · cases h
          · split at h
            · rename_i l' σ' hz hp
              simp only [Bool.and_eq_true] at hz
              obtain ⟨⟨hi0, ho0⟩, hn0⟩ := hz
              have hi0 := Nat.eq_of_beq_eq_true hi0
              have ho0 := Nat.eq_of_beq_eq_true ho0
              have hn0 := Nat.eq_of_beq_eq_true hn0
              subst hi0; subst ho0
              rw [getAt_eq] at h
              split at h
              · rename_i e' l₂ hk'
                cases ec with
                | @eref _ _ _ b len cap sz hr hlt =>
                  have hbk := m.blk id _ _ hr hk
                  cases hbk with
                  | elems hl hcap hrow =>
                    obtain ⟨f, hlen, hfl⟩ := projN_ok m hc hp
                    obtain ⟨q0, vs, T', fr, g1, q2, q3, q4⟩ := hrow
                    have hus : ay.cells.toList.length = n := by simpa using hsz
                    have hbig : l.length * e.size ≤ vs.size := Nat.le_trans (Nat.mul_le_mul_right _ (by omega)) q2
                    obtain ⟨w', hrun, hw⟩ := storeCells_ok P (o := 0) ay.cells.toList 0 vs w g1 (by omega) (q3 rfl).1 h1
                    have hk2 : σ'[id]? = some (.elems e l) := by
                      rcases f.old id _ hk with z | ⟨_, _, _, z⟩
                      · exact z
                      · rw [z] at hk'; cases hk'
                    have hm := f.mem.write (k' := .elems e l') hr hk2 .elems (by intro c hc; cases hc; rfl) hw.rest hw.size (fun t => by
                      have hrow' := hw.row
                      rw [Nat.add_zero] at hrow'
                      refine .elems (by omega) hcap ⟨fun h => by simp at h, _, _, _, hrow', by rw [setV_size]; exact q2, fun _ => by rw [setV_size]; exact q3 rfl, fun j y hy => ?_⟩
                      refine ((hfl.2 j y hy).turn t).shift (fun p hp' => ?_)
                      have hj := get_lt hy
                      have := idx_lt (s := e.size) hj hp'
                      have hn' : ay.cells.toList.length = l'.length * e.size := by rw [hlen]; omega
                      rw [setV_get _ _ _ _ (by omega), if_pos (by omega)]
                      simp)
                    have s := Step.after f (Step.write (T := T) hr hk2 .elems (by intro c hc; cases hc; rfl) hw hm (hT id (.inr ⟨_, _, rfl⟩)))
                    rw [setAt_eq] at h
                    simp only [Nat.zero_mul, Nat.add_zero] at *
                    exact fin rfl hrun h s
              · cases h
            · cases h
        · cases h
      · cases h
    · cases h
  · cases h

end

end Go.Proofs.Ytmenplonaapliaa.AE
end
section
set_option linter.unusedVariables false
set_option linter.unusedSimpArgs false
namespace Go.Proofs.Ytmenplonaapliaa.AE
open Go Go.RowKit
variable {W₀ : World}

section
variable {P : Program} {R : Type} {r : R} {X : XO W₀} {w : World} {ρ : List RB} {a : Act} {o : Oper} {st : St} {k : AV → List Blk → Option R}

theorem elemK_ok {t : TypeId} {k : TypeId → Sh → Option R} (h : elemK P t k = some r) : ∃ et e, P.underlying t = some (.slice et) ∧ sizeT P et = some e.size ∧ bytesOk P et = true ∧ k et e = some r := by
  unfold elemK at h
  split at h
  · rename_i et hu
    split at h
    · rename_i e sz h1 h2 h3
      split at h
      · rename_i he
        have he : sz = e.size := by simpa using he
        exact ⟨et, e, hu, he ▸ h2, h3, h⟩
      · cases h
    · cases h
  · cases h

/-- The cells of a list that a value reads as. -/
theorem read_list {σ σ' : List Blk} {e : Sh} {c : Sc} {v : Value} {y : List (den e)} (m : Mem X w ρ σ) (hc : ScR (OX X ρ σ) w ρ c v) (h : asList e c σ = some (y, σ')) :
    ∃ A cap vs, v = .slice A y.length cap ∧ FlatR (OX X ρ σ) w e y vs ∧ (∀ u ∈ vs, u.oneCell' = true) ∧ ∀ w₁, w₁.heap = w.heap → (Builtin.firstCells e.size y.length v).run P w₁ = .ok vs.toArray w₁ := by
  have base : ∀ {l : List (den e)} {A : Option Addr} {cap : Nat}, (l = [] ∨ ∃ b o us T fr, A = some ⟨b, o, none⟩ ∧ w.heap[b]? = some (.cells us T fr) ∧ ∀ i x, l[i]? = some x → CellsAt (OX X ρ σ) w e x us (o + i * e.size)) →
      ∃ A' cap' vs, (Value.slice A l.length cap) = .slice A' l.length cap' ∧ FlatR (OX X ρ σ) w e l vs ∧ (∀ u ∈ vs, u.oneCell' = true) ∧ ∀ w₁, w₁.heap = w.heap → (Builtin.firstCells e.size l.length (.slice A l.length cap)).run P w₁ = .ok vs.toArray w₁ := by
    intro l A cap h
    rcases h with rfl | ⟨b, o, us, T, fr, rfl, hh, hx⟩
    · refine ⟨A, cap, [], rfl, ⟨by simp, by simp⟩, by simp, fun w₁ _ => ?_⟩
      cases A <;> simp [Builtin.firstCells, loadCells, loadCellsFrom]
    · obtain ⟨vs, h1, h2, h3⟩ := flat_of hx
      refine ⟨_, _, vs, rfl, h1, h3, fun w₁ hw => ?_⟩
      have := run_loadCells_list (P := P) w₁ ⟨b, o, none⟩ vs (fun j v hv => by rw [add_addr, cell_at (hw ▸ hh)]; exact h2 j v hv)
      rw [h1.1] at this
      simpa [Builtin.firstCells] using this
  have row : ∀ {l : List (den e)} {b : Option Nat} {len cap : Nat} {own : Bool} {A : Option Addr} {c' : Nat}, len = l.length → len ≤ cap → RowR (OX X ρ σ) w b cap e l own → OwnA b A →
      ∃ A' cap' vs, (Value.slice A l.length c') = .slice A' l.length cap' ∧ FlatR (OX X ρ σ) w e l vs ∧ (∀ u ∈ vs, u.oneCell' = true) ∧ ∀ w₁, w₁.heap = w.heap → (Builtin.firstCells e.size l.length (.slice A l.length c')).run P w₁ = .ok vs.toArray w₁ := by
    intro l b len cap own A c' hl hcap hrow hA
    refine base ?_
    cases b with
    | none => simp [RowR] at hrow; exact .inl (List.length_eq_zero_iff.1 (by omega))
    | some b =>
      obtain ⟨_, us, T, fr, g1, g2, g3, g4⟩ := hrow
      exact .inr ⟨b, 0, us, T, fr, hA b rfl, g1, fun i x hi => by rw [Nat.zero_add]; exact g4 i x hi⟩
  have view : ∀ {l : List (den e)} {b : Option Nat} {len cap lo hi : Nat} {own : Bool} {A : Option Addr} {c' : Nat}, len = l.length → len ≤ cap → RowR (OX X ρ σ) w b cap e l own → lo ≤ hi → hi ≤ len → (∀ x, b = some x → lo = 0 ∨ lo < hi → A = some ⟨x, lo * e.size, none⟩) →
      ∃ A' cap' vs, (Value.slice A (hi - lo) c') = .slice A' ((l.take hi).drop lo).length cap' ∧ FlatR (OX X ρ σ) w e ((l.take hi).drop lo) vs ∧ (∀ u ∈ vs, u.oneCell' = true) ∧ ∀ w₁, w₁.heap = w.heap → (Builtin.firstCells e.size ((l.take hi).drop lo).length (.slice A (hi - lo) c')).run P w₁ = .ok vs.toArray w₁ := by
    intro l b len cap lo hi own A c' hl hcap hrow h1 h2 hA
    have hlen : ((l.take hi).drop lo).length = hi - lo := by simp; omega
    rw [← hlen]
    refine base ?_
    rcases Nat.lt_or_ge lo hi with hlt | hge
    · cases b with
      | none => simp [RowR] at hrow; omega
      | some b =>
        obtain ⟨_, us, T, fr, g1, g2, g3, g4⟩ := hrow
        refine .inr ⟨b, lo * e.size, us, T, fr, hA b rfl (.inr hlt), g1, fun i x hi' => ?_⟩
        have hi2 : l[lo + i]? = some x := by
          rw [List.getElem?_drop, List.getElem?_take] at hi'
          split at hi'
          · exact hi'
          · cases hi'
        have := g4 (lo + i) x hi2
        rw [mul_add'] at this
        exact this
    · exact .inl (List.length_eq_zero_iff.1 (by omega))
  unfold asList at h
  split at h
  · split at h
    · rename_i he; subst he
      cases h
      cases hc with
      | list hs hf =>
        refine base ?_
        rcases hs.2 with h0 | ⟨b, o, us, T, fr, hA, hb, hh, hx⟩
        · exact .inl h0
        · exact .inr ⟨b, o, us, T, fr, hA, hh, hx⟩
    · cases h
  · cases h
    cases hc with
    | val => exact base (.inl rfl)
  · rename_i id vw
    rw [getAt_eq] at h
    split at h
    · rename_i e' l' hk
      split at h
      · rename_i he; subst he
        cases h
        obtain ⟨r', hr⟩ := m.rho hk
        have hb := m.blk id r' _ hr hk
        cases hc with
        | @own _ len cap sz b A ho hA =>
          rw [hr] at ho; cases ho
          cases hb with
          | elems hl hc' hrow => rw [hl]; exact row hl hc' hrow hA
        | @view _ len cap sz lo hi c b A ho h1 h2 hA hcc =>
          rw [hr] at ho; cases ho
          cases hb with
          | elems hl hc' hrow => exact view hl hc' hrow h1 h2 hA
      · cases h
    · rename_i e' l' hk
      split at h
      · rename_i he; subst he
        cases h
        obtain ⟨r', hr⟩ := m.rho hk
        have hb := m.blk id r' _ hr hk
        cases hc with
        | @own _ len cap sz b A ho hA =>
          rw [hr] at ho; cases ho
          cases hb with
          | froz hl hc' hrow => rw [hl]; exact row hl hc' hrow hA
        | @view _ len cap sz lo hi c b A ho h1 h2 hA hcc =>
          rw [hr] at ho; cases ho
          cases hb with
          | froz hl hc' hrow => exact view hl hc' hrow h1 h2 hA
      · cases h
    · cases h
  · cases h

end

end Go.Proofs.Ytmenplonaapliaa.AE
end
section
set_option linter.unusedVariables false
set_option linter.unusedSimpArgs false
namespace Go.Proofs.Ytmenplonaapliaa.AE
open Go Go.RowKit
variable {W₀ : World}

/-- One of one's own rows goes over into a new one: in its place, or in new memory. -/
theorem Mem.swap {X : XO W₀} {w w' : World} {ρ : List RB} {σ : List Blk} (m : Mem X w ρ σ) {id : Nat} {r r' : RB} {k k' : Blk} (hr : ρ[id]? = some r) (hk : σ[id]? = some k)
    (hl' : ∀ c, Live r' k' c → Live r k c ∨ w.heap.size ≤ c) (hrest : ∀ c, c < w.heap.size → ¬ Live r k c → w'.heap[c]? = w.heap[c]?) (hsize : w.heap.size ≤ w'.heap.size)
    (hb : Turn (OX X ρ σ) w (OX X (ρ ++ [r']) (σ.set id .dead ++ [k'])) w' → BlkR (OX X (ρ ++ [r']) (σ.set id .dead ++ [k'])) w' (ρ ++ [r']) r' k') :
    Mem X w' (ρ ++ [r']) (σ.set id .dead ++ [k']) ∧ Turn (OX X ρ σ) w (OX X (ρ ++ [r']) (σ.set id .dead ++ [k'])) w' := by
  have hlt := get_lt hk
  have hlen := m.len
  -- what the new blocks' live rows come from
  have from' : ∀ {j : Nat} {r₁ : RB} {k₁ : Blk} {c : Nat}, (ρ ++ [r'])[j]? = some r₁ → (σ.set id .dead ++ [k'])[j]? = some k₁ → Live r₁ k₁ c →
      (j ≠ id ∧ ρ[j]? = some r₁ ∧ σ[j]? = some k₁) ∨ (j = ρ.length ∧ (Live r k c ∨ w.heap.size ≤ c)) := by
    intro j r₁ k₁ c h1 h2 h3
    rcases app_get h1 with g1 | ⟨g1, e1⟩ <;> rcases app_get h2 with g2 | ⟨g2, e2⟩
    · by_cases e : id = j
      · subst e
        rw [List.getElem?_set_self hlt] at g2; cases g2; cases h3
      · rw [List.getElem?_set_ne e] at g2
        exact .inl ⟨fun h => e h.symm, g1, g2⟩
    · have := get_lt g1; simp at g2; omega
    · have := get_lt g2; simp at this; omega
    · subst e1; subst e2; exact .inr ⟨g1, hl' c h3⟩
  have hown : ∀ c, c < w.heap.size → owns (ρ ++ [r']) (σ.set id .dead ++ [k']) c → owns ρ σ c := by
    rintro c hc ⟨j, r₁, k₁, h1, h2, h3⟩
    rcases from' h1 h2 h3 with ⟨_, g1, g2⟩ | ⟨_, g | g⟩
    · exact ⟨j, r₁, k₁, g1, g2, h3⟩
    · exact ⟨id, r, k, hr, hk, g⟩
    · omega
  have t : Turn (OX X ρ σ) w (OX X (ρ ++ [r']) (σ.set id .dead ++ [k'])) w' :=
    ⟨fun c hc h => h.imp (hown c hc) (fun x => x), hsize, fun c hc h => hrest c hc (fun hl => h (.inl ⟨id, r, k, hr, hk, hl⟩))⟩
  refine ⟨⟨by simp [hlen], ?_, ?_, ?_, fun c hc => Nat.lt_of_lt_of_le (m.xlow c hc) hsize, m.top.trans t⟩, t⟩
  · intro j r₁ k₁ h1 h2
    rcases app_get h1 with g1 | ⟨g1, e1⟩ <;> rcases app_get h2 with g2 | ⟨g2, e2⟩
    · by_cases e : id = j
      · subst e
        rw [List.getElem?_set_self hlt] at g2; cases g2; exact .dead _
      · rw [List.getElem?_set_ne e] at g2
        have hbk := m.blk j r₁ k₁ g1 g2
        exact hbk.turn t (Ext.app _ _) (fun c hc => hrest c (hbk.live hc) (fun hl => e (m.inj id j r k r₁ k₁ c hr hk hl g1 g2 hc)))
    · have := get_lt g1; simp at g2; omega
    · have := get_lt g2; simp at this; omega
    · subst e1; subst e2; exact hb t
  · intro i j r₁ k₁ r₂ k₂ c h1 h2 h3 h4 h5 h6
    rcases from' h1 h2 h3 with ⟨a0, a1, a2⟩ | ⟨a1, a2⟩ <;> rcases from' h4 h5 h6 with ⟨b0, b1, b2⟩ | ⟨b1, b2⟩
    · exact m.inj i j r₁ k₁ r₂ k₂ c a1 a2 h3 b1 b2 h6
    · rcases b2 with b2 | b2
      · exact absurd (m.inj i id r₁ k₁ r k c a1 a2 h3 hr hk b2) a0
      · have := (m.blk i r₁ k₁ a1 a2).live h3; omega
    · rcases a2 with a2 | a2
      · exact absurd (m.inj j id r₂ k₂ r k c b1 b2 h6 hr hk a2) b0
      · have := (m.blk j r₂ k₂ b1 b2).live h6; omega
    · omega
  · rintro c ⟨j, r₁, k₁, h1, h2, h3⟩ hx
    rcases from' h1 h2 h3 with ⟨_, g1, g2⟩ | ⟨_, g | g⟩
    · exact m.dis c ⟨j, r₁, k₁, g1, g2, h3⟩ hx
    · exact m.dis c ⟨id, r, k, hr, hk, g⟩ hx
    · have := m.xlow c hx; omega

theorem orig_swap {ρ : List RB} {σ : List Blk} {id n : Nat} {r₀ r' : RB} {k₀ k' : Blk} (hr : ρ[id]? = some r₀) (hk : σ[id]? = some k₀) (hl : ρ.length = σ.length) {T : Nat → Prop} (hT : T id) (hl' : ∀ c, Live r' k' c → Live r₀ k₀ c ∨ n ≤ c) :
    ∀ (j : Nat) r k b, (ρ ++ [r'])[j]? = some r → (σ.set id .dead ++ [k'])[j]? = some k → Live r k b → b < n → ∃ (i : Nat) (r' : RB) (k' : Blk), ρ[i]? = some r' ∧ σ[i]? = some k' ∧ Live r' k' b ∧ (i = j ∨ T i) := by
  intro j r k b h1 h2 h3 h4
  rcases app_get h1 with g1 | ⟨g1, e1⟩ <;> rcases app_get h2 with g2 | ⟨g2, e2⟩
  · by_cases e : id = j
    · subst e
      rw [List.getElem?_set_self (get_lt hk)] at g2; cases g2; cases h3
    · rw [List.getElem?_set_ne e] at g2
      exact ⟨j, r, k, g1, g2, h3, .inl rfl⟩
  · have := get_lt g1; simp at g2; omega
  · have := get_lt g2; simp at this; omega
  · subst e1; subst e2
    rcases hl' b h3 with g | g
    · exact ⟨id, r₀, k₀, hr, hk, g, .inr hT⟩
    · omega

section
variable {P : Program} {R : Type} {r : R} {X : XO W₀} {w : World} {ρ : List RB} {a : Act} {o : Oper} {st : St} {k : AV → List Blk → Option R}

theorem growBy_le (n : Nat) : ∀ (rounds c : Nat), Builtin.growBy n rounds c ≤ max c (2 * n + 192)
  | 0, c => by simp [Builtin.growBy]; omega
  | rounds + 1, c => by
    simp only [Builtin.growBy]
    split
    · omega
    · have := growBy_le n rounds (c + (c + 768) / 4)
      omega

theorem nextcap_le (n c : Nat) (h : c < n) : Builtin.nextslicecap n c ≤ 2 * n + 192 := by
  unfold Builtin.nextslicecap
  split
  · omega
  · split
    · omega
    · have := growBy_le n 4 c
      omega

theorem plainArg_ok {t : TypeId} (h : plainArg P t = true) : ∃ d, P.underlying t = some d ∧ (∀ i, d ≠ .int i) := by
  unfold plainArg at h
  split at h
  · rename_i e hu; exact ⟨_, hu, fun i h => by cases h⟩
  · rename_i hu; exact ⟨_, hu, fun i h => by cases h⟩
  · cases h

/-- Append in its place. -/
theorem run_append_in {t u et ty : TypeId} {sz : Nat} (hu : P.underlying t = some (.slice et)) (hs : sizeT P et = some sz) (hp : plainArg P u = true) {A : Option Addr} {n cap m : Nat} {x : Value} (hx : (Builtin.lenOf x).run P w = .ok m w) (hc : n + m ≤ cap)
    {vs : List Value} (hv : (Builtin.firstCells sz m x).run P w = .ok vs.toArray w) {w' : World} (hst : match A with | some b => (storeCells (b.add (n * sz)) vs).run P w = .ok () w' | none => w' = w) :
    (Builtin.append_ #[t, u] ty #[.slice A n cap, x]).run P w = .ok (.slice A (n + m) cap) w' := by
  obtain ⟨d, hd, hi⟩ := plainArg_ok hp
  unfold Builtin.append_
  simp only [List.getElem?_toArray, List.getElem?_cons_zero, List.getElem?_cons_succ, Sem.run_bind, run_und hu, run_und hd, run_sizeT hs, Result.andThen_ok]
  cases d <;> first
    | exact absurd rfl (hi _)
    | (simp only [Sem.run_pure, Result.andThen_ok, Bool.false_eq_true, if_false, hx, if_pos hc, Bool.not_false, if_true, Sem.run_bind, hv]
       cases A with
       | none => simp only at hst; subst hst; simp
       | some b => simp only at hst; simp [hst])

theorem run_append_grow {t u et ty : TypeId} {sz : Nat} (hu : P.underlying t = some (.slice et)) (hs : sizeT P et = some sz) (hp : plainArg P u = true) {A : Option Addr} {n cap m : Nat} {x : Value} (hx : (Builtin.lenOf x).run P w = .ok m w) (hc : cap < n + m)
    (hn : n + m ≤ nmax) (hb : bytesOk P et = true) {zs : List Sc} (hz : zeroCells P et = some zs) (hzs : zs.length = sz) {olds vs : List Value} (ho : ∀ w₁, w₁.heap = w.heap → (Builtin.firstCells sz n (.slice A n cap)).run P w₁ = .ok olds.toArray w₁)
    (hv : ∀ w₁, w₁.heap = w.heap → (Builtin.firstCells sz m x).run P w₁ = .ok vs.toArray w₁) (hlen : olds.length + vs.length = (n + m) * sz) :
    ∃ newCap us dr, n + m ≤ newCap ∧ us.size = newCap * sz ∧ (∀ j, j < (n + m) * sz → us[j]? = (olds ++ vs)[j]?) ∧
      (Builtin.append_ #[t, u] ty #[.slice A n cap, x]).run P w = .ok (.slice (some ⟨w.heap.size, 0, none⟩) (n + m) newCap) { w with heap := w.heap.push (.cells us et), drawn := dr } := by
  obtain ⟨d, hd, hi⟩ := plainArg_ok hp
  obtain ⟨z, hz1, hz2⟩ := zeroCells_ok (O := fun _ => False) (w := w) (ρ := []) hz
  have hzsz : z.cells.size = sz := by have := hz2.1; simp at this; omega
  unfold bytesOk bytesT at hb
  cases hinfo : P.info? et with
  | none => rw [hinfo] at hb; cases hb
  | some inf =>
    rw [hinfo] at hb
    have hby : inf.bytes ≤ 4096 := Nat.le_of_ble_eq_true hb
    have hti : ∀ w₁, (typeInfo et).run P w₁ = .ok inf w₁ := fun w₁ => by simp [typeInfo, program, hinfo, Sem.run]
    let newCap := (n + m) + w.tape w.drawn (.appendCap (n + m) cap et) % (2 ^ 63 - (n + m))
    have hcap : n + m ≤ newCap := Nat.le_add_right _ _
    let us : Array Value := olds.toArray ++ vs.toArray ++ Builtin.zeroCells z.cells (newCap - (n + m))
    have hnext : ¬ (Builtin.nextslicecap (n + m) cap * inf.bytes > 2 ^ 48) := by
      have h1 := nextcap_le (n + m) cap hc
      have h2 : Builtin.nextslicecap (n + m) cap * inf.bytes ≤ (2 * nmax + 192) * 4096 := Nat.mul_le_mul (by omega) hby
      simp only [nmax] at h2
      omega
    have hmax : ¬ (((n + m : Nat) : Int) > IntKind.i64.max ∧ (False ∨ inf.bytes = 0)) := by
      have : IntKind.i64.max = 9223372036854775807 := by decide
      rintro ⟨h, _⟩
      rw [this] at h
      simp only [nmax] at hn
      omega
    refine ⟨newCap, us, w.drawn + 1, hcap, ?_, fun j hj => ?_, ?_⟩
    · simp only [us, Array.size_append, List.size_toArray, Builtin.zeroCells, Array.size_map, Array.size_range, hzsz, hlen]
      rw [← mul_add']; congr 1; omega
    · simp only [us]
      rw [Array.getElem?_append_left (by simp; omega)]
      simp
    · unfold Builtin.append_
      simp only [List.getElem?_toArray, List.getElem?_cons_zero, List.getElem?_cons_succ, Sem.run_bind, run_und hu, run_und hd, run_sizeT hs, Result.andThen_ok]
      have hw1 : ∀ dr, ({ w with drawn := dr } : World).heap = w.heap := fun _ => rfl
      cases d <;> first
        | exact absurd rfl (hi _)
        | (simp only [Sem.run_pure, Result.andThen_ok, Bool.false_eq_true, if_false, hx, if_neg (by omega : ¬ (n + m ≤ cap)), Bool.not_false, if_true, Sem.run_bind, hti, if_neg hnext, false_or]
           rw [if_neg (by simpa using hmax)]
           simp only [Sem.run_bind, hti, if_neg hnext, Sem.run_pure, Result.andThen_ok, run_choose, Question.forced, Bool.false_eq_true, if_false, run_askRoom, ho _ (hw1 _), hv _ (hw1 _), hz1, newRow, Sem.run_bind, run_newObj, Question.cut]
           rfl)

theorem intsOf_len (s : ByteArray) : (intsOf s).length = s.size := by
  unfold intsOf; rw [List.length_map]; rfl

theorem listOf_ok {e : Sh} {c : Sc} {v : Value} {y : List (den e)} (m : Mem X w ρ st.blks) (hc : ScR (OX X ρ st.blks) w ρ c v) (h : listOf e c st.blks = some y) :
    ∃ vs, (Builtin.lenOf v).run P w = .ok y.length w ∧ FlatR (OX X ρ st.blks) w e y vs ∧ (∀ u ∈ vs, u.oneCell' = true) ∧ ∀ w₁, w₁.heap = w.heap → (Builtin.firstCells e.size y.length v).run P w₁ = .ok vs.toArray w₁ := by
  unfold listOf at h
  split at h
  · rename_i s
    cases h
    cases hc with
    | val =>
      refine ⟨s.data.toList.map fun b => .int .u8 b.toNat, by rw [intsOf_len]; rfl, ⟨by simp [intsOf, Sh.size], fun i x hi => ?_⟩, fun u hu => ?_, fun w₁ _ => ?_⟩
      · simp only [intsOf, List.getElem?_map] at hi
        simp only [CellsAt, Sh.size, Nat.mul_one, List.getElem?_toArray, List.getElem?_map]
        cases hb : s.data.toList[i]? with
        | none => rw [hb] at hi; cases hi
        | some b => rw [hb] at hi; cases hi; rfl
      · obtain ⟨b, _, rfl⟩ := List.mem_map.1 hu; rfl
      · have : s.extract 0 (intsOf s).length = s := by
          rw [intsOf_len]
          exact ByteArray.extract_zero_size
        simp [Builtin.firstCells, this]
        rw [← Array.toList_map]
  · rename_i e' c' _
    split at h
    · rename_i l σ' hl
      cases h
      obtain ⟨A, cap, vs, rfl, h1, h2, h3⟩ := read_list (P := P) m hc hl
      exact ⟨vs, rfl, h1, h2, h3⟩
    · cases h

/-- A new row of one's own, out of nobody's. -/
theorem grown_new (m : Mem X w ρ st.blks) {et : TypeId} {e : Sh} {l : List (den e)} {fl : List Value} (hf : FlatR (OX X ρ st.blks) w e l fl) {newCap dr : Nat} {us : Array Value} (hc : l.length ≤ newCap) (hsz : us.size = newCap * e.size) (hg : ∀ j, j < l.length * e.size → us[j]? = fl[j]?) (T : Nat → Prop) :
    ∃ ρ', Step X w ρ st.blks { w with heap := w.heap.push (.cells us et), drawn := dr } ρ' (st.blks ++ [.elems e l]) T ∧ ScR (OX X ρ' (st.blks ++ [.elems e l])) { w with heap := w.heap.push (.cells us et), drawn := dr } ρ' (.own st.blks.length none) (.slice (some ⟨w.heap.size, 0, none⟩) l.length newCap) := by
  obtain ⟨s, h⟩ := new_row (st := st) m (T := et) (vs := us) (n := dr) (fr := (0, 0)) hc hsz (fun i x hi => (hf.2 i x hi).shift (fun j hj => by
    rw [hg _ (idx_lt (get_lt hi) hj)]; simp)) (loose_none _ _) T
  exact ⟨_, s, h⟩

theorem nmax_and {b : Bool} {p : Prop} [Decidable p] (h : (b && decide p) = true) : b = true ∧ p := by simpa using h

theorem does_append (m : Mem X w ρ st.blks) (henv : EnvR (OX X ρ st.blks) w ρ st.env a) {p q : Operand} {t u : TypeId} (ho : o.op = .call { callee := .builtin .append, args := #[p, q], argTypes := #[t, u] }) {s x : Sc} (hp : st.opd p = .one (.sc s)) (hq : st.opd q = .one (.sc x)) (hpl : plainArg P u = true)
    (h : appendK P st.blks t s x (fun c σ => k (.one (.sc c)) σ) = some r) {T : Nat → Prop} (hT : ∀ id v, s = .own id v → T id) : Does P o a X w ρ st.blks T k r := by
  obtain ⟨et, e, hu, hs, hb, h⟩ := elemK_ok h
  have hx := (opd_eq henv hq).sc_of
  have hps := (opd_eq henv hp).sc_of
  have fin : ∀ {c : Sc} {v : Value} {w' : World} {ρ' : List RB} {σ' : List Blk}, k (.one (.sc c)) σ' = some r → (Builtin.append_ #[t, u] o.type #[a.eval p, a.eval q]).run P w = .ok v w' → ScR (OX X ρ' σ') w' ρ' c v → Step X w ρ st.blks w' ρ' σ' T → Does P o a X w ρ st.blks T k r := by
    intro c v w' ρ' σ' hk hrun hc hst
    refine ⟨_, v, .value v, w', ρ', σ', hk, ?_, .inl rfl, .one (.sc hc), hst⟩
    unfold execOp; rw [ho]
    simp [resolve, invoke, builtin, hrun]
  split at h
  · rename_i y hy hzz
    obtain ⟨zs, hz, hzs⟩ : ∃ zs, zeroCells P et = some zs ∧ zs.length = e.size := by
      cases hz : zeroCells P et with
      | none => rw [hz] at hzz; cases hzz
      | some zs => rw [hz] at hzz; exact ⟨zs, rfl, by simpa using hzz⟩
    obtain ⟨vs, hlen, hflat, hones, hcells⟩ := listOf_ok (P := P) m hx hy
    generalize a.eval q = xv at *
    generalize hpv : a.eval p = pv at *
    -- a row that is nobody's, with no room behind it
    have fresh : ∀ {l : List (den e)} {A : Option Addr} {ol : List Value}, pv = .slice A l.length l.length → FlatR (OX X ρ st.blks) w e l ol → (∀ w₁, w₁.heap = w.heap → (Builtin.firstCells e.size l.length (.slice A l.length l.length)).run P w₁ = .ok ol.toArray w₁) →
        (y.length ≠ 0 ∨ l.length = 0) → l.length + y.length ≤ nmax → k (.one (.sc (.own st.blks.length none))) (st.blks ++ [.elems e (l ++ y)]) = some r → Does P o a X w ρ st.blks T k r := by
      intro l A ol hv hol hoc hor hn hk
      subst hv
      rcases Nat.eq_zero_or_pos y.length with hy0 | hy0
      · have hl0 : l = [] := List.length_eq_zero_iff.1 (by omega)
        have hyn : y = [] := List.length_eq_zero_iff.1 hy0
        subst hl0; subst hyn
        have hvn : vs = [] := List.length_eq_zero_iff.1 (by simpa using hflat.1)
        subst hvn
        have hrun := run_append_in (ty := o.type) (P := P) (A := A) (n := 0) (cap := 0) hu hs hpl hlen (by simp) (hcells w rfl) (w' := w) (by cases A <;> simp [storeCells])
        obtain ⟨m', t'⟩ := m.push (w' := w) (r := .s none 0 0 e.size) (k := .elems e []) (Nat.le_refl _) (fun _ _ => rfl) (by intro b h; cases h) (.elems rfl (Nat.le_refl _) rfl)
        exact fin hk hrun (.own (b := none) (sz := e.size) (by rw [List.getElem?_append_right (by rw [m.len]; exact Nat.le_refl _), m.len]; simp) (fun x h => by cases h)) ⟨m', Ext.app _ _, t', rfl, rfl, rfl, fun _ _ _ => rfl, orig_push m.len (fun b h _ => by cases h)⟩
      · obtain ⟨newCap, us, dr, g1, g2, g3, g4⟩ := run_append_grow (ty := o.type) (P := P) (A := A) hu hs hpl hlen (by omega) hn hb hz hzs hoc hcells (by rw [hol.1, hflat.1, mul_add'])
        have hfa := hol.app hflat
        obtain ⟨ρ', st', hsc⟩ := grown_new m (et := et) (dr := dr) hfa (by rw [List.length_append]; exact g1) g2 (by rw [List.length_append]; exact g3) T
        rw [List.length_append] at hsc
        exact fin hk g4 hsc st'
    split at h
    · obtain ⟨hn, h⟩ := guardK_ok h
      cases hps with
      | val =>
        exact fresh (l := []) (A := none) (ol := []) rfl ⟨by simp, by simp⟩ (fun w₁ _ => rfl) (.inr rfl) (by simpa using hn) (by simpa using h)
    · rename_i e' l _
      split at h
      · rename_i he; subst he
        obtain ⟨hg, h⟩ := guardK_ok h
        obtain ⟨h1, h2⟩ := nmax_and hg
        cases hps with
        | @list _ _ _ A cap hsl hf =>
          have hcap := hf rfl
          subst hcap
          obtain ⟨A', cap', ol, hA, h3, h4, h5⟩ := read_list (P := P) (σ' := st.blks) (e := e') (c := .list e' l true) (y := l) m (.list hsl hf) (by simp [asList])
          cases hA
          exact fresh rfl h3 h5 (by simpa using h1) h2 h
      · cases h
    · rename_i id _
      rw [getAt_eq] at h
      split at h
      · rename_i e' l hk
        split at h
        · rename_i he; subst he
          obtain ⟨hn, h⟩ := guardK_ok h
          have hn := of_decide_eq_true hn
          have hTid : T id := hT id none rfl
          rw [setAt_eq] at h
          cases hps with
          | @own _ len cap sz b A hr hA =>
            have hbk := m.blk id _ _ hr hk
            cases hbk with
            | elems hl hc hrow =>
              subst hl
              have hidx : (ρ ++ [RB.s b (l ++ y).length cap e'.size])[st.blks.length]? = some (RB.s b (l ++ y).length cap e'.size) := by rw [List.getElem?_append_right (by rw [m.len]; exact Nat.le_refl _), m.len]; simp
              by_cases hfit : l.length + y.length ≤ cap
              · cases b with
                | none =>
                  have hcz : cap = 0 := hrow
                  subst hcz
                  have hyn : y = [] := List.length_eq_zero_iff.1 (by omega)
                  subst hyn
                  have hvn : vs = [] := List.length_eq_zero_iff.1 (by simpa using hflat.1)
                  subst hvn
                  have hrun := run_append_in (ty := o.type) (P := P) (A := A) (n := l.length) (cap := 0) hu hs hpl hlen hfit (hcells w rfl) (w' := w) (by cases A <;> simp [storeCells])
                  obtain ⟨m', t'⟩ := m.swap (w' := w) (r' := .s none (l ++ []).length 0 e'.size) (k' := .elems e' (l ++ [])) hr hk (by intro c h; cases h) (fun _ _ _ => rfl) (Nat.le_refl _) (fun _ => .elems rfl (by simpa using hc) rfl)
                  refine fin h hrun ?_ ⟨m', Ext.app _ _, t', rfl, rfl, rfl, fun _ _ _ => rfl, orig_swap hr hk m.len hTid (by intro c h; cases h)⟩
                  rw [← List.length_append]
                  exact .own (b := none) hidx (fun x h => by cases h)
                | some b =>
                  have hA' := hA b rfl
                  subst hA'
                  obtain ⟨g0, us, T', fr, g1, g2, g3, g4⟩ := hrow
                  have hin : (l.length + y.length) * e'.size ≤ us.size := Nat.le_trans (Nat.mul_le_mul_right _ hfit) g2
                  rw [mul_add'] at hin
                  have hfl := hflat.1
                  obtain ⟨w', hst, hw⟩ := storeCells_ok P (o := l.length * e'.size) vs 0 us w g1 (by omega) (g3 rfl).1 hones
                  rw [Nat.add_zero] at hw
                  have hrun := run_append_in (ty := o.type) (P := P) (A := some ⟨b, 0, none⟩) (n := l.length) (cap := cap) hu hs hpl hlen hfit (hcells w rfl) (w' := w') (by simp only [add_addr, Nat.zero_add]; exact hst)
                  obtain ⟨m', t'⟩ := m.swap (w' := w') (r' := .s (some b) (l ++ y).length cap e'.size) (k' := .elems e' (l ++ y)) hr hk (by intro c h; cases h; exact .inl .elems) (fun c _ hc => hw.rest c (fun e => hc (e ▸ .elems))) (by rw [hw.size]; exact Nat.le_refl _) (fun t => by
                    refine .elems rfl (by rw [List.length_append]; exact hfit) ⟨fun h => by simp at h, _, _, _, hw.row, by rw [setV_size]; exact g2, fun _ => by rw [setV_size]; exact g3 rfl, fun i x hi => ?_⟩
                    rcases Nat.lt_or_ge i l.length with hil | hil
                    · rw [List.getElem?_append_left hil] at hi
                      refine ((g4 i x hi).turn t).shift (fun j hj => ?_)
                      have := idx_lt hil hj
                      rw [setV_get _ _ _ _ (by omega), if_neg (by omega)]
                    · rw [List.getElem?_append_right hil] at hi
                      refine ((hflat.2 (i - l.length) x hi).turn t).shift (fun j hj => ?_)
                      have h1 := idx_lt (get_lt hi) hj
                      have h2 : i * e'.size = l.length * e'.size + (i - l.length) * e'.size := by rw [← mul_add']; congr 1; omega
                      rw [setV_get _ _ _ _ (by omega), if_pos (by omega), show i * e'.size + j - l.length * e'.size = (i - l.length) * e'.size + j by omega]
                      simp)
                  refine fin h hrun ?_ ⟨m', Ext.app _ _, t', hw.os, hw.tape, hw.output, fun c _ hc => hw.rest c (fun e => hc id _ _ hr hk (e ▸ .elems) hTid), orig_swap hr hk m.len hTid (by intro c h; cases h; exact .inl .elems)⟩
                  rw [← List.length_append]
                  exact .own hidx (fun x hx => by cases hx; rfl)
              · obtain ⟨A', cap', ol, hA2, h3, h4, h5⟩ := read_list (P := P) (σ' := st.blks.set id (.froz e' l)) (e := e') (c := .own id none) (y := l) m (.own hr hA) (by simp [asList, getAt_eq, hk, setAt_eq, viewOf])
                cases hA2
                obtain ⟨newCap, us, dr, g1, g2, g3, g4⟩ := run_append_grow (ty := o.type) (P := P) (A := A) hu hs hpl hlen (by omega) hn hb hz hzs h5 hcells (by rw [h3.1, hflat.1, mul_add'])
                have hfa := h3.app hflat
                obtain ⟨m', t'⟩ := m.swap (w' := { w with heap := w.heap.push (.cells us et), drawn := dr }) (r' := .s (some w.heap.size) (l ++ y).length newCap e'.size) (k' := .elems e' (l ++ y)) hr hk (by intro c h; cases h; exact .inr (Nat.le_refl _)) (fun c hc _ => push_same w _ c hc) (by simp) (fun t => by
                  refine .elems rfl (by rw [List.length_append]; exact g1) ⟨fun h => by simp at h, us, et, (0, 0), by simp, Nat.le_of_eq g2.symm, fun _ => loose_none _ _, fun i x hi => ((hfa.2 i x hi).turn t).shift (fun j hj => ?_)⟩
                  have h1 := idx_lt (get_lt hi) hj
                  rw [List.length_append] at h1
                  rw [g3 _ h1]; simp)
                refine fin h g4 ?_ ⟨m', Ext.app _ _, t', rfl, rfl, rfl, fun c hc _ => push_same w _ c hc, orig_swap hr hk m.len hTid (by intro c h; cases h; exact .inr (Nat.le_refl _))⟩
                rw [← List.length_append]
                exact .own (b := some w.heap.size) (sz := e'.size) (by rw [List.getElem?_append_right (by rw [m.len]; exact Nat.le_refl _), m.len]; simp) (fun x hx => by cases hx; rfl)
        · cases h
      · cases h
    · rename_i id hi _
      rw [getAt_eq] at h
      split at h
      · rename_i e' l hk
        split at h
        · rename_i he; subst he
          obtain ⟨hn, h⟩ := guardK_ok h
          have hn := of_decide_eq_true hn
          have hTid : T id := hT id _ rfl
          rw [setAt_eq] at h
          cases hps with
          | @view _ len cap sz lo hi' c b A hr h1 h2 hA hcc =>
            have hbk := m.blk id _ _ hr hk
            cases hbk with
            | elems hl hc hrow =>
              subst hl
              have hl' : ((l.take hi) ++ y ++ l.drop (hi + y.length)).length = l.length := by simp; omega
              have hfit : hi - 0 + y.length ≤ c := by omega
              cases b with
              | none =>
                have hcz : cap = 0 := hrow
                subst hcz
                have hyn : y = [] := List.length_eq_zero_iff.1 (by omega)
                subst hyn
                have hvn : vs = [] := List.length_eq_zero_iff.1 (by simpa using hflat.1)
                subst hvn
                have hrun := run_append_in (ty := o.type) (P := P) (A := A) (n := hi - 0) (cap := c) hu hs hpl hlen hfit (hcells w rfl) (w' := w) (by cases A <;> simp [storeCells])
                obtain ⟨m', t'⟩ := m.put (k' := .elems e' ((l.take hi) ++ [] ++ l.drop (hi + 0))) hr hk (by intro b h; cases h) (.elems hl'.symm hc rfl)
                refine fin h hrun ?_ ⟨m', .refl _, t', rfl, rfl, rfl, fun _ _ _ => rfl, fun j r₁ k₁ c h1 h2 h3 _ => by
                  by_cases e : id = j
                  · subst e; rw [List.getElem?_set_self (get_lt hk)] at h2; cases h2; rw [hr] at h1; cases h1; cases h3
                  · rw [List.getElem?_set_ne e] at h2; exact ⟨j, r₁, k₁, h1, h2, h3, .inl rfl⟩⟩
                exact .view (lo := 0) (hi := hi + 0) hr (by omega) (by simp at hn; omega) (fun x h => by cases h) hcc
              | some b =>
                have hA' := hA b rfl (.inl rfl)
                subst hA'
                obtain ⟨g0, us, T', fr, g1, g2, g3, g4⟩ := hrow
                have hin : (hi + y.length) * e'.size ≤ us.size := Nat.le_trans (Nat.mul_le_mul_right _ (by omega)) g2
                rw [mul_add'] at hin
                have hfl := hflat.1
                obtain ⟨w', hst, hw⟩ := storeCells_ok P (o := hi * e'.size) vs 0 us w g1 (by omega) (g3 rfl).1 hones
                rw [Nat.add_zero] at hw
                have hrun := run_append_in (ty := o.type) (P := P) (A := some ⟨b, 0 * e'.size, none⟩) (n := hi - 0) (cap := c) hu hs hpl hlen hfit (hcells w rfl) (w' := w') (by simp only [add_addr, Nat.zero_mul, Nat.zero_add, Nat.sub_zero]; exact hst)
                have hm := m.write (k' := .elems e' ((l.take hi) ++ y ++ l.drop (hi + y.length))) hr hk .elems (by intro c hc; cases hc; rfl) hw.rest hw.size (fun t => by
                  refine .elems hl'.symm hc ⟨fun h => by simp at h, _, _, _, hw.row, by rw [setV_size]; exact g2, fun _ => by rw [setV_size]; exact g3 rfl, fun i x hix => ?_⟩
                  have hlen2 : (l.take hi ++ y).length = hi + y.length := by simp; omega
                  rcases Nat.lt_or_ge i (hi + y.length) with hi1 | hi1
                  · rw [List.getElem?_append_left (by omega)] at hix
                    rcases Nat.lt_or_ge i hi with hi2 | hi2
                    · rw [List.getElem?_append_left (by simp; omega), List.getElem?_take, if_pos hi2] at hix
                      refine ((g4 i x hix).turn t).shift (fun j hj => ?_)
                      have := idx_lt hi2 hj
                      rw [setV_get _ _ _ _ (by omega), if_neg (by omega)]
                    · rw [List.getElem?_append_right (by simp; omega)] at hix
                      have ht : (l.take hi).length = hi := by simp; omega
                      rw [ht] at hix
                      refine ((hflat.2 (i - hi) x hix).turn t).shift (fun j hj => ?_)
                      have h1 := idx_lt (get_lt hix) hj
                      have h2 : i * e'.size = hi * e'.size + (i - hi) * e'.size := by rw [← mul_add']; congr 1; omega
                      rw [setV_get _ _ _ _ (by omega), if_pos (by omega), show i * e'.size + j - hi * e'.size = (i - hi) * e'.size + j by omega]
                      simp
                  · rw [List.getElem?_append_right (by omega), hlen2, List.getElem?_drop, show hi + y.length + (i - (hi + y.length)) = i by omega] at hix
                    refine ((g4 i x hix).turn t).shift (fun j hj => ?_)
                    have h1 : (hi + y.length) * e'.size ≤ i * e'.size := Nat.mul_le_mul_right _ hi1
                    rw [mul_add'] at h1
                    rw [setV_get _ _ _ _ (by omega), if_neg (by omega)])
                have s := Step.write (T := T) hr hk .elems (by intro c hc; cases hc; rfl) hw hm hTid
                refine fin h hrun ?_ s
                have := ScR.view (O := OX X ρ (st.blks.set id (.elems e' ((l.take hi) ++ y ++ l.drop (hi + y.length))))) (w := w') (lo := 0) (hi := hi + y.length) (c := c) (A := some ⟨b, 0 * e'.size, none⟩) hr (by omega) hn (fun x hx _ => by cases hx; rfl) hcc
                simpa using this
        · cases h
      · cases h
    · cases h
  · cases h

end

end Go.Proofs.Ytmenplonaapliaa.AE
end
