/- The abstract machine: symbolic cells, frames, heaps; what an operation does to them; the plain statement 'vc' of a code. -/
import Derived.Test.YtpggklkofilmfaaAbOrder
import Derived.Deep.MidRow
set_option linter.unusedSimpArgs false
set_option linter.unusedVariables false
namespace Go
namespace Ab

/-- A block, as a row is laid upon it: its number, what of it is frozen, the cells ahead of the row and behind it (which nobody looks at). -/
structure BlkO where
  n : Nat
  fr : Nat × Nat
  pre : List Value
  post : List Value
/-- The same; 'ro': nobody writes to it. -/
structure Blk where
  o : BlkO
  ro : Bool
instance : Coe BlkO Blk := ⟨fun b => ⟨b, false⟩⟩
instance : OfNat BlkO 0 := ⟨⟨0, (0, 0), [], []⟩⟩
instance : OfNat Blk 0 := ⟨⟨0, false⟩⟩
def Blk.n (b : Blk) : Nat := b.o.n
/-- Where a row's cell lies. -/
def Blk.lo (b : Blk) : Nat := b.o.pre.length
def Blk.at (b : Blk) (o : Nat) : Addr := ⟨b.n, b.lo + o, none⟩
def BlkO.plain (b : BlkO) : Prop := b = ⟨b.n, (0, 0), [], []⟩
def BlkO.marked (b : BlkO) (m : Nat) : BlkO := ⟨b.n, (m, m + 1), [], []⟩
/-- A cell, or a run of cells. A pointer bears a tag (for the look-up alone), its block, its offset; a slice, too, and whether it is the nil slice ('z' is not 0). -/
inductive Cel where
  | v (x : Value)
  | ptr (t : Nat) (b : Blk) (off : Nat)
  | sl (t : Nat) (b : Blk) (off len cap z : Nat)
  | ints (k : IntKind) (n : Nat) (l : List Int)
  | bools (n : Nat) (l : List Bool)
  | strs (n : Nat) (l : List ByteArray)
  | fn (f : FuncId) (l : List (Nat × Blk × Nat))
/-- Where a slice's row lies: 'z' is 0 but for the nil slice. -/
def baseOf (b : Blk) (o : Nat) : Nat → Option Addr
  | 0 => some (b.at o)
  | _ + 1 => none
def Cel.vals : Cel → List Value
  | .v x => [x]
  | .ptr _ b o => [.pointer (some (b.at o))]
  | .sl _ b o n c z => [.slice (baseOf b o z) n c]
  | .ints k _ l => l.map (.int k)
  | .bools _ l => l.map .bool
  | .strs _ l => l.map .string
  | .fn f l => [.func (.func f) #[] (l.map fun x => Value.pointer (some (x.2.1.at x.2.2))).toArray]
def Cel.len : Cel → Nat
  | .ints _ n _ => n
  | .bools n _ => n
  | .strs n _ => n
  | _ => 1
def Cel.ok : Cel → Prop
  | .v x => x.oneCell' = true
  | .ints _ n l => l.length = n
  | .bools n l => l.length = n
  | .strs n l => l.length = n
  | _ => True
def Cel.okB : Cel → Bool
  | .v x => x.oneCell'
  | .ints _ n l => Nat.beq l.length n
  | .bools n l => Nat.beq l.length n
  | .strs n l => Nat.beq l.length n
  | _ => true
def valsOf (l : List Cel) : List Value := l.flatMap Cel.vals
def lenOf (l : List Cel) : Nat := (l.map Cel.len).foldr (· + ·) 0

inductive SA where
  | c (x : Cel)
  | agg (l : List Cel)
inductive SV where
  | c (x : Cel)
  | agg (l : List Cel)
  | tup (l : List SA)
def Cel.one (x : Cel) : Value := x.vals.headD undef
def SA.den : SA → Value
  | .c x => x.one
  | .agg l => .agg (valsOf l).toArray
def SV.den : SV → Value
  | .c x => x.one
  | .agg l => .agg (valsOf l).toArray
  | .tup l => .tuple (l.map SA.den).toArray
def SA.ok : SA → Prop
  | .c _ => True
  | .agg l => ∀ c ∈ l, c.ok
def SV.ok : SV → Prop
  | .c _ => True
  | .agg l => ∀ c ∈ l, c.ok
  | .tup l => ∀ a ∈ l, a.ok
def SA.sv : SA → SV
  | .c x => .c x
  | .agg l => .agg l
def SV.sa : SV → Option SA
  | .c x => some (.c x)
  | .agg l => some (.agg l)
  | .tup _ => none
abbrev SV.int (k : IntKind) (n : Int) : SV := .c (.v (.int k n))
abbrev SV.bool (b : Bool) : SV := .c (.v (.bool b))
abbrev SV.nothing : SV := .c (.v undef)

/-! ### Frames -/
abbrev Sl := List (Nat × SV)
def Sl.get (i : Nat) : Sl → Option SV
  | [] => none
  | (j, v) :: r => match Nat.beq i j with
    | true => some v
    | false => Sl.get i r
def Sl.setD (s : Sl) (d : Option Nat) (v : SV) : Sl := match d with
  | some d => (d, v) :: s
  | none => s
def elem (i : Nat) : List Nat → Bool
  | [] => false
  | j :: r => match Nat.beq i j with
    | true => true
    | false => elem i r
def Sl.keep (ks : List Nat) : Sl → Sl
  | [] => []
  | (j, v) :: r => match elem j ks with
    | true => (j, v) :: Sl.keep ks r
    | false => Sl.keep ks r

/-! ### Heaps -/
inductive Cont where
  | cells (ty : TypeId) (l : List Cel)
  | void
  | op (p : Blk → Bool × Obj → Prop)
abbrev Hp := List (Nat × Blk × Cont)
def Hp.get (t : Nat) : Hp → Option (Blk × Cont)
  | [] => none
  | (t', b, c) :: r => match Nat.beq t t' with
    | true => some (b, c)
    | false => Hp.get t r
def Hp.put (t : Nat) (b : Blk) (c : Cont) : Hp → Hp
  | [] => [(t, b, c)]
  | (t', b', c') :: r => match Nat.beq t t' with
    | true => (t, b, c) :: r
    | false => (t', b', c') :: Hp.put t b c r

def Hp.del (t : Nat) : Hp → Hp
  | [] => []
  | (t', b, c) :: r => match Nat.beq t t' with
    | true => Hp.del t r
    | false => (t', b, c) :: Hp.del t r

/-! ### Types -/
structure TI where
  und : TypeDesc
  size : Nat
  bytes : Nat
  zero : List Cel
/-- No interface lies in the type (so that two values of it may be held against one another by their cells). -/
def noIface (P : Program) (t : TypeId) : Prop := P.eqGuardType P.depth t = false
def isRow : TypeDesc → Bool
  | .struct _ | .array _ _ => true
  | _ => false
abbrev Tab := TypeId → Option TI
def TI.zeroV (t : TI) : Value := if isRow t.und then .agg (valsOf t.zero).toArray else (valsOf t.zero).headD undef
/-- Neither a pointer nor an interface lies in these cells. -/
def plainCel : Cel → Bool
  | .v (.int _ _) | .v (.bool _) | .v (.string _) => true
  | .ints _ _ _ | .bools _ _ | .strs _ _ => true
  | _ => false
/-- A struct of plain cells is held against another one field by field. -/
def heldOk (P : Program) (t : TypeId) (i : TI) : Bool := match i.und with
  | .struct fs => !i.zero.all plainCel || (!P.stoodInHeld t && fs.toList.all fun f => f.name != "_")
  | _ => true
structure TyOk (P : Program) (t : TypeId) (i : TI) : Prop where
  und : P.underlying t = some i.und
  size : (P.info? t).map (fun x => (x.size, x.bytes)) = some (i.size, i.bytes)
  zero : (P.info? t).bind (·.zero) = some i.zeroV
  zlen : (valsOf i.zero).length = i.size
  zok : i.zero.all Cel.okB = true
  zcells : i.zeroV.cells = (valsOf i.zero).toArray
  held : heldOk P t i = true

/-- A condition: none, or one that is asked. -/
abbrev C := Option Prop
def C.holds : C → Prop
  | none => True
  | some p => p
def C.and : C → C → C
  | none, q => q
  | p, none => p
  | some p, some q => some (p ∧ q)
/-- What is asked, then what follows. -/
def C.then (c : C) (q : Prop) : Prop := match c with
  | none => q
  | some p => p ∧ q

/-! ### Reading and writing cells -/
/-- The cell at an offset: what must hold, and it. -/
def rd1 : List Cel → Nat → Option (C × Cel)
  | [], _ => none
  | [.ints k n l], o => some (some (o < n), .v (.int k (l.getD o 0)))
  | [.bools n l], o => some (some (o < n), .v (.bool (l.getD o false)))
  | [.strs n l], o => some (some (o < n), .v (.string (l.getD o ByteArray.empty)))
  | .ints k n l :: r, o => match Nat.blt o n with
    | true => some (none, .v (.int k (l.getD o 0)))
    | false => rd1 r (o - n)
  | .bools n l :: r, o => match Nat.blt o n with
    | true => some (none, .v (.bool (l.getD o false)))
    | false => rd1 r (o - n)
  | .strs n l :: r, o => match Nat.blt o n with
    | true => some (none, .v (.string (l.getD o ByteArray.empty)))
    | false => rd1 r (o - n)
  | x :: r, o => match o with
    | 0 => some (none, x)
    | o + 1 => rd1 r o
/-- 'm' cells from an offset on. -/
def rdN : List Cel → Nat → Nat → Option (C × List Cel)
  | _, _, 0 => some (none, [])
  | [], _, _ + 1 => none
  | [.ints k n l], o, m + 1 => some (some (o + (m + 1) ≤ n), [.ints k (m + 1) ((l.drop o).take (m + 1))])
  | .ints k n l :: r, o, m + 1 => match Nat.ble n o with
    | true => rdN r (o - n) (m + 1)
    | false => match Nat.ble (o + (m + 1)) n with
      | true => some (none, [.ints k (m + 1) ((l.drop o).take (m + 1))])
      | false => match rdN r 0 (m + 1 - (n - o)) with
        | some (p, x) => some (p, .ints k (n - o) (l.drop o) :: x)
        | none => none
  | .bools n l :: r, o, m + 1 => match Nat.ble n o with
    | true => rdN r (o - n) (m + 1)
    | false => match Nat.ble (o + (m + 1)) n with
      | true => some (none, [.bools (m + 1) ((l.drop o).take (m + 1))])
      | false => match rdN r 0 (m + 1 - (n - o)) with
        | some (p, x) => some (p, .bools (n - o) (l.drop o) :: x)
        | none => none
  | .strs n l :: r, o, m + 1 => match Nat.ble n o with
    | true => rdN r (o - n) (m + 1)
    | false => match Nat.ble (o + (m + 1)) n with
      | true => some (none, [.strs (m + 1) ((l.drop o).take (m + 1))])
      | false => match rdN r 0 (m + 1 - (n - o)) with
        | some (p, x) => some (p, .strs (n - o) (l.drop o) :: x)
        | none => none
  | x :: r, o, m + 1 => match o with
    | 0 => match rdN r 0 m with
      | some (p, y) => some (p, x :: y)
      | none => none
    | o + 1 => rdN r o (m + 1)
def kindEq : IntKind → IntKind → Bool
  | .i8, .i8 | .i16, .i16 | .i32, .i32 | .i64, .i64 | .u8, .u8 | .u16, .u16 | .u32, .u32 | .u64, .u64 => true
  | _, _ => false
/-- One cell, for a store. -/
def Cel.single : Cel → Bool
  | .v (.int _ _) | .v (.bool _) | .v (.string _) | .v (.pointer _) | .v (.slice _ _ _) | .v (.map _) | .v (.iface _ _) | .v .nilIface | .v .nilFunc | .v (.func _ _ _) => true
  | .ptr _ _ _ | .sl _ _ _ _ _ _ => true
  | .fn _ _ => true
  | _ => false
/-- The number of this kind that a cell is; the bool that it is. -/
def Cel.int? (k : IntKind) : Cel → Option Int
  | .v (.int k' x) => match kindEq k k' with
    | true => some x
    | false => none
  | _ => none
def Cel.bool? : Cel → Option Bool
  | .v (.bool x) => some x
  | _ => none
def Cel.str? : Cel → Option ByteArray
  | .v (.string x) => some x
  | _ => none
def wr1 (c : Cel) : List Cel → Nat → Option (C × List Cel)
  | [], _ => none
  | [.ints k n l], o => match c.int? k with
    | some x => some (some (o < n), [.ints k n (l.set o x)])
    | none => none
  | [.bools n l], o => match c.bool? with
    | some x => some (some (o < n), [.bools n (l.set o x)])
    | none => none
  | [.strs n l], o => match c.str? with
    | some x => some (some (o < n), [.strs n (l.set o x)])
    | none => none
  | .ints k n l :: r, o => match Nat.blt o n with
    | true => match c.int? k with
      | some x => some (none, .ints k n (l.set o x) :: r)
      | none => none
    | false => match wr1 c r (o - n) with
      | some (p, r) => some (p, .ints k n l :: r)
      | none => none
  | .bools n l :: r, o => match Nat.blt o n with
    | true => match c.bool? with
      | some x => some (none, .bools n (l.set o x) :: r)
      | none => none
    | false => match wr1 c r (o - n) with
      | some (p, r) => some (p, .bools n l :: r)
      | none => none
  | .strs n l :: r, o => match Nat.blt o n with
    | true => match c.str? with
      | some x => some (none, .strs n (l.set o x) :: r)
      | none => none
    | false => match wr1 c r (o - n) with
      | some (p, r) => some (p, .strs n l :: r)
      | none => none
  | x :: r, o => match o with
    | 0 => match c.single with
      | true => some (none, c :: r)
      | false => none
    | o + 1 => match wr1 c r o with
      | some (p, r) => some (p, x :: r)
      | none => none

/-- Cells that are written over: those at an offset. -/
def wrN (cs l : List Cel) (o : Nat) : Option (C × List Cel) :=
  match cs, l with
  | [], l => some (none, l)
  | [.ints k m x], [.ints k' n y] => match kindEq k k' with
    | true => some (some (o + m ≤ n), [.ints k n (y.take o ++ x ++ y.drop (o + m))])
    | false => none
  | cs, l => match Nat.ble (o + lenOf cs) (lenOf l), rdN l 0 o, rdN l (o + lenOf cs) (lenOf l - (o + lenOf cs)) with
    | true, some (p, a), some (q, b) => some (C.and p q, a ++ (cs ++ b))
    | _, _, _ => none

/-! ### Numbers -/
def iand (k : IntKind) (x y : Int) : Int := k.wrap ((BitVec.ofInt k.bits x &&& BitVec.ofInt k.bits y).toNat : Int)
def ior (k : IntKind) (x y : Int) : Int := k.wrap ((BitVec.ofInt k.bits x ||| BitVec.ofInt k.bits y).toNat : Int)
def ixor (k : IntKind) (x y : Int) : Int := k.wrap ((BitVec.ofInt k.bits x ^^^ BitVec.ofInt k.bits y).toNat : Int)
def iandNot (k : IntKind) (x y : Int) : Int := k.wrap ((BitVec.ofInt k.bits x &&& ~~~ BitVec.ofInt k.bits y).toNat : Int)
def ishl (k : IntKind) (x y : Int) : Int := k.wrap (x * 2 ^ (min y.toNat k.bits))
def ishr (k : IntKind) (x y : Int) : Int := x.fdiv (2 ^ (min y.toNat k.bits))
def inot (k : IntKind) (x : Int) : Int := ixor k (if k.signed then -1 else k.max) x
def iadd (k : IntKind) (x y : Int) : Int := k.wrap (x + y)
def isub (k : IntKind) (x y : Int) : Int := k.wrap (x - y)
def imul (k : IntKind) (x y : Int) : Int := k.wrap (x * y)
def iquo (k : IntKind) (x y : Int) : Int := k.wrap (x.tdiv y)

/-- A sum of ints: bare where it is asked that it is one; else wrapped. -/
def plainInt (pl : Bool) (k : IntKind) (bare wrapped : Int) : Option (C × SV) :=
  match pl, k with
  | true, .i64 => some (some (-9223372036854775808 ≤ bare ∧ bare ≤ 9223372036854775807), .int k bare)
  | _, k => some (none, .int k wrapped)
def binInt (pl : Bool) (op : BinOp) (k : IntKind) (x y : Int) : Option (C × SV) :=
  match op with
  | .add => plainInt pl k (x + y) (iadd k x y)
  | .sub => plainInt pl k (x - y) (isub k x y)
  | .mul => plainInt pl k (x * y) (imul k x y)
  | .quo => some (some (y ≠ 0), .int k (iquo k x y))
  | .rem => some (some (y ≠ 0), .int k (x.tmod y))
  | .and => some (none, .int k (iand k x y))
  | .or => some (none, .int k (ior k x y))
  | .xor => some (none, .int k (ixor k x y))
  | .andNot => some (none, .int k (iandNot k x y))
  | .eql => some (none, .bool (decide (x = y)))
  | .neq => some (none, .bool (!decide (x = y)))
  | .lss => some (none, .bool (decide (x < y)))
  | .leq => some (none, .bool (decide (x ≤ y)))
  | .gtr => some (none, .bool (decide (y < x)))
  | .geq => some (none, .bool (decide (y ≤ x)))
  | .shl | .shr => none
def binV (pl : Bool) (op : BinOp) (x y : SV) : Option (C × SV) :=
  match x, y with
  | .c (.v (.int k a)), .c (.v (.int k' b)) => match op with
    | .shl => some (some (0 ≤ b), .int k (ishl k a b))
    | .shr => some (some (0 ≤ b), .int k (ishr k a b))
    | op => match kindEq k k' with
      | true => binInt pl op k a b
      | false => none
  | .c (.v (.bool a)), .c (.v (.bool b)) => match op with
    | .eql => some (none, .bool (a == b))
    | .neq => some (none, .bool (!(a == b)))
    | _ => none
  | .c (.ptr _ _ _), .c (.v (.pointer none)) | .c (.v (.pointer none)), .c (.ptr _ _ _) => match op with
    | .eql => some (none, .bool false)
    | .neq => some (none, .bool true)
    | _ => none
  | .c (.v (.pointer none)), .c (.v (.pointer none)) => match op with
    | .eql => some (none, .bool true)
    | .neq => some (none, .bool false)
    | _ => none
  | .c (.v (.string a)), .c (.v (.string b)) => match op with
    | .eql => some (none, .bool (a.toList == b.toList))
    | .neq => some (none, .bool (!(a.toList == b.toList)))
    | _ => none
  | _, _ => none
/-- Bools and pointers are held against one another at their own types. -/
def typeFits (tab : Tab) (t : TypeId) (x : SV) : Bool := match x with
  | .c (.v (.bool _)) => match tab t with
    | some ⟨.bool, _, _, _⟩ => true
    | _ => false
  | .c (.v (.pointer _)) | .c (.ptr _ _ _) => match tab t with
    | some ⟨.pointer _, _, _, _⟩ => true
    | _ => false
  | _ => true
/-- Two cells, or runs of cells, held against one another at a type: how many cells they are; are they alike? -/
def eqCel (tab : Tab) (t : TypeId) : Cel → Cel → Option (Nat × Bool)
  | .v (.int k a), .v (.int k' b) => match kindEq k k', tab t with
    | true, some ⟨.int _, _, _, _⟩ => some (1, decide (a = b))
    | _, _ => none
  | .v (.bool a), .v (.bool b) => match tab t with
    | some ⟨.bool, _, _, _⟩ => some (1, a == b)
    | _ => none
  | .ints k m a, .ints k' m' b => match kindEq k k', tab t with
    | true, some ⟨.array n e, z, _, _⟩ => match tab e, Nat.beq n m && Nat.beq n m' && Nat.beq z n with
      | some ⟨.int _, 1, _, _⟩, true => some (m, decide (a = b))
      | _, _ => none
    | _, _ => none
  | _, _ => none
/-- Two structs' fields held against one another: plain ones, one behind another. -/
def eqCels (tab : Tab) : List Field → Nat → List Cel → List Cel → Option Bool
  | [], _, [], [] => some true
  | f :: fs, o, x :: xs, y :: ys => match Nat.beq f.offset o, eqCel tab f.type x y with
    | true, some (m, e) => match eqCels tab fs (o + m) xs ys with
      | some r => some (e && r)
      | none => none
    | _, _ => none
  | _, _, _, _ => none
/-- Two arrays of numbers; two structs of plain cells. -/
def binAgg (tab : Tab) (op : BinOp) (t : TypeId) (x y : SV) : Option (C × SV) :=
  match tab t, x, y with
  | some ⟨.array n e, _, _, _⟩, .agg [.ints k n1 a], .agg [.ints k' n2 b] => match tab e with
    | some ⟨.int _, 1, _, _⟩ => match Nat.beq n n1 && Nat.beq n n2 && kindEq k k' with
      | true => match op with
        | .eql => some (none, .bool (decide (a = b)))
        | .neq => some (none, .bool (!decide (a = b)))
        | _ => none
      | false => none
    | _ => none
  | some ⟨.struct fs, _, _, z⟩, .agg xs, .agg ys => match z.all plainCel, eqCels tab fs.toList 0 xs ys with
    | true, some r => match op with
      | .eql => some (none, .bool r)
      | .neq => some (none, .bool (!r))
      | _ => none
    | _, _ => none
  | _, _, _ => none

/-! ### Operations -/
def ofValue : Value → Option SV
  | .agg cs => match cs.toList.all (·.oneCell') with
    | true => some (.agg (cs.toList.map .v))
    | false => none
  | v => some (.c (.v v))
def opd (s : Sl) : Operand → Option SV
  | .tmp t => s.get t
  | .const v => ofValue v
  | .global g => some (.c (.v (.pointer (some ⟨g, 0, none⟩))))
  | .func f => some (.c (.v (.func (.func f) #[] #[])))
def opds (s : Sl) : List Operand → Option (List SV)
  | [] => some []
  | x :: r => match opd s x, opds s r with
    | some v, some l => some (v :: l)
    | _, _ => none

/-- What an operation comes to: nothing; a value in the same heap; or, whatever 'r' meets 'q', a value and a heap. -/
inductive Res where
  | bad
  | st (p : C) (v : SV)
  | det (p : C) (v : SV) (h : Hp)
  | eff (p : C) (R : Type) (q : R → Prop) (v : R → SV) (h : R → Hp)

def res (x : Option (C × SV)) : Res := match x with
  | some (p, v) => .st p v
  | none => .bad
def resC (x : Option (C × Cel)) : Res := match x with
  | some (p, v) => .st p (.c v)
  | none => .bad
def resL (x : Option (C × List Cel)) : Res := match x with
  | some (p, v) => .st p (.agg v)
  | none => .bad

/-- The parts of an array literal, where each place is given in order. -/
def litInts (s : Sl) (k : IntKind) : Nat → List (Nat × Operand) → Option (List Int)
  | _, [] => some []
  | i, (j, x) :: r => match Nat.beq i j, opd s x, litInts s k (i + 1) r with
    | true, some (.c (.v (.int k' n))), some l => match kindEq k k' with
      | true => some (n :: l)
      | false => none
    | _, _, _ => none
def litCells (s : Sl) : Nat → List (Nat × Operand) → Option (List Cel)
  | _, [] => some []
  | i, (j, x) :: r => match Nat.beq i j, opd s x, litCells s (i + 1) r with
    | true, some (.c y), some l => match y.single with
      | true => some (y :: l)
      | false => none
    | _, _, _ => none

/-- Cells that are texts, all of them. -/
def strsOf : List Cel → Option (List ByteArray)
  | [] => some []
  | .v (.string x) :: r => match strsOf r with
    | some l => some (x :: l)
    | none => none
  | _ => none

/-- A contract, as the machine uses it: whether it may turn what was there; and, of the arguments and the heap, what it comes to. -/
structure Con where
  wr : Bool
  run : (fresh : Nat) → List SV → Hp → Res

structure Cx where
  tab : Tab
  con : FuncId → Option Con
  ntmps : Nat
  plain : Bool

def fresh (d : Option Nat) : Nat := match d with
  | some d => 1000 + d
  | none => 999

/-- A slice's bounds: low, high, max, over a length and a capacity. -/
def sl3 (len cap : Nat) (lo hi mx : Option SV) : Option (C × Nat × Nat × Nat) :=
  match lo, hi, mx with
  | none, none, none => some (none, 0, len, cap)
  | some (.c (.v (.int _ l))), none, none => some (some (0 ≤ l ∧ l ≤ len), l.toNat, len, cap)
  | none, some (.c (.v (.int _ h))), none => some (some (0 ≤ h ∧ h ≤ cap), 0, h.toNat, cap)
  | some (.c (.v (.int _ l))), some (.c (.v (.int _ h))), none => some (some (0 ≤ h ∧ h ≤ cap ∧ 0 ≤ l ∧ l ≤ h), l.toNat, h.toNat, cap)
  | some (.c (.v (.int _ l))), some (.c (.v (.int _ h))), some (.c (.v (.int _ m))) => some (some (0 ≤ m ∧ m ≤ cap ∧ 0 ≤ h ∧ h ≤ m ∧ 0 ≤ l ∧ l ≤ h), l.toNat, h.toNat, m.toNat)
  | none, some (.c (.v (.int _ h))), some (.c (.v (.int _ m))) => some (some (0 ≤ m ∧ m ≤ cap ∧ 0 ≤ h ∧ h ≤ m), 0, h.toNat, m.toNat)
  | _, _, _ => none

/-- Where a part of a row begins. -/
def offAt (lo : Option SV) (o l m z : Nat) : Nat := match lo with
  | none => o
  | some _ => if m = l then o else o + l * z
def optV (s : Sl) : Option Operand → Option (Option SV)
  | none => some none
  | some x => match opd s x with
    | some v => some (some v)
    | none => none

/-- The cells of an operand. -/
def cellsOf : SV → Option (List Cel)
  | .c x => match x.single with
    | true => some [x]
    | false => none
  | .agg l => some l
  | .tup _ => none
def allIn (tab : Tab) : List Field → Bool
  | [] => true
  | f :: r => match tab f.type with
    | some _ => allIn tab r
    | none => false
/-- A struct literal: its fields' cells over the zero cells. -/
def litFields (cx : Cx) (s : Sl) (fs : List Field) : List (Nat × Operand) → List Cel → Option (C × List Cel)
  | [], z => some (none, z)
  | (i, x) :: r, z => match fs[i]?, opd s x with
    | some f, some v => match cx.tab f.type, cellsOf v with
      | some ⟨_, sz + 1, _, _⟩, some cs => match Nat.beq (lenOf cs) (sz + 1), wrN cs z f.offset with
        | true, some (p, z') => match litFields cx s fs r z' with
          | some (q, l) => some (C.and p q, l)
          | none => none
        | _, _ => none
      | _, _ => none
    | _, _ => none

def buildOp (cx : Cx) (s : Sl) (t : TypeId) (parts : Array (Nat × Operand)) : Res :=
  match cx.tab t with
    | some ⟨.array _ e, _, _, z⟩ => match cx.tab e with
      | some ⟨ue, sz, _, _⟩ => match parts.toList with
        | [] => .st none (.agg z)
        | ps => match z, ue, sz with
          | [.ints k m _], .int _, 1 => match litInts s k 0 ps with
            | some l => match Nat.beq l.length m with
              | true => .st none (.agg [.ints k m l])
              | false => .bad
            | none => .bad
          | _, _, _ => .bad
      | none => .bad
    | some ⟨.struct fs, _, _, z⟩ => match allIn cx.tab fs.toList, litFields cx s fs.toList parts.toList z with
      | true, some (p, l) => .st p (.agg l)
      | _, _ => .bad
    | _ => .bad

/-! ### What a slice, or a text, holds -/
def toBA (l : List Int) : ByteArray := ⟨(l.map fun x => UInt8.ofNat x.toNat).toArray⟩
def strInts (x : ByteArray) : List Int := x.data.toList.map fun b => (b.toNat : Int)
/-- The numbers that a slice, or a text, holds: what is asked; how many; which. -/
def srcInts (h : Hp) (k : IntKind) : SV → Option (C × Nat × List Int)
  | .c (.sl t b o n _ z) => match h.get t with
    | some (b', .cells _ [.ints k' m L]) => match kindEq k k' with
      | true => some (some (b = b' ∧ o + n ≤ m ∧ (z = 0 ∨ n = 0)), n, (L.drop o).take n)
      | false => none
    | some (_, .void) => some (some (n = 0), n, [])
    | some (b', .cells _ l) => match rdN l o n, z with
      | some (q, [.ints k' m L]), 0 => match kindEq k k' && Nat.beq m n with
        | true => some (C.and (some (b = b')) q, n, L)
        | false => none
      | _, _ => none
    | _ => none
  | .c (.v (.slice none n _)) => some (some (n = 0), n, [])
  | .c (.v (.string x)) => match k with
    | .u8 => some (none, x.size, strInts x)
    | _ => none
  | _ => none
/-- A slice held against nil. -/
def slNil (tab : Tab) (op : BinOp) (t : TypeId) (z : Nat) : Option (C × SV) := match tab t, op with
  | some ⟨.slice _, _, _, _⟩, .eql => some (none, .bool (!(Nat.beq z 0)))
  | some ⟨.slice _, _, _, _⟩, .neq => some (none, .bool (Nat.beq z 0))
  | _, _ => none
/-- What a function of its own catches: pointers. -/
def ptrsOf : List SV → Option (List (Nat × Blk × Nat))
  | [] => some []
  | .c (.ptr t b o) :: r => match ptrsOf r with
    | some l => some ((t, b, o) :: l)
    | none => none
  | _ => none
def stillOp (cx : Cx) (s : Sl) (h : Hp) (op : Op) : Res :=
  match op with
  | .move x | .assign x => match opd s x with
    | some v => .st none v
    | none => .bad
  | .pick c a b => match opd s c, opd s a, opd s b with
    | some (.c (.v (.bool p))), some (.c (.v (.bool x))), some (.c (.v (.bool y))) => .st none (.bool (bif p then x else y))
    | some (.c (.v (.bool p))), some a, some b => match p with
      | true => .st none a
      | false => .st none b
    | _, _, _ => .bad
  | .nilCheck x => match opd s x with
    | some (.c (.ptr t b o)) => .st none (.c (.ptr t b o))
    | _ => .bad
  | .binOp op t x y _ => match opd s x, opd s y with
    | some (.agg x), some (.agg y) => res (binAgg cx.tab op t (.agg x) (.agg y))
    | some (.c (.sl _ _ _ _ _ z)), some (.c (.v (.slice none _ _))) => res (slNil cx.tab op t z)
    | some x, some y => match typeFits cx.tab t x with
      | true => res (binV cx.plain op x y)
      | false => .bad
    | _, _ => .bad
  | .unOp op _ x => match op, opd s x with
    | .xor, some (.c (.v (.int k n))) => .st none (.int k (inot k n))
    | .neg, some (.c (.v (.int k n))) => .st none (.int k (isub k 0 n))
    | .not, some (.c (.v (.bool b))) => .st none (.bool !b)
    | _, _ => .bad
  | .convert sr d x => match cx.tab sr, cx.tab d, opd s x with
    | some _, some ⟨.int k, _, _, _⟩, some (.c (.v (.int _ n))) => .st none (.int k (k.wrap n))
    | some ⟨.slice e, _, _, _⟩, some ⟨.string, _, _, _⟩, some (.c (.sl t b o n c z)) => match cx.tab e, srcInts h .u8 (.c (.sl t b o n c z)) with
      | some ⟨.int .u8, _, _, _⟩, some (p, _, l) => .st p (.c (.v (.string (toBA l))))
      | _, _ => .bad
    | _, _, _ => .bad
  | .sliceToArrayPointer t x => match cx.tab t, opd s x with
    | some ⟨.array m _, _, _, _⟩, some (.c (.sl t b o n _ z)) => .st (some (m ≤ n ∧ z = 0)) (.c (.ptr t b o))
    | _, _ => .bad
  | .fieldAddr t x f => match cx.tab t, opd s x with
    | some ⟨.struct fs, _, _, _⟩, some (.c (.ptr t b o)) => match fs[f]? with
      | some f => match cx.tab f.type with
        | some ⟨_, _ + 1, _, _⟩ => .st none (.c (.ptr t b (o + f.offset)))
        | _ => .bad
      | none => .bad
    | _, _ => .bad
  | .indexAddr t x ix => match cx.tab t, opd s x, opd s ix with
    | some ⟨.array n e, _, _, _⟩, some (.c (.ptr t b o)), some (.c (.v (.int _ i))) => match cx.tab e with
      | some ⟨_, z, _, _⟩ => .st (some (0 ≤ i ∧ i < n)) (.c (.ptr t b (o + i.toNat * z)))
      | none => .bad
    | some ⟨.slice e, _, _, _⟩, some (.c (.sl t b o n _ nl)), some (.c (.v (.int _ i))) => match cx.tab e with
      | some ⟨_, z, _, _⟩ => .st (some (0 ≤ i ∧ i < n ∧ nl = 0)) (.c (.ptr t b (o + i.toNat * z)))
      | none => .bad
    | _, _, _ => .bad
  | .index t x ix => match cx.tab t, opd s x, opd s ix with
    | some ⟨.array n e, _, _, _⟩, some (.agg [.ints k m l]), some (.c (.v (.int _ i))) => match cx.tab e, Nat.beq n m with
      | some ⟨.int _, 1, _, _⟩, true => .st (some (0 ≤ i ∧ i < n)) (.int k (l.getD i.toNat 0))
      | _, _ => .bad
    | _, _, _ => .bad
  | .slice t x lo hi mx => match cx.tab t, opd s x, optV s lo, optV s hi, optV s mx with
    | some ⟨.array n e, _, _, _⟩, some (.c (.ptr t b o)), some lo, some hi, some mx => match cx.tab e, sl3 n n lo hi mx with
      | some ⟨_, z, _, _⟩, some (p, l, h, m) => .st p (.c (.sl t b (offAt lo o l m z) (h - l) (m - l) 0))
      | _, _ => .bad
    | some ⟨.slice e, _, _, _⟩, some (.c (.sl t b o n c nl)), some lo, some hi, some mx => match cx.tab e, sl3 n c lo hi mx with
      | some ⟨_, z, _, _⟩, some (p, l, h, m) => .st p (.c (.sl t b (offAt lo o l m z) (h - l) (m - l) nl))
      | _, _ => .bad
    | _, _, _, _, _ => .bad
  | .makeFunc (.func f) first caps => match first.toList, opds s caps.toList with
    | [], some vs => match ptrsOf vs with
      | some l => .st none (.c (.fn f l))
      | none => .bad
    | _, _ => .bad
  | .extract x i => match opd s x with
    | some (.tup l) => match l[i]? with
      | some a => .st none a.sv
      | none => .bad
    | _ => .bad
  | .build t parts => buildOp cx s t parts
  | .load t x => match cx.tab t, opd s x with
    | some ⟨und, z, _, _⟩, some (.c (.ptr t b o)) => match h.get t with
      | some (b', .cells _ l) => match isRow und with
        | true => match rdN l o z with
          | some (p, v) => .st (C.and (some (b = b')) p) (.agg v)
          | none => .bad
        | false => match rd1 l o with
          | some (p, v) => .st (C.and (some (b = b')) p) (.c v)
          | none => .bad
      | _ => .bad
    | _, _ => .bad
  | .call ⟨.builtin b, args, ats⟩ => match b, args.toList, ats.toList with
    | .len, [x], [t] => match cx.tab t, opd s x with
      | some ⟨.string, _, _, _⟩, some (.c (.v (.string s))) => .st none (.int .i64 s.size)
      | some ⟨.slice _, _, _, _⟩, some (.c (.sl _ _ _ n _ _)) => .st none (.int .i64 n)
      | some ⟨.slice _, _, _, _⟩, some (.c (.v (.slice _ n _))) => .st none (.int .i64 n)
      | some ⟨.array n _, _, _, _⟩, some _ => .st none (.int .i64 n)
      | _, _ => .bad
    | .min, [x, y], _ => match opd s x, opd s y with
      | some (.c (.v (.int k a))), some (.c (.v (.int _ b))) => .st none (.int k (if b < a then b else a))
      | _, _ => .bad
    | .max, [x, y], _ => match opd s x, opd s y with
      | some (.c (.v (.int k a))), some (.c (.v (.int _ b))) => .st none (.int k (if b > a then b else a))
      | _, _ => .bad
    | _, _, _ => .bad
  | _ => .bad

/-! ### Rows that grow -/
/-- A slice that grows: what is asked; its length, its capacity; its numbers; the heap without its row. -/
def baseInts (h : Hp) (k : IntKind) : SV → Option (C × Nat × Nat × List Int × Hp)
  | .c (.sl t b o n c z) => match h.get t with
    | some (b', .cells _ [.ints k' m L]) => match kindEq k k' with
      | true => some (some (b = b' ∧ b.ro = false ∧ o + c ≤ m ∧ n ≤ c ∧ (z = 0 ∨ c = 0)), n, c, (L.drop o).take n, h.del t)
      | false => none
    | some (_, .void) => some (some (n = 0 ∧ c = 0 ∧ z = 1), n, c, [], h)
    | _ => none
  | .c (.v (.slice none n c)) => some (some (n = 0 ∧ c = 0), n, c, [], h)
  | _ => none
/-- The row behind: its block, where the slice begins in it, its capacity, the block's length, whether it is the nil slice; the block's type, its numbers. -/
structure ApR where
  b : BlkO
  (off cap m z : Nat)
  y : TypeId
  L : List Int
def ApR.fits (r : ApR) (N : Nat) (l : List Int) : Prop :=
  r.off + r.cap ≤ r.m ∧ N ≤ r.cap ∧ (r.z = 0 ∨ r.cap = 0) ∧ r.L.length = r.m ∧ (r.L.drop r.off).take N = l
/-- What is added: of a slice or a text, or so many zeros. -/
def addInts (h : Hp) (k : IntKind) (zeros : Bool) (y : SV) : Option (C × Nat × List Int) :=
  match zeros with
  | false => srcInts h k y
  | true => match y with
    | .c (.v (.int _ i)) => some (some (0 ≤ i ∧ i ≤ 70368744177664), i.toNat, List.replicate i.toNat 0)
    | _ => none
/-- Is a number of zeros added? -/
def zerosOf : TypeDesc → Option Bool
  | .int _ => some true
  | .slice _ => some false
  | .string => some false
  | _ => none
def appendOp (cx : Cx) (s : Sl) (h : Hp) (d : Option Nat) (x y : Operand) (t t2 : TypeId) : Res :=
  match cx.tab t, cx.tab t2, opd s x, opd s y with
  | some ⟨.slice e, _, _, _⟩, some ⟨u2, _, _, _⟩, some x, some y => match cx.tab e, h.get (fresh d), zerosOf u2 with
    | some ⟨.int k, 1, by', [.v (.int k' 0)]⟩, none, some zs => match kindEq k k', Nat.ble 1 by', baseInts h k x, addInts h k zs y with
      | true, true, some (p, n, c, olds, h'), some (q, m, news) =>
        .eff (C.and (C.and p q) (some ((n + m) * by' ≤ 70368744177664))) ApR (fun r => r.fits (n + m) (olds ++ news)) (fun r => .c (.sl (fresh d) r.b r.off (n + m) r.cap r.z))
          (fun r => h'.put (fresh d) r.b (.cells r.y [.ints k r.m r.L]))
      | _, _, _, _ => .bad
    | _, _, _ => .bad
  | _, _, _, _ => .bad
def copyOp (cx : Cx) (s : Sl) (h : Hp) (x y : Operand) (t : TypeId) : Res :=
  match cx.tab t, opd s x, opd s y with
  | some ⟨.slice e, _, _, _⟩, some (.c (.sl t b o n c z)), some y => match cx.tab e, h.get t with
    | some ⟨.int k, 1, _, _⟩, some (b', .cells ty [.ints k' m L]) => match kindEq k k', srcInts h k y with
      | true, some (q, ny, news) => .det (C.and (some (b = b' ∧ b.ro = false ∧ o + n ≤ m ∧ (z = 0 ∨ n = 0))) q) (.int .i64 (min ny n : Nat))
          (h.put t b (.cells ty [.ints k m (L.take o ++ (news.take (min ny n) ++ L.drop (o + min ny n)))]))
      | _, _ => .bad
    | _, _ => .bad
  | _, _, _ => .bad
def makeOp (cx : Cx) (s : Sl) (h : Hp) (d : Option Nat) (t : TypeId) (l c : Operand) : Res :=
  match cx.tab t, opd s l, opd s c, h.get (fresh d) with
  | some ⟨.slice e, _, _, _⟩, some (.c (.v (.int _ l))), some (.c (.v (.int _ c))), none => match cx.tab e with
    | some ⟨.int k, 1, by', [.v (.int k' 0)]⟩ => match kindEq k k' with
      | true => .eff (some (0 ≤ l ∧ l ≤ c ∧ c * by' ≤ 70368744177664 ∧ c ≤ 70368744177664)) BlkO BlkO.plain (fun b => .c (.sl (fresh d) b 0 l.toNat c.toNat 0))
          (fun b => h.put (fresh d) b (.cells e [.ints k c.toNat (List.replicate c.toNat 0)]))
      | false => .bad
    | _ => .bad
  | _, _, _, _ => .bad

def effOp (cx : Cx) (s : Sl) (h : Hp) (d : Option Nat) (op : Op) : Res :=
  match op with
  | .alloc t => match cx.tab t with
    | some ti => match h.get (fresh d) with
      | none => .eff none BlkO BlkO.plain (fun b => .c (.ptr (fresh d) b 0)) (fun b => h.put (fresh d) b (.cells t ti.zero))
      | some _ => .bad
    | none => .bad
  | .box t x => match cx.tab t, opd s x, h.get (fresh d) with
    | some _, some (.c y), none => match y.single with
      | true => .eff none BlkO BlkO.plain (fun b => .c (.ptr (fresh d) b 0)) (fun b => h.put (fresh d) b (.cells t [y]))
      | false => .bad
    | some _, some (.agg l), none => .eff none BlkO BlkO.plain (fun b => .c (.ptr (fresh d) b 0)) (fun b => h.put (fresh d) b (.cells t l))
    | _, _, _ => .bad
  | .buildSlice t n parts => match cx.tab t, h.get (fresh d), Nat.ble n 1000 with
    | some ⟨.slice e, _, _, _⟩, none, true => match cx.tab e with
      | some ⟨.int k, 1, _, _⟩ => match litInts s k 0 parts.toList with
        | some l => match Nat.beq l.length n with
          | true => .eff none BlkO BlkO.plain (fun b => .c (.sl (fresh d) b 0 n n 0)) (fun b => h.put (fresh d) b (.cells e [.ints k n l]))
          | false => .bad
        | none => .bad
      | some ⟨.string, 1, _, _⟩ => match litCells s 0 parts.toList with
        | some l => match strsOf l with
          | some x => match Nat.beq x.length n with
            | true => .eff none BlkO BlkO.plain (fun b => .c (.sl (fresh d) b 0 n n 0)) (fun b => h.put (fresh d) b (.cells e [.strs n x]))
            | false => .bad
          | none => .bad
        | none => .bad
      | some ⟨_, 1, _, _⟩ => match litCells s 0 parts.toList with
        | some l => match Nat.beq l.length n with
          | true => .eff none BlkO BlkO.plain (fun b => .c (.sl (fresh d) b 0 n n 0)) (fun b => h.put (fresh d) b (.cells e l))
          | false => .bad
        | none => .bad
      | _ => .bad
    | _, _, _ => .bad
  | .store t x y => match cx.tab t, opd s x, opd s y with
    | some ⟨_, 1, _, _⟩, some (.c (.ptr t b o)), some (.c y) => match h.get t with
      | some (b', .cells ty l) => match wr1 y l o with
        | some (p, l') => .det (C.and (some (b = b' ∧ b.ro = false)) p) .nothing (h.put t b (.cells ty l'))
        | none => .bad
      | _ => .bad
    | some ⟨_, z + 1, _, _⟩, some (.c (.ptr t b o)), some (.agg y) => match h.get t, Nat.beq (lenOf y) (z + 1) with
      | some (b', .cells ty l), true => match wrN y l o with
        | some (p, l') => .det (C.and (some (b = b' ∧ b.ro = false)) p) .nothing (h.put t b (.cells ty l'))
        | none => .bad
      | _, _ => .bad
    | _, _, _ => .bad
  | .call ⟨.value (.func f), args, _⟩ => match cx.con f, opds s args.toList with
    | some c, some vs => c.run (fresh d) vs h
    | _, _ => .bad
  | .call ⟨.value (.tmp x), args, _⟩ => match s.get x, opds s args.toList with
    | some (.c (.fn f l)), some vs => match cx.con f with
      | some c => c.run (fresh d) (vs ++ l.map fun y => .c (.ptr y.1 y.2.1 y.2.2)) h
      | none => .bad
    | _, _ => .bad
  | .makeSlice t l c => makeOp cx s h d t l c
  | .convert sr t x => match cx.tab sr, cx.tab t, opd s x, h.get (fresh d) with
    | some ⟨.string, _, _, _⟩, some ⟨.slice e, _, _, _⟩, some (.c (.v (.string y))), none => match cx.tab e with
      | some ⟨.int .u8, _, _, _⟩ => .eff none ApR (fun r => r.fits y.size (strInts y)) (fun r => .c (.sl (fresh d) r.b r.off y.size r.cap r.z)) (fun r => h.put (fresh d) r.b (.cells r.y [.ints .u8 r.m r.L]))
      | _ => .bad
    | some ⟨.slice e, _, _, _⟩, some ⟨.slice _, _, _, _⟩, some (.c (.sl t' b o n c z)), _ => match cx.tab e, h.get t', Nat.beq sr t with
      | some ⟨.int .u8, _, _, _⟩, some (b', .cells y [.ints k (m + 1) L]), true => .det (some (b = b' ∧ z = 0 ∧ b.ro = false ∧ b.o.plain)) (.c (.sl t' (b.o.marked (m + 1)) o n c z)) (h.put t' (b.o.marked (m + 1)) (.cells y [.ints k (m + 1) L]))
      | _, _, _ => .bad
    | _, _, _, _ => .bad
  | .call ⟨.builtin b, args, ats⟩ => match b, args.toList, ats.toList with
    | .append, [x, y], [t, t2] => appendOp cx s h d x y t t2
    | .copy, [x, y], [t, _] => copyOp cx s h x y t
    | _, _, _ => .bad
  | _ => .bad

/-- Does an operation look at memory? -/
def reads (cx : Cx) : Op → Prop
  | .load .. => True
  | .convert _ d _ => match cx.tab d with
    | some ⟨.string, _, _, _⟩ => True
    | _ => False
  | _ => False
/-- Does an operation only compute, or only read? -/
inductive Cls where
  | pure | read | make | write
def clsOf (cx : Cx) (o : Oper) : Cls :=
  match o.op with
  | .move _ | .assign _ | .pick .. | .nilCheck _ | .binOp .. | .unOp .. | .sliceToArrayPointer .. | .fieldAddr .. | .indexAddr .. | .index .. | .slice .. | .extract .. | .build .. | .makeFunc .. => .pure
  | .load .. => .read
  | .convert _ d _ => match cx.tab d with
    | some ⟨.string, _, _, _⟩ => .read
    | some ⟨.int _, _, _, _⟩ => .pure
    | _ => .write
  | .alloc _ | .box .. | .buildSlice .. | .makeSlice .. => .make
  | .call ⟨.builtin b, _, _⟩ => match b with
    | .len | .min | .max => .pure
    | _ => .write
  | .call ⟨.value (.func f), _, _⟩ => match cx.con f with
    | some c => match c.wr with
      | true => .write
      | false => .make
    | none => .write
  | _ => .write
def okDst (cx : Cx) : Option Nat → Bool
  | none => true
  | some d => Nat.blt d cx.ntmps
def stepOp (cx : Cx) (s : Sl) (h : Hp) (o : Oper) : Res :=
  match okDst cx o.dst with
  | false => .bad
  | true => match clsOf cx o with
    | .pure | .read => stillOp cx s h o.op
    | .make | .write => effOp cx s h o.dst o.op

/-- What is asked of each outcome. -/
def Res.then (r : Res) (h : Hp) (K : SV → Hp → Prop) : Prop := match r with
  | .bad => False
  | .st p v => p.then (K v h)
  | .det p v h' => p.then (K v h')
  | .eff p R q v h' => p.then (∀ r : R, q r → K (v r) (h' r))

/-! ### Codes -/
/-- A place at which the state is said anew. -/
structure Inv where
  G : Type
  pre : G → Prop
  sl : G → Sl
  hp : G → Hp
  mu : G → Nat
def Cel.same : Cel → Cel → Prop
  | .v x, .v y => x = y
  | .ptr _ b o, .ptr _ b' o' => b = b' ∧ o = o'
  | .sl _ b o n c z, .sl _ b' o' n' c' z' => b = b' ∧ o = o' ∧ n = n' ∧ c = c' ∧ z = z'
  | .v (.slice a n c), .sl _ b' o' n' c' z' => a = baseOf b' o' z' ∧ n = n' ∧ c = c'
  | .ints k n l, .ints k' n' l' => k = k' ∧ n = n' ∧ l = l'
  | .bools n l, .bools n' l' => n = n' ∧ l = l'
  | .strs n l, .strs n' l' => n = n' ∧ l = l'
  | .fn f l, .fn f' l' => f = f' ∧ l.map (·.2) = l'.map (·.2)
  | _, _ => False
def sameL : List Cel → List Cel → Prop
  | [], [] => True
  | x :: r, y :: s => x.same y ∧ sameL r s
  | _, _ => False
def SA.same : SA → SA → Prop
  | .c x, .c y => x.same y
  | .agg x, .agg y => sameL x y
  | _, _ => False
def sameA : List SA → List SA → Prop
  | [], [] => True
  | x :: r, y :: s => x.same y ∧ sameA r s
  | _, _ => False
def SV.same : SV → SV → Prop
  | .c x, .c y => x.same y
  | .agg x, .agg y => sameL x y
  | .tup x, .tup y => sameA x y
  | _, _ => False
/-- There is nothing in it. -/
def Cont.isVoid : Cont → Prop
  | .void => True
  | .cells _ l => lenOf l = 0 ∧ l.all Cel.okB = true
  | .op _ => False
def Cont.same : Cont → Cont → Prop
  | .cells t l, .cells t' l' => t = t' ∧ sameL l l'
  | .void, c => c.isVoid
  | .op p, .op q => p = q
  | _, _ => False
/-- Each slot that 'u' names reads in 's' as 'u' says. -/
def entSl (s : Sl) : Sl → Prop
  | [] => True
  | (i, v) :: r => (match s.get i with
    | some x => x.same v
    | none => False) ∧ entSl s r
/-- Each block that 'u' names lies in 'h', under the tag that the list 'm' gives (or there is nothing in it). -/
def entHp (h : Hp) : List Nat → Hp → Prop
  | [], [] => True
  | t :: m, (_, b, c) :: r => (match h.get t with
    | some (b', c') => b' = b ∧ c'.same c
    | none => c.isVoid) ∧ entHp h m r
  | _, _ => False
def present (h : Hp) : List Nat → Bool
  | [] => true
  | t :: r => match h.get t with
    | some _ => present h r
    | none => false
def nodupB : List Nat → Bool
  | [] => true
  | x :: r => match elem x r with
    | true => false
    | false => nodupB r
def tagsOf : Hp → List Nat
  | [] => []
  | (t, _, _) :: r => t :: tagsOf r
/-- The state is one of those that 'i' speaks of. -/
def meets (i : Inv) (s : Sl) (h : Hp) (q : i.G → Prop) : Prop :=
  ∃ (g : i.G) (m : List Nat), nodupB m = true ∧ nodupB (tagsOf (i.hp g)) = true ∧ entSl s (i.sl g) ∧ entHp h m (i.hp g) ∧ i.pre g ∧ q g

/-- An order in which a region's operations are walked; at a fork, each that may come up is taken first ('fork' this or else; a 'step' is the last of them). -/
inductive Ord where
  | nil
  | step (i : Nat) (t : Ord)
  | fork (i : Nat) (t u : Ord)
def seqOf : List Nat → Ord
  | [] => .nil
  | i :: r => .step i (seqOf r)
instance : Coe (List Nat) Ord := ⟨seqOf⟩
/-- First these, then. -/
def preOf : List Nat → Ord → Ord
  | [], t => t
  | i :: r, t => .step i (preOf r t)
def Ord.depth : Ord → Nat
  | .nil => 0
  | .step _ t => t.depth + 1
  | .fork _ t u => match Nat.ble (t.depth + 1) u.depth with
    | true => u.depth
    | false => t.depth + 1
def Ord.heads : Ord → List Nat
  | .nil => []
  | .step i _ => [i]
  | .fork i _ u => i :: u.heads
inductive Item where
  | code (c : Code)
  | rop (ops : Array Oper) (todo : Ord)
  | blk (id : Nat)
  | inv (i : Inv)
  | back (i : Inv) (g : i.G)

def popTo (id : Nat) : List Item → Option (List Item)
  | [] => none
  | .blk j :: k => match Nat.beq id j with
    | true => some k
    | false => popTo id k
  | _ :: k => popTo id k
def firstRegion : Code → Option Nat
  | .region id _ _ => some id
  | .seq a b => match firstRegion a with
    | some i => some i
    | none => firstRegion b
  | .block _ c => firstRegion c
  | .loop c => firstRegion c
  | .cond _ _ _ => none
  | _ => none

/-- What is told of a function's text, beside it: the order of each region that draws; the cuts; the loops. -/
structure Notes where
  order : Nat → Option Ord
  cut : Nat → Option (Option Inv)
  loop : Nat → Option Inv
  keep : List Nat

/-- May the region be walked in this order? (a Bool, for the kernel) -/
def canonB (cx : Cx) (ops : Array Oper) : Bool → Ord → Array Bool → Bool
  | alt, .nil, listed => !alt && (Region.ready .any ops listed).isEmpty
  | true, .step i r, listed => canonB cx ops false r (listed.setIfInBounds i true)
  | false, .step i r, listed => (Region.ready .any ops listed).contains i &&
    (match ops[i]? with
     | none => false
     | some o => match clsOf cx o with
       | .pure => Region.free .any ops listed i
       | .read => Region.free .any ops listed i && writersWait .any ops (fun j => match ops[j]? with | some o => (match clsOf cx o with | .write => true | _ => false) | none => false) listed i
       | _ => (Region.ready .any ops listed).length == 1) &&
    canonB cx ops false r (listed.setIfInBounds i true)
  | alt, .fork i t u, listed => (alt || (!(Region.ready .any ops listed).isEmpty && (Region.ready .any ops listed).all fun j => (Ord.fork i t u).heads.contains j)) &&
    canonB cx ops false t (listed.setIfInBounds i true) && canonB cx ops true u listed
def canon (cx : Cx) (ops : Array Oper) (l : Ord) : Bool := Region.noSelect ops && Nat.ble l.depth ops.size && canonB cx ops false l (Array.replicate ops.size false)

def retV (cx : Cx) (s : Sl) (h : Hp) : List ResultVar → Option (C × List SA)
  | [] => some (none, [])
  | .tmp t :: r => match s.get t, retV cx s h r with
    | some v, some (p, l) => match v.sa with
      | some a => some (p, a :: l)
      | none => none
    | _, _ => none
  | .cell a t :: r => match stillOp cx s h (.load t (.tmp a)), retV cx s h r with
    | .st p v, some (q, l) => match v.sa with
      | some a => some (C.and p q, a :: l)
      | none => none
    | _, _ => none
def retSV : List SA → SV
  | [x] => x.sv
  | l => .tup l

variable (cx : Cx) (rs : List ResultVar) (nt : Notes) (post : SV → Hp → Prop)

def vc : Nat → List Item → Sl → Hp → Prop
  | 0, _, _, _ => False
  | n + 1, items, s, h => match items with
    | [] => match retV cx s h rs with
      | some (p, l) => p.then (post (retSV l) h)
      | none => False
    | .blk _ :: k => vc n k s h
    | .inv i :: _ => meets i s h fun _ => True
    | .back i g :: _ => meets i s h fun g' => i.mu g' < i.mu g
    | .rop ops todo :: k => match todo with
      | .nil => vc n k (s.keep nt.keep) h
      | .fork i t u => vc n (.rop ops (.step i t) :: k) s h ∧ vc n (.rop ops u :: k) s h
      | .step i is => match ops[i]? with
        | none => False
        | some o => match o.guard with
          | none => (stepOp cx s h o).then h fun v h' => vc n (.rop ops is :: k) (s.setD o.dst v) h'
          | some (j, want) => match (ops[j]?).bind (·.dst) with
            | none => False
            | some d => match s.get d with
              | some (.c (.v (.bool p))) =>
                (p = want → (stepOp cx ((d, .bool want) :: s) h o).then h fun v h' => vc n (.rop ops is :: k) (Sl.setD ((d, .bool want) :: s) o.dst v) h') ∧
                (p = !want → okDst cx o.dst = true ∧ vc n (.rop ops is :: k) (Sl.setD ((d, .bool (!want)) :: s) o.dst .nothing) h)
              | _ => False
    | .code c :: k => match c with
      | .skip => vc n k s h
      | .label _ => vc n k s h
      | .seq a b => match (firstRegion b).bind nt.cut with
        | none => vc n (.code a :: .code b :: k) s h
        | some none => ∃ i : Inv, vc n (.code a :: .inv i :: k) s h ∧ ∀ g, i.pre g → vc n (.code b :: k) (i.sl g) (i.hp g)
        | some (some i) => vc n (.code a :: .inv i :: k) s h ∧ ∀ g, i.pre g → vc n (.code b :: k) (i.sl g) (i.hp g)
      | .cond x a b => match opd s x with
        | some (.c (.v (.bool p))) => (p = true → vc n (.code a :: k) s h) ∧ (p = false → vc n (.code b :: k) s h)
        | _ => False
      | .block id b => vc n (.code b :: .blk id :: k) s h
      | .loop b => match (firstRegion b).bind nt.loop with
        | none => ∃ i : Inv, (meets i s h fun _ => True) ∧ ∀ g, i.pre g → vc n (.code b :: .back i g :: k) (i.sl g) (i.hp g)
        | some i => (meets i s h fun _ => True) ∧ ∀ g, i.pre g → vc n (.code b :: .back i g :: k) (i.sl g) (i.hp g)
      | .exit id => match popTo id k with
        | some k' => vc n k' s h
        | none => False
      | .ret => match retV cx s h rs with
        | some (p, l) => p.then (post (retSV l) h)
        | none => False
      | .region id ops draw => match draw with
        | false => vc n (.rop ops (seqOf (List.range ops.size)) :: k) s h
        | true => match nt.order id with
          | some l => canon cx ops l = true ∧ vc n (.rop ops l :: k) s h
          | none => False
      | _ => False

end Ab
end Go
