/- A machine of one's own, for runs whose data are all known: what it holds, and its steps. It names no place in memory by the world's number: each row has a name of its own. No condition. -/
import Derived.Test.YtlgpgmafmgmfdaaCvK
import Derived.Orders
set_option linter.unusedSimpArgs false
set_option linter.unusedVariables false
namespace Cv
open Go Go.RowKit

/-! ### Finite maps from numbers -/

inductive Tr (α : Type) where
  | e
  | n (v : Option α) (l r : Tr α)

def Tr.get {α : Type} : List Bool → Tr α → Option α
  | _, .e => none
  | [], .n v _ _ => v
  | b :: p, .n _ l r => bif b then Tr.get p l else Tr.get p r

def Tr.set {α : Type} (x : Option α) : List Bool → Tr α → Tr α
  | [], .e => .n x .e .e
  | [], .n _ l r => .n x l r
  | b :: p, .e => bif b then .n none (Tr.set x p .e) .e else .n none .e (Tr.set x p .e)
  | b :: p, .n v l r => bif b then .n v (Tr.set x p l) r else .n v l (Tr.set x p r)

def pthF : Nat → Nat → List Bool
  | 0, n => List.replicate n true
  | f + 1, n => bif Nat.beq n 0 then [] else Nat.beq (n % 2) 1 :: pthF f (n / 2)

def pth (n : Nat) : List Bool := pthF 40 n

/-! ### Values -/

/-- The room of a slice: known; or all of its row behind so many elements (and where it lies if that is nothing). -/
inductive Cap where
  | k (c : Nat)
  | r (l o0 : Nat)

inductive V where
  | int (k : IntKind) (n : Int)
  | bool (b : Bool)
  | str (l : List Nat)
  | ptr (a : Option (Nat × Nat))
  | sl (a : Option (Nat × Nat)) (n : Nat) (c : Cap)
  | map (r : Option Nat)
  | agg (l : List V)
  | tup (l : List V)
  | fn (f : Nat) (first cap : List V)
  | nilfn

inductive AObj where
  | cells (xs : List V) (t : TypeId) (opn : Option Nat)
  | map (es : List (V × V × Nat)) (clock : Nat)
  | iter (s : List Nat) (pos : Nat)

structure St where
  h : Tr AObj
  nx : Nat

def St.get (s : St) (b : Nat) : Option AObj := Tr.get (pth b) s.h
def St.set (s : St) (b : Nat) (o : AObj) : St := ⟨Tr.set (some o) (pth b) s.h, s.nx⟩
def St.del (s : St) (b : Nat) : St := ⟨Tr.set none (pth b) s.h, s.nx⟩
def St.new (s : St) (o : AObj) : St := ⟨Tr.set (some o) (pth s.nx) s.h, s.nx + 1⟩

/-- Where each named row lies, and for how many elements it has room. -/
@[reducible] def Phi := Nat → Nat × Nat

def cvs (φ : Phi) (b o n : Nat) : Cap → Addr
  | .k _ => ⟨(φ b).1, o, none⟩
  | .r l o0 => ⟨(φ b).1, bif Nat.beq n 0 && Nat.beq (φ b).2 l then o0 else o, none⟩

def cvc (φ : Phi) (b : Nat) : Cap → Nat
  | .k c => c
  | .r l _ => (φ b).2 - l

mutual
def cv (φ : Phi) : V → Value
  | .int k n => .int k n
  | .bool b => .bool b
  | .str l => .string (bs l)
  | .ptr none => .pointer none
  | .ptr (some (b, o)) => .pointer (some ⟨(φ b).1, o, none⟩)
  | .sl none n c => .slice none n (match c with | .k c => c | .r _ _ => 0)
  | .sl (some (b, o)) n c => .slice (some (cvs φ b o n c)) n (cvc φ b c)
  | .map none => .map none
  | .map (some b) => .map (some (φ b).1)
  | .agg l => .agg (cvl φ l).toArray
  | .tup l => .tuple (cvl φ l).toArray
  | .fn f a b => .func (.func f) (cvl φ a).toArray (cvl φ b).toArray
  | .nilfn => .nilFunc
def cvl (φ : Phi) : List V → List Value
  | [] => []
  | v :: l => cv φ v :: cvl φ l
end

def allS {α : Type} : List (Option α) → Option (List α)
  | [] => some []
  | some a :: l => match allS l with
    | some r => some (a :: r)
    | none => none
  | none :: _ => none

def vOf1 : Value → Option V
  | .int k n => some (.int k n)
  | .bool b => some (.bool b)
  | .string s => some (.str (s.data.toList.map UInt8.toNat))
  | .pointer none => some (.ptr none)
  | .slice none n c => some (.sl none n (.k c))
  | .map none => some (.map none)
  | .nilFunc => some .nilfn
  | _ => none

def vOf : Value → Option V
  | .agg cs => match allS (cs.toList.map vOf1) with
    | some l => some (.agg l)
    | none => none
  | .tuple cs => match allS (cs.toList.map vOf1) with
    | some l => some (.tup l)
    | none => none
  | v => vOf1 v

def oget (ρ : Tr V) : Operand → Option V
  | .tmp t => Tr.get (pth t) ρ
  | .const v => vOf v
  | .func f => some (.fn f [] [])
  | .global _ => none

def aput (ρ : Tr V) : Option Nat → V → Tr V
  | none, _ => ρ
  | some d, v => Tr.set (some v) (pth d) ρ

def V.cells : V → List V
  | .agg l => l
  | v => [v]

def V.one : V → Bool
  | .agg _ => false
  | .tup _ => false
  | _ => true

def keq : IntKind → IntKind → Bool
  | .i8, .i8 => true | .i16, .i16 => true | .i32, .i32 => true | .i64, .i64 => true
  | .u8, .u8 => true | .u16, .u16 => true | .u32, .u32 => true | .u64, .u64 => true
  | _, _ => false
def ieq : Int → Int → Bool
  | .ofNat a, .ofNat b => Nat.beq a b
  | .negSucc a, .negSucc b => Nat.beq a b
  | _, _ => false
def ilt : Int → Int → Bool
  | .ofNat a, .ofNat b => Nat.blt a b
  | .ofNat _, .negSucc _ => false
  | .negSucc _, .ofNat _ => true
  | .negSucc a, .negSucc b => Nat.blt b a
def leq : List Nat → List Nat → Bool
  | [], [] => true
  | a :: l, b :: l' => Nat.beq a b && leq l l'
  | _, _ => false
/-- The same bytes. -/
def beqs : List Nat → List Nat → Bool
  | [], [] => true
  | a :: l, b :: l' => Nat.beq (a % 256) (b % 256) && beqs l l'
  | _, _ => false
def blts : List Nat → List Nat → Bool
  | [], _ :: _ => true
  | _, [] => false
  | a :: l, b :: l' => bif Nat.blt (a % 256) (b % 256) then true else Nat.beq (a % 256) (b % 256) && blts l l'
def aeq : Option (Nat × Nat) → Option (Nat × Nat) → Bool
  | none, none => true
  | some (a, b), some (c, d) => Nat.beq a c && Nat.beq b d
  | _, _ => false
def ceq : Cap → Cap → Bool
  | .k c, .k c' => Nat.beq c c'
  | .r l o, .r l' o' => Nat.beq l l' && Nat.beq o o'
  | _, _ => false

mutual
def veq : V → V → Bool
  | .int k n, .int k' n' => keq k k' && ieq n n'
  | .bool b, .bool b' => bif b then b' else !b'
  | .str l, .str l' => leq l l'
  | .ptr a, .ptr a' => aeq a a'
  | .sl a n c, .sl a' n' c' => aeq a a' && Nat.beq n n' && ceq c c'
  | .map none, .map none => true
  | .map (some r), .map (some r') => Nat.beq r r'
  | .agg l, .agg l' => veqL l l'
  | .tup l, .tup l' => veqL l l'
  | .nilfn, .nilfn => true
  | _, _ => false
def veqL : List V → List V → Bool
  | [], [] => true
  | v :: l, v' :: l' => veq v v' && veqL l l'
  | _, _ => false
end

/-! ### Numbers -/

/-- All naturals below it are numbers of the kind. -/
def lim : IntKind → Nat
  | .i8 => 128 | .i16 => 32768 | .i32 => 2147483648 | .i64 => 9223372036854775808
  | .u8 => 256 | .u16 => 65536 | .u32 => 4294967296 | .u64 => 18446744073709551616

def wr (k : IntKind) : Int → Int
  | .ofNat n => bif Nat.blt n (lim k) then .ofNat n else k.wrap (.ofNat n)
  | x => k.wrap x

def modN : IntKind → Nat
  | .i8 => 256 | .i16 => 65536 | .i32 => 4294967296 | .i64 => 18446744073709551616
  | .u8 => 256 | .u16 => 65536 | .u32 => 4294967296 | .u64 => 18446744073709551616

def fAnd (k : IntKind) : Int → Int → Int
  | .ofNat a, .ofNat b => wr k (.ofNat (Nat.land (a % modN k) (b % modN k)))
  | a, b => iAnd k a b
def fOr (k : IntKind) : Int → Int → Int
  | .ofNat a, .ofNat b => wr k (.ofNat (Nat.lor (a % modN k) (b % modN k)))
  | a, b => iOr k a b
def fXor (k : IntKind) : Int → Int → Int
  | .ofNat a, .ofNat b => wr k (.ofNat (Nat.xor (a % modN k) (b % modN k)))
  | a, b => iXor k a b
def fShl (k : IntKind) : Int → Int → Int
  | .ofNat a, .ofNat b => wr k (.ofNat (a * 2 ^ (Nat.min b k.bits)))
  | a, b => iShl k a b
def fShr (k : IntKind) : Int → Int → Int
  | .ofNat a, .ofNat b => .ofNat (a / 2 ^ (Nat.min b k.bits))
  | a, b => iShr k a b

def aint (op : BinOp) (k k' : IntKind) (a b : Int) : Option V :=
  match op with
  | .shl => bif ilt b 0 then none else some (.int k (fShl k a b))
  | .shr => bif ilt b 0 then none else some (.int k (fShr k a b))
  | op => bif keq k k' then
    (match op with
    | .add => some (.int k (wr k (a + b)))
    | .sub => some (.int k (wr k (a - b)))
    | .mul => some (.int k (wr k (a * b)))
    | .quo => bif ieq b 0 then none else some (.int k (wr k (a.tdiv b)))
    | .rem => bif ieq b 0 then none else some (.int k (a.tmod b))
    | .and => some (.int k (fAnd k a b))
    | .or => some (.int k (fOr k a b))
    | .xor => some (.int k (fXor k a b))
    | .andNot => some (.int k (iAndNot k a b))
    | .eql => some (.bool (ieq a b))
    | .neq => some (.bool !(ieq a b))
    | .lss => some (.bool (ilt a b))
    | .leq => some (.bool !(ilt b a))
    | .gtr => some (.bool (ilt b a))
    | .geq => some (.bool !(ilt a b))
    | _ => none) else none

def isBoolT (P : Program) (t : TypeId) : Bool :=
  match P.underlying t with
  | some .bool => true
  | _ => false
def isPtrT (P : Program) (t : TypeId) : Bool :=
  match P.underlying t with
  | some (.pointer _) => true
  | _ => false
def isSlT (P : Program) (t : TypeId) : Bool :=
  match P.underlying t with
  | some (.slice _) => true
  | _ => false
def isMapT (P : Program) (t : TypeId) : Bool :=
  match P.underlying t with
  | some (.map _ _) => true
  | _ => false
def isStrT (P : Program) (t : TypeId) : Bool :=
  match P.underlying t with
  | some .string => true
  | _ => false

def intT (P : Program) (t : TypeId) : Option IntKind :=
  match P.underlying t with
  | some (.int k) => some k
  | _ => none

/-- Values that name no place. -/
def plainV : V → Bool
  | .int _ _ => true
  | .bool _ => true
  | .str _ => true
  | _ => false
def plainL : List V → Bool
  | [] => true
  | v :: l => plainV v && plainL l
def phi0 : Phi := fun _ => (0, 0)

def anil (neg : Bool) : V → V → Option (V × Bool)
  | .ptr a, .ptr none => some (.bool (bif neg then a.isSome else a.isNone), true)
  | .ptr none, .ptr a => some (.bool (bif neg then a.isSome else a.isNone), true)
  | .sl a _ _, .sl none _ _ => some (.bool (bif neg then a.isSome else a.isNone), true)
  | .map a, .map none => some (.bool (bif neg then a.isSome else a.isNone), true)
  | _, _ => none

def abin (P : Program) (op : BinOp) (t : TypeId) (x y : Operand) (a b : V) : Option V :=
  match a with
  | .int k a => match b with
    | .int k' b => aint op k k' a b
    | _ => none
  | .bool a => match b with
    | .bool b => bif isBoolT P t then
        (match op with
        | .eql => some (.bool (bif a then b else !b))
        | .neq => some (.bool (bif a then !b else b))
        | _ => none) else none
    | _ => none
  | .str a => match b with
    | .str b =>
      (match op with
      | .add => bif Nat.blt (a.length + b.length) 1000000000 then some (.str (a ++ b)) else none
      | .eql => some (.bool (beqs a b))
      | .neq => some (.bool !(beqs a b))
      | .lss => some (.bool (blts a b))
      | _ => none)
    | _ => none
  | .ptr a => match b with
    | .ptr b => bif isPtrT P t && (a.isNone || b.isNone) then
        (match op with
        | .eql => some (.bool (a.isNone && b.isNone))
        | .neq => some (.bool !(a.isNone && b.isNone))
        | _ => none) else none
    | _ => none
  | .sl a _ _ => match b with
    | .sl none _ _ => bif isSlT P t then
        (match op with
        | .eql => some (.bool a.isNone)
        | .neq => some (.bool !a.isNone)
        | _ => none) else none
    | _ => none
  | .map a => match b with
    | .map none => bif isMapT P t then
        (match op with
        | .eql => some (.bool a.isNone)
        | .neq => some (.bool !a.isNone)
        | _ => none) else none
    | _ => none
  | .agg a => match b with
    | .agg b => bif plainL a && plainL b then
        (match op with
        | .eql => (match freeRun P (Op.equal t (.agg (cvl phi0 a).toArray) (.agg (cvl phi0 b).toArray)), freeRun P (eqGuard .eql t (.tmp 0) (.tmp 0) (.agg (cvl phi0 a).toArray) (.agg (cvl phi0 b).toArray)) with
          | some r, some () => some (.bool r)
          | _, _ => none)
        | .neq => (match freeRun P (Op.equal t (.agg (cvl phi0 a).toArray) (.agg (cvl phi0 b).toArray)), freeRun P (eqGuard .neq t (.tmp 0) (.tmp 0) (.agg (cvl phi0 a).toArray) (.agg (cvl phi0 b).toArray)) with
          | some r, some () => some (.bool !r)
          | _, _ => none)
        | _ => none) else none
    | _ => none
  | _ => none

/-! ### Operations that look at no memory -/

def fieldOff (P : Program) (s : TypeId) (f : Nat) : Option Nat :=
  match P.underlying s with
  | some (.struct fs) => match fs[f]? with
    | some fd => match P.info? fd.type with
      | some i => bif Nat.beq i.size 0 then none else some fd.offset
      | none => none
    | none => none
  | _ => none

def fieldPart (P : Program) (s : TypeId) (f : Nat) : Option (TypeId × Nat) :=
  match P.underlying s with
  | some (.struct fs) => match fs[f]? with
    | some fd => some (fd.type, fd.offset)
    | none => none
  | _ => none

def arrPart (P : Program) (t : TypeId) : Option (Nat × TypeId × Nat) :=
  match P.underlying t with
  | some (.array n e) => match P.info? e with
    | some i => some (n, e, i.size)
    | none => none
  | _ => none

/-- A part of a struct or an array. -/
def apart (P : Program) (t : TypeId) (cs : List V) (off : Nat) : Option V :=
  match aggS P t with
  | some sz => some (.agg ((cs.drop off).take sz))
  | none => bif scal P t then cs[off]? else none

def idxOk (i : Int) (n : Nat) : Option Nat :=
  match i with
  | .ofNat j => bif Nat.blt j n then some j else none
  | _ => none

def afill (place : Nat → Option (Nat × Nat)) : List (Nat × V) → List V → Option (List V)
  | [], cs => some cs
  | (i, v) :: rest, cs =>
    match place i with
    | none => none
    | some (off, size) => bif Nat.beq v.cells.length size && Nat.ble (off + size) cs.length then afill place rest (cs.take off ++ (v.cells ++ cs.drop (off + size))) else none

def oparts (ρ : Tr V) : List (Nat × Operand) → Option (List (Nat × V))
  | [] => some []
  | (i, x) :: l => match oget ρ x with
    | some v => match oparts ρ l with
      | some r => some ((i, v) :: r)
      | none => none
    | none => none

def ogets (ρ : Tr V) : List Operand → Option (List V)
  | [] => some []
  | x :: l => match oget ρ x with
    | some v => match ogets ρ l with
      | some r => some (v :: r)
      | none => none
    | none => none

/-- The parts' places in a struct. -/
def places (P : Program) (t : TypeId) : Option (List (Option (Nat × Nat))) :=
  match P.underlying t with
  | some (.struct fs) => some (fs.toList.map fun fd => match P.info? fd.type with
      | some i => some (fd.offset, i.size)
      | none => none)
  | _ => none

def zeroA (P : Program) (t : TypeId) : Option V :=
  match P.info? t with
  | some i => match i.zero with
    | some z => vOf z
    | none => none
  | none => none

def placeAt (l : List (Option (Nat × Nat))) (i : Nat) : Option (Nat × Nat) :=
  match l[i]? with
  | some r => r
  | none => none

def abuild (P : Program) (t : TypeId) (ps : List (Nat × V)) : Option V :=
  match zeroA P t with
  | some z => match places P t with
    | some pl => match allS pl with
      | some _ => match afill (placeAt pl) ps z.cells with
        | some cs => some (.agg cs)
        | none => none
      | none => none
    | none => match arrPart P t with
      | some (_, _, sz) => match afill (fun i => some (i * sz, sz)) ps z.cells with
        | some cs => some (.agg cs)
        | none => none
      | none => none
  | none => none

def alen (P : Program) (t : TypeId) : V → Option V
  | .str l => bif isStrT P t then some (.int .i64 (.ofNat l.length)) else none
  | .sl _ n _ => bif isSlT P t then some (.int .i64 (.ofNat n)) else none
  | _ => none

def aminmax (lt : Int → Int → Bool) : V → List V → Option V
  | v, [] => some v
  | .int k a, .int k' b :: l => bif keq k k' then aminmax lt (.int k (bif lt b a then b else a)) l else none
  | _, _ => none

def aq (P : Program) (o : Oper) (ρ : Tr V) : Option V :=
  match o.op with
  | .move x => oget ρ x
  | .assign x => oget ρ x
  | .pick c a b => match oget ρ c with
    | some (.bool t) => bif t then oget ρ a else oget ρ b
    | _ => none
  | .nilCheck x => match oget ρ x with
    | some (.ptr (some a)) => some (.ptr (some a))
    | _ => none
  | .fieldAddr s x f => match oget ρ x with
    | some (.ptr (some (b, o))) => match fieldOff P s f with
      | some off => some (.ptr (some (b, o + off)))
      | none => none
    | _ => none
  | .indexAddr t x i => match oget ρ i with
    | some (.int _ i) => match oget ρ x with
      | some (.sl (some (b, o)) n _) => match slElem P t with
        | some sz => match idxOk i n with
          | some j => some (.ptr (some (b, o + j * sz)))
          | none => none
        | none => none
      | some (.ptr (some (b, o))) => match arrElem P t with
        | some (n, sz) => match idxOk i n with
          | some j => some (.ptr (some (b, o + j * sz)))
          | none => none
        | none => none
      | _ => none
    | _ => none
  | .index t x i => match oget ρ i with
    | some (.int _ i) => match oget ρ x with
      | some (.str l) => bif isStrT P t then (match idxOk i l.length with
        | some j => match l[j]? with
          | some b => some (.int .u8 (.ofNat (b % 256)))
          | none => none
        | none => none) else none
      | some (.agg cs) => match arrPart P t with
        | some (n, e, sz) => match idxOk i n with
          | some j => apart P e cs (j * sz)
          | none => none
        | none => none
      | _ => none
    | _ => none
  | .binOp op t x y _ => match oget ρ x with
    | some a => match oget ρ y with
      | some b => abin P op t x y a b
      | none => none
    | none => none
  | .unOp op _ x => match oget ρ x with
    | some (.bool b) => match op with
      | .not => some (.bool !b)
      | _ => none
    | some (.int k n) => match op with
      | .neg => some (.int k (wr k (0 - n)))
      | .xor => some (.int k (iXor k (if k.signed then -1 else k.max) n))
      | _ => none
    | _ => none
  | .convert s d x => match oget ρ x with
    | some (.int _ n) => match intT P s with
      | some _ => match intT P d with
        | some k => some (.int k (wr k n))
        | none => none
      | none => none
    | _ => none
  | .build t ps => match oparts ρ ps.toList with
    | some ps => abuild P t ps
    | none => none
  | .extract x i => match oget ρ x with
    | some (.tup l) => l[i]?
    | _ => none
  | .field t x f => match oget ρ x with
    | some (.agg cs) => match fieldPart P t f with
      | some (ft, off) => apart P ft cs off
      | none => none
    | _ => none
  | .makeFunc (.func f) a b => match ogets ρ a.toList with
    | some a => match ogets ρ b.toList with
      | some b => some (.fn f a b)
      | none => none
    | none => none
  | .call c => match c.callee with
    | .builtin .len => match c.argTypes[0]? with
      | some t => match ogets ρ c.args.toList with
        | some [v] => alen P t v
        | _ => none
      | none => none
    | .builtin .min => match ogets ρ c.args.toList with
      | some (v :: l) => aminmax (fun b a => ilt b a) v l
      | _ => none
    | .builtin .max => match ogets ρ c.args.toList with
      | some (v :: l) => aminmax (fun b a => ilt a b) v l
      | _ => none
    | _ => none
  | _ => none

/-! ### Operations that look at memory -/

def aload (P : Program) (t : TypeId) (s : St) (b o : Nat) : Option V :=
  match s.get b with
  | some (.cells xs _ _) => match aggS P t with
    | some sz => bif Nat.ble (o + sz) xs.length then some (.agg ((xs.drop o).take sz)) else none
    | none => bif scal P t then xs[o]? else none
  | _ => none

/-- That a slice is no longer than its room. -/
def slOk (s : St) (sz : Nat) (a : Option (Nat × Nat)) (n : Nat) : Cap → Bool
  | .k c => Nat.ble n c
  | .r l _ => match a with
    | some (b, _) => match s.get b with
      | some (.cells xs _ (some sz')) => Nat.beq sz sz' && Nat.blt 0 sz && Nat.ble ((l + n) * sz) xs.length
      | _ => false
    | none => false

def obnd (ρ : Tr V) : Option Operand → Option (Option Nat)
  | none => some none
  | some x => match oget ρ x with
    | some (.int _ (.ofNat n)) => some (some n)
    | _ => none

/-- A part of a slice. -/
def asl (sz : Nat) (a : Option (Nat × Nat)) (c : Cap) (lo hi : Nat) : V :=
  match a, c with
  | none, _ => .sl none (hi - lo) (match c with | .k c => .k (c - lo) | c => c)
  | some (b, o), .k c => .sl (some (b, bif Nat.beq c lo then o else o + lo * sz)) (hi - lo) (.k (c - lo))
  | some (b, o), .r l o0 => bif Nat.beq lo 0 then .sl (some (b, o)) hi (.r l o0) else .sl (some (b, o + lo * sz)) (hi - lo) (.r (l + lo) o)

def capHi (n : Nat) : Cap → Nat
  | .k c => c
  | .r _ _ => n

def aslice (P : Program) (t : TypeId) (s : St) (x : V) (lo hi : Option Nat) : Option V :=
  match x with
  | .str l => bif isStrT P t && Nat.ble (lo.getD 0) (hi.getD l.length) && Nat.ble (hi.getD l.length) l.length then some (.str ((l.drop (lo.getD 0)).take (hi.getD l.length - lo.getD 0))) else none
  | .sl a n c => match slElem P t with
    | some sz => bif slOk s sz a n c && Nat.ble (lo.getD 0) (hi.getD n) && Nat.ble (hi.getD n) (capHi n c) then some (asl sz a c (lo.getD 0) (hi.getD n)) else none
    | none => none
  | .ptr (some (b, o)) => match arrElem P t with
    | some (n, sz) => bif Nat.ble (lo.getD 0) (hi.getD n) && Nat.ble (hi.getD n) n then some (asl sz (some (b, o)) (.k n) (lo.getD 0) (hi.getD n)) else none
    | none => none
  | _ => none

def akey : V → V → Option Bool
  | .int k a, .int k' b => bif keq k k' then some (ieq a b) else none
  | .str a, .str b => some (beqs a b)
  | .bool a, .bool b => some (bif a then b else !b)
  | _, _ => none

def afind (k : V) : List (V × V × Nat) → Nat → Option (Option (Nat × V × V × Nat))
  | [], _ => some none
  | e :: es, i => match akey k e.1 with
    | some true => some (some (i, e))
    | some false => afind k es (i + 1)
    | none => none

/-- The kinds of keys that are looked at as they are. -/
def keyT (P : Program) (t : TypeId) (k : V) : Bool :=
  match P.underlying t, k with
  | some (.int _), .int _ _ => true
  | some .string, .str _ => true
  | some .bool, .bool _ => true
  | _, _ => false

def mapT (P : Program) (t : TypeId) : Option (TypeId × TypeId) :=
  match P.underlying t with
  | some (.map k e) => some (k, e)
  | _ => none

def amap (s : St) : V → Option (List (V × V × Nat))
  | .map none => some []
  | .map (some r) => match s.get r with
    | some (.map es _) => some es
    | _ => none
  | _ => none

def alookup (P : Program) (t : TypeId) (s : St) (m k : V) (ok : Bool) : Option V :=
  match mapT P t with
  | some (kt, e) => bif keyT P kt k then (match amap s m with
    | some es => match afind k es 0 with
      | some (some (_, _, v, _)) => some (bif ok then .tup [v, .bool true] else v)
      | some none => match zeroA P e with
        | some z => some (bif ok then .tup [z, .bool false] else z)
        | none => none
      | none => none
    | none => none) else none
  | none => none

def u8Sl (P : Program) (t : TypeId) : Bool :=
  match P.underlying t with
  | some (.slice e) => match P.underlying e with
    | some (.int .u8) => true
    | _ => false
  | _ => false

def byteL : List V → Option (List Nat)
  | [] => some []
  | .int .u8 (.ofNat n) :: l => match byteL l with
    | some r => some (n :: r)
    | none => none
  | _ => none

/-- The cells of a slice's beginning. -/
def afirst (s : St) (sz n : Nat) : V → Option (List V)
  | .sl none _ _ => some []
  | .sl (some (b, o)) m _ => bif Nat.beq (n * sz) 0 then some [] else (match s.get b with
    | some (.cells xs _ _) => bif Nat.ble (o + n * sz) xs.length && Nat.blt 0 m then some ((xs.drop o).take (n * sz)) else none
    | _ => none)
  | .str l => bif Nat.beq sz 1 && Nat.ble n l.length then some ((l.take n).map fun b => .int .u8 (.ofNat (b % 256))) else none
  | _ => none

def ar (P : Program) (o : Oper) (ρ : Tr V) (s : St) : Option V :=
  match o.op with
  | .load t x => match oget ρ x with
    | some (.ptr (some (b, o))) => aload P t s b o
    | _ => none
  | .slice t x lo hi none => match oget ρ x with
    | some v => match obnd ρ lo with
      | some lo => match obnd ρ hi with
        | some hi => aslice P t s v lo hi
        | none => none
      | none => none
    | none => none
  | .lookup t m k ok => match oget ρ m with
    | some m => match oget ρ k with
      | some k => alookup P t s m k ok
      | none => none
    | none => none
  | .convert st d x => bif u8Sl P st && isStrT P d then (match oget ρ x with
    | some (.sl a n c) => match afirst s 1 n (.sl a n c) with
      | some l => match byteL l with
        | some l => some (.str l)
        | none => none
      | none => none
    | _ => none) else none
  | .call c => match c.callee with
    | .builtin .len => match c.argTypes[0]? with
      | some t => bif isMapT P t then (match ogets ρ c.args.toList with
        | some [m] => match amap s m with
          | some es => some (.int .i64 (.ofNat es.length))
          | none => none
        | _ => none) else none
      | none => none
    | _ => none
  | _ => none

/-! ### Operations that turn memory -/

def onesL : List V → Bool
  | [] => true
  | v :: l => v.one && onesL l

def sizeA (P : Program) (t : TypeId) : Option Nat :=
  match P.info? t with
  | some i => some i.size
  | none => none

/-- Cells are written over a row. -/
def awr (s : St) (b o : Nat) (vs : List V) : Option St :=
  match s.get b with
  | some (.cells xs t opn) => bif Nat.ble (o + vs.length) xs.length && onesL vs then some (s.set b (.cells (xs.take o ++ (vs ++ xs.drop (o + vs.length))) t opn)) else none
  | _ => none

def rep {α : Type} : Nat → List α → List α
  | 0, _ => []
  | n + 1, l => l ++ rep n l

def slInfoA (P : Program) (t : TypeId) : Option (TypeId × Nat × Nat × List V) :=
  match P.underlying t with
  | some (.slice e) => match P.info? e with
    | some i => match zeroA P e with
      | some z => bif Nat.beq z.cells.length i.size then some (e, i.size, i.bytes, z.cells) else none
      | none => none
    | none => none
  | _ => none

def srcLen : V → Option Nat
  | .sl _ n _ => some n
  | .str l => some l.length
  | _ => none

/-- Behind it the slice is a new row, with room that is not known. -/
def agrow (s : St) (e sz by_ n m : Nat) (xs ys : List V) : Option (V × St) :=
  bif Nat.blt 0 by_ && Nat.ble ((n + m) * by_) 70368744177664 && Nat.blt 0 sz && onesL ys then
    some (.sl (some (s.nx, 0)) (n + m) (.r 0 0), s.new (.cells (xs ++ ys) e (some sz)))
  else none

def aappend (P : Program) (t1 t2 : TypeId) (s : St) (x y : V) : Option (V × St) :=
  match slInfoA P t1 with
  | some (e, sz, by_, _) => bif srcT P t2 then
    (match x with
    | .sl a n c => match srcLen y with
      | some m => match afirst s sz m y with
        | some ys => bif Nat.beq m 0 then (bif slOk s sz a n c then some (x, s) else none) else bif Nat.beq ys.length (m * sz) then
          (match a with
          | none => bif Nat.beq n 0 && ceq c (.k 0) then agrow s e sz by_ 0 m [] ys else none
          | some (b, o) => match c with
            | .k c => bif Nat.ble (n + m) c then
                (match awr s b (o + n * sz) ys with
                | some s' => some (.sl (some (b, o)) (n + m) (.k c), s')
                | none => none)
              else (match afirst s sz n x with
                | some xs => agrow s e sz by_ n m xs ys
                | none => none)
            | .r l o0 => match s.get b with
              | some (.cells xs t' (some sz')) => bif Nat.beq sz sz' && Nat.blt 0 sz && Nat.ble ((l + n) * sz) xs.length then
                  (bif Nat.ble ((l + n + m) * sz) xs.length then
                    (match awr s b (o + n * sz) ys with
                    | some s' => some (.sl (some (b, o)) (n + m) (.r l o0), s')
                    | none => none)
                  else bif Nat.beq l 0 && Nat.beq o 0 && Nat.beq o0 0 && Nat.beq t' e then agrow (s.del b) e sz by_ n m (xs.take (n * sz)) ys
                  else none) else none
              | _ => none) else none
        | none => none
      | none => none
    | _ => none) else none
  | none => none

/-- A slice of a known room whose row is known to be as long is copied; the last word: how many elements. -/
def acopy (P : Program) (t : TypeId) (s : St) (x y : V) : Option (V × St) :=
  match slElem P t with
  | some sz => match x with
    | .sl a n _ => match srcLen y with
      | some m => match afirst s sz (Nat.min m n) y with
        | some ys => match a with
          | none => some (.int .i64 (.ofNat (Nat.min m n)), s)
          | some (b, o) => bif Nat.beq ys.length 0 then some (.int .i64 (.ofNat (Nat.min m n)), s) else
            (match awr s b o ys with
            | some s' => some (.int .i64 (.ofNat (Nat.min m n)), s')
            | none => none)
        | none => none
      | none => none
    | _ => none
  | none => none

def setAt {α : Type} (x : α) : List α → Nat → List α
  | [], _ => []
  | _ :: l, 0 => x :: l
  | a :: l, i + 1 => a :: setAt x l i
def delAt {α : Type} : List α → Nat → List α
  | [], _ => []
  | _ :: l, 0 => l
  | a :: l, i + 1 => a :: delAt l i

def amapUpd (P : Program) (t : TypeId) (s : St) (m k v : V) : Option St :=
  match mapT P t with
  | some (kt, _) => bif keyT P kt k then (match m with
    | .map (some r) => match s.get r with
      | some (.map es ck) => match afind k es 0 with
        | some (some (i, _, _, b)) => some (s.set r (.map (setAt (k, v, b) es i) ck))
        | some none => some (s.set r (.map (es ++ [(k, v, ck)]) (ck + 1)))
        | none => none
      | _ => none
    | _ => none) else none
  | none => none

def amapEntry (P : Program) (t : TypeId) (s : St) (m k : V) : Option (V × St) :=
  match mapT P t with
  | some (kt, e) => bif keyT P kt k then (match m with
    | .map (some r) => match s.get r with
      | some (.map es ck) => match afind k es 0 with
        | some (some (i, _, v, b)) => some (.tup [v, .int .i64 (.ofNat b)], s.set r (.map (setAt (k, v, b) es i) ck))
        | some none => match zeroA P e with
          | some z => some (.tup [z, .int .i64 (.ofNat ck)], s.set r (.map (es ++ [(k, z, ck)]) (ck + 1)))
          | none => none
        | none => none
      | _ => none
    | _ => none) else none
  | none => none

def bornAt (b : Nat) : List (V × V × Nat) → Nat → Option (Nat × V)
  | [], _ => none
  | e :: es, i => bif Nat.beq e.2.2 b then some (i, e.1) else bornAt b es (i + 1)

def aentry (s : St) (m b v : V) : Option St :=
  match m with
  | .map (some r) => match s.get r with
    | some (.map es ck) => match b with
      | .int .i64 (.ofNat b) => bif Nat.blt b 9223372036854775808 then (match bornAt b es 0 with
        | some (i, k) => some (s.set r (.map (setAt (k, v, b) es i) ck))
        | none => none) else none
      | _ => none
    | _ => none
  | _ => none

def adelete (P : Program) (t : TypeId) (s : St) (m k : V) : Option St :=
  match mapT P t with
  | some (kt, _) => bif keyT P kt k then (match m with
    | .map none => some s
    | .map (some r) => match s.get r with
      | some (.map es ck) => match afind k es 0 with
        | some (some (i, _)) => some (s.set r (.map (delAt es i) ck))
        | some none => some s
        | none => none
      | _ => none
    | _ => none) else none
  | none => none

def aclear (s : St) (m : V) : Option St :=
  match m with
  | .map none => some s
  | .map (some r) => match s.get r with
    | some (.map _ ck) => some (s.set r (.map [] ck))
    | _ => none
  | _ => none

@[reducible] def Gam := FuncId → List V → St → Option (V × St)

def unit : V := .tup []

def andU : Option St → Option (V × St)
  | some s => some (unit, s)
  | none => none

def ae (P : Program) (G : Gam) (o : Oper) (ρ : Tr V) (s : St) : Option (V × St) :=
  match o.op with
  | .alloc e => match zeroA P e with
    | some z => some (.ptr (some (s.nx, 0)), s.new (.cells z.cells e none))
    | none => none
  | .box e x => match oget ρ x with
    | some v => some (.ptr (some (s.nx, 0)), s.new (.cells v.cells e none))
    | none => none
  | .buildSlice t len ps => match slInfoA P t with
    | some (e, sz, _, z) => bif Nat.ble (len * sz) 16777216 then (match oparts ρ ps.toList with
      | some ps => match afill (fun i => some (i * sz, sz)) ps (rep len z) with
        | some cs => some (.sl (some (s.nx, 0)) len (.k len), s.new (.cells cs e none))
        | none => none
      | none => none) else none
    | none => none
  | .makeMap _ none => some (.map (some s.nx), s.new (.map [] 0))
  | .makeSlice t l c => match oget ρ l with
    | some (.int _ (.ofNat l)) => match oget ρ c with
      | some (.int _ (.ofNat c)) => match slInfoA P t with
        | some (e, _, by_, z) => bif Nat.ble l c && Nat.ble (by_ * c) 281474976710656 && Nat.ble c 9223372036854775807 then some (.sl (some (s.nx, 0)) l (.k c), s.new (.cells (rep c z) e none)) else none
        | none => none
      | _ => none
    | _ => none
  | .store t x v => match oget ρ x with
    | some (.ptr (some (b, o))) => match oget ρ v with
      | some v => match sizeA P t with
        | some n => bif Nat.beq v.cells.length n then andU (awr s b o v.cells) else none
        | none => none
      | none => none
    | _ => none
  | .mapUpdate t m k x => match oget ρ m with
    | some m => match oget ρ k with
      | some k => match oget ρ x with
        | some x => andU (amapUpd P t s m k x)
        | none => none
      | none => none
    | none => none
  | .mapEntry t m k => match oget ρ m with
    | some m => match oget ρ k with
      | some k => amapEntry P t s m k
      | none => none
    | none => none
  | .entryStore _ m b x => match oget ρ m with
    | some m => match oget ρ b with
      | some b => match oget ρ x with
        | some x => andU (aentry s m b x)
        | none => none
      | none => none
    | none => none
  | .range t x => match oget ρ x with
    | some (.str l) => bif isStrT P t then some (.ptr (some (s.nx, 0)), s.new (.iter l 0)) else none
    | _ => none
  | .next x true => match oget ρ x with
    | some (.ptr (some (b, 0))) => match s.get b with
      | some (.iter l pos) => bif Nat.blt pos l.length then
          (match Utf8.decode (bs l) pos with
          | (c, width) => some (.tup [.bool true, .int .i64 (.ofNat pos), .int .i32 c], s.set b (.iter l (pos + width))))
        else some (.tup [.bool false], s)
      | _ => none
    | _ => none
  | .call c => match ogets ρ c.args.toList with
    | some args => match c.callee with
      | .value x => match oget ρ x with
        | some (.fn f a b) => bif hasBody P f then G f (a ++ (args ++ b)) s else none
        | _ => none
      | .builtin .append => match c.argTypes.toList with
        | [t1, t2] => match args with
          | [x, y] => aappend P t1 t2 s x y
          | _ => none
        | _ => none
      | .builtin .copy => match c.argTypes.toList with
        | t :: _ => match args with
          | [x, y] => acopy P t s x y
          | _ => none
        | _ => none
      | .builtin .delete => match c.argTypes.toList with
        | t :: _ => match args with
          | [m, k] => andU (adelete P t s m k)
          | _ => none
        | _ => none
      | .builtin .clear => match c.argTypes.toList with
        | [t] => match args with
          | [m] => bif isMapT P t then andU (aclear s m) else none
          | _ => none
        | _ => none
      | _ => none
    | none => none
  | _ => none

/-! ### Code -/

/-- 0: no memory; 1: it looks at memory; 2: it makes a row; 3: all else. -/
def akind (P : Program) (op : Op) : Nat :=
  match op with
  | .load _ _ => 1
  | .slice _ _ _ _ _ => 1
  | .lookup _ _ _ _ => 1
  | .convert s d _ => bif isSlT P s && isStrT P d then 1 else bif isStrT P s && isSlT P d then 3 else 0
  | .call c => match c.callee with
    | .builtin .len => match c.argTypes[0]? with
      | some t => bif isMapT P t then 1 else 0
      | none => 0
    | .builtin .cap => 0
    | .builtin .min => 0
    | .builtin .max => 0
    | _ => 3
  | .alloc _ => 2
  | .box _ _ => 2
  | .buildSlice _ _ _ => 2
  | .makeMap _ _ => 2
  | .makeSlice _ _ _ => 2
  | .store _ _ _ => 3
  | .mapUpdate _ _ _ _ => 3
  | .mapEntry _ _ _ => 3
  | .entryStore _ _ _ _ => 3
  | .range _ _ => 2
  | .next _ _ => 3
  | _ => 0

def aop (P : Program) (G : Gam) (o : Oper) (ρ : Tr V) (s : St) : Option (V × St) :=
  match akind P o.op with
  | 0 => match aq P o ρ with
    | some v => some (v, s)
    | none => none
  | 1 => match ar P o ρ s with
    | some v => some (v, s)
    | none => none
  | _ => ae P G o ρ s

def aguard (ops : List Oper) (g : Option (Nat × Bool)) (ρ : Tr V) : Option Bool :=
  match g with
  | none => some true
  | some (j, want) => match dstOf ops j with
    | none => some false
    | some d => match Tr.get (pth d) ρ with
      | some (.bool c) => some (bif want then c else !c)
      | some (.tup []) => some false
      | _ => none

def aops (P : Program) (G : Gam) (ops : List Oper) : List Oper → Tr V → St → Option (Tr V × St)
  | [], ρ, s => some (ρ, s)
  | o :: rest, ρ, s => match aguard ops o.guard ρ with
    | some true => match aop P G o ρ s with
      | some (v, s') => aops P G ops rest (aput ρ o.dst v) s'
      | none => none
    | some false => aops P G ops rest (aput ρ o.dst unit) s
    | none => none

/-- A region that draws its order, in the order of its text; what is looked at is looked at again wherever it may be looked at. -/
def sameR (P : Program) (o : Oper) (ρ : Tr V) (v : V) (s : St) : Bool :=
  match ar P o ρ s with
  | some v' => veq v v'
  | none => false

def pastOk (P : Program) (bf : List Nat) (i : Nat) (o : Oper) (ρ : Tr V) (v : V) : List (Nat × St) → Bool
  | [] => true
  | (m, s) :: l => (bif Bef bf i m then true else sameR P o ρ v s) && pastOk P bf i o ρ v l

def laterOk (P : Program) (bf : List Nat) (m : Nat) (s : St) : List (Nat × Oper × Tr V × V) → Bool
  | [] => true
  | (i, o, ρ, v) :: l => (bif Bef bf m i then true else sameR P o ρ v s) && laterOk P bf m s l

/-- The slots that an operation looks at, alone. -/
def arest (ρ : Tr V) : List Nat → Tr V
  | [] => .e
  | t :: l => match Tr.get (pth t) ρ with
    | some v => Tr.set (some v) (pth t) (arest ρ l)
    | none => arest ρ l

def adr (P : Program) (G : Gam) (ops : List Oper) (bf : List Nat) : List Oper → Nat → Tr V → St → St → List (Nat × St) → List (Nat × Oper × Tr V × V) → Option (Tr V × St)
  | [], _, ρ, _, s, _, _ => some (ρ, s)
  | o :: rest, i, ρ, s0, s, past, seen => match aguard ops o.guard (arest ρ (o.looksAt ops.toArray)) with
    | some true => match akind P o.op with
      | 0 => match aq P o (arest ρ (o.looksAt ops.toArray)) with
        | some v => adr P G ops bf rest (i + 1) (aput ρ o.dst v) s0 s past seen
        | none => none
      | 1 => match ar P o (arest ρ (o.looksAt ops.toArray)) s0 with
        | some v => bif pastOk P bf i o (arest ρ (o.looksAt ops.toArray)) v past then adr P G ops bf rest (i + 1) (aput ρ o.dst v) s0 s past ((i, o, arest ρ (o.looksAt ops.toArray), v) :: seen) else none
        | none => none
      | 2 => match ae P G o (arest ρ (o.looksAt ops.toArray)) s with
        | some (v, s') => adr P G ops bf rest (i + 1) (aput ρ o.dst v) s0 s' past seen
        | none => none
      | _ => match ae P G o (arest ρ (o.looksAt ops.toArray)) s with
        | some (v, s') => bif laterOk P bf i s' seen && Nat.ble s.nx s'.nx then adr P G ops bf rest (i + 1) (aput ρ o.dst v) s' s' ((i, s0) :: past) seen else none
        | none => none
    | some false => adr P G ops bf rest (i + 1) (aput ρ o.dst unit) s0 s past seen
    | none => none

def aiter (f : Tr V → St → Option (Exit × Tr V × St)) : Nat → Tr V → St → Option (Exit × Tr V × St)
  | 0, _, _ => none
  | n + 1, ρ, s => match f ρ s with
    | some (.normal, ρ', s') => aiter f n ρ' s'
    | r => r

def acode (P : Program) (G : Gam) (N : Nat) : Code → Tr V → St → Option (Exit × Tr V × St)
  | .skip, ρ, s => some (.normal, ρ, s)
  | .seq a b, ρ, s => match acode P G N a ρ s with
    | some (.normal, ρ', s') => acode P G N b ρ' s'
    | r => r
  | .cond c a b, ρ, s => match oget ρ c with
    | some (.bool t) => bif t then acode P G N a ρ s else acode P G N b ρ s
    | _ => none
  | .block id a, ρ, s => match acode P G N a ρ s with
    | some (.exit id', ρ', s') => bif Nat.beq id' id then some (.normal, ρ', s') else some (.exit id', ρ', s')
    | r => r
  | .loop a, ρ, s => aiter (acode P G N a) N ρ s
  | .exit id, ρ, s => some (.exit id, ρ, s)
  | .ret, ρ, s => some (.ret, ρ, s)
  | .region _ ops d, ρ, s =>
    match (bif d then adr P G ops.toList (befL ops.toList []) ops.toList 0 ρ s s [] [] else aops P G ops.toList ops.toList ρ s) with
    | some (ρ', s') => some (.normal, ρ', s')
    | none => none
  | _, _, _ => none

def ares (P : Program) (ρ : Tr V) (s : St) : List ResultVar → Option (List V)
  | [] => some []
  | .tmp t :: l => match Tr.get (pth t) ρ with
    | some v => match ares P ρ s l with
      | some r => some (v :: r)
      | none => none
    | none => none
  | .cell a t :: l => match Tr.get (pth a) ρ with
    | some (.ptr (some (b, o))) => match aload P t s b o with
      | some v => match ares P ρ s l with
        | some r => some (v :: r)
        | none => none
      | none => none
    | _ => none

def oneA : List V → V
  | [v] => v
  | l => .tup l

def aenv : List V → Nat → Tr V → Tr V
  | [], _, ρ => ρ
  | v :: l, i, ρ => aenv l (i + 1) (Tr.set (some v) (pth i) ρ)

/-- Which regions that draw their order are served: what has no order is apart; of two that turn memory, and have no order, the later one makes a row. -/
def drOk (P : Program) (ops : List Oper) (bf : List Nat) : Bool :=
  (List.range ops.length).all fun i => (List.range i).all fun j =>
    match ops[i]?, ops[j]? with
    | some oi, some oj => !Bef bf j i && (Bef bf i j || (oi.apart ops.toArray oj && oj.apart ops.toArray oi && (Nat.blt (akind P oi.op) 2 || Nat.blt (akind P oj.op) 2 || Nat.beq (akind P oi.op) 2)))
    | _, _ => true

def okA (P : Program) (n : Nat) : Code → Bool
  | .region _ ops d => (ops.toList.all fun o => match o.dst with | none => true | some d => Nat.blt d n) && (bif d then drOk P ops.toList (befL ops.toList []) else true)
  | .seq a b => okA P n a && okA P n b
  | .cond _ a b => okA P n a && okA P n b
  | .block _ a => okA P n a
  | .loop a => okA P n a
  | _ => true

def acall (P : Program) (I : FuncId → Option (List V → St → Option (V × St))) (N : Nat) : Nat → Gam
  | 0, _, _, _ => none
  | d + 1, f, args, s => match I f with
    | some g => g args s
    | none => match P.funcs[f]? with
      | some fn => match fn.body with
        | some c => bif Nat.ble args.length fn.ntmps && okA P fn.ntmps c then (match acode P (acall P I N d) N c (aenv args 0 .e) s with
          | some (e, ρ, s') => match e with
            | .normal => (match ares P ρ s' fn.results.toList with
              | some l => some (oneA l, s')
              | none => none)
            | .ret => (match ares P ρ s' fn.results.toList with
              | some l => some (oneA l, s')
              | none => none)
            | _ => none
          | none => none) else none
        | none => none
      | none => none

end Cv
