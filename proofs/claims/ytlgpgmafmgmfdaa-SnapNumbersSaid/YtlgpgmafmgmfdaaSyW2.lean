/- wire: contracts. No condition. -/
import Derived.Test.YtlgpgmafmgmfdaaSyP1
set_option linter.unusedVariables false
namespace Sx
open Go Cv Go.Proofs

@[reducible] def tW : Nat := 189
@[reducible] def tU8 : Nat := 5

structure WN where
  l : List UInt8
  n : Int
@[reducible] def WN.ok (i : WN) : Prop := i.l.length + 8 ≤ 1099511627776

def byteC : Con := con1 WN (fun i => [.nm 0 0, i64V i.n]) (fun i => [Wr i.l]) WN.ok (fun _ => unitV) (fun i => [Wr (i.l ++ [lob i.n])])
def longC : Con := con1 WN (fun i => [.nm 0 0, i64V i.n]) (fun i => [Wr i.l]) WN.ok (fun _ => unitV) (fun i => [Wr (i.l ++ le i.n 8)])
def sumC : Con := con1 WN (fun i => [.nm 0 0, u32V i.n]) (fun i => [Wr i.l]) (fun i => i.l.length + 8 ≤ 1099511627776 ∧ 0 ≤ i.n ∧ i.n < 4294967296) (fun _ => unitV) (fun i => [Wr (i.l ++ le i.n 4)])

/-- slices.Clone, of a slice of one's own, and of one that is looked at. -/
@[reducible] def cloneO (t sz by_ : Nat) : Con := con1 (List (List D)) (fun _ => [.own 0]) (fun l => [.own t sz l]) (fun l => l.length * by_ ≤ 70368744177664) (fun _ => .own 1) (fun l => [.own t sz l, .own t sz l])
@[reducible] def cloneR (sz by_ : Nat) : Con := con1 (List (List D)) (fun l => [roV sz l]) (fun _ => []) (fun l => l.length * by_ ≤ 70368744177664) (fun l => roV sz l) (fun _ => [])
def cloneBO : Con := cloneO tU8 1 1
def cloneBR : Con := cloneR 1 1

def newWC : Con := con1 Unit (fun _ => []) (fun _ => []) (fun _ => True) (fun _ => .nm 0 0) (fun _ => [Wr []])
def doneC : Con := con1 (List UInt8) (fun _ => [.nm 0 0]) (fun l => [Wr l]) (fun l => l.length ≤ 1099511627776) (fun _ => .own 1) (fun l => [Wr l, .own tU8 1 (bE l)])

/-- The CRC's steps, as the program has them. -/
def crcBit (c : Int) : Int := if 0 < iAnd .u32 c 1 then iXor .u32 (iShr .u32 c 1) 3988292384 else iShr .u32 c 1
def crcBits : Nat → Int → Int
  | 0, c => c
  | k + 1, c => crcBit (crcBits k c)
def crcS (l : List UInt8) : Int := l.foldl (fun c b => crcBits 8 (iXor .u32 c b.toNat)) 4294967295
def crcOf (l : List UInt8) : Int := iXor .u32 4294967295 (crcS l)

def crcC : Con := con1 (List UInt8) (fun l => [roV 1 (bE l)]) (fun _ => []) (fun l => l.length ≤ 1099511627776) (fun l => u32V (crcOf l)) (fun _ => [])
def crcA (l : List UInt8) : List SAnn := [
  { ι := Nat, slots := fun i => [(3, u32V (crcS (l.take i))), (9, i64V i)], rows := fun _ => [] },
  { ι := Int × Nat, slots := fun i => [(3, u32V (crcBits i.2 i.1)), (17, i64V i.2)], rows := fun _ => [] }]

/-- wire.Reader: what is left, and whether it was refused. -/
def RdU (x : List UInt8 × Bool) : Nat → AObj
  | 0 => .cells [roV 1 (bE x.1), boolV x.2] 240
  | _ => .gone
def Rd (l : List UInt8) (b : Bool) : AObj := .adt (List UInt8 × Bool) 1 RdU (l, b)

def newRC : Con := con1 (List UInt8) (fun l => [roV 1 (bE l)]) (fun _ => []) (fun l => l.length ≤ 1099511627776) (fun _ => .nm 0 0) (fun l => [Rd l false])

structure RN where
  l : List UInt8
  b : Bool
  n : Nat
def RN.bad (i : RN) : Bool := i.b || decide (i.l.length < i.n)
def RN.got (i : RN) : List UInt8 := if i.bad then [] else i.l.take i.n
def RN.left (i : RN) : List UInt8 := if i.bad then i.l else i.l.drop i.n
@[reducible] def RN.ok (i : RN) : Prop := i.n ≤ 255 ∧ i.l.length ≤ 1099511627776
def takeC : Con := con1 RN (fun i => [.nm 0 0, i64V i.n]) (fun i => [Rd i.l i.b]) RN.ok (fun i => roV 1 (bE i.got)) (fun i => [Rd i.left i.bad])

/-- A number of bytes, the lowest first. -/
def ofLe : List UInt8 → Int
  | [] => 0
  | b :: l => b.toNat + 256 * ofLe l
def getC : Con := con1 RN (fun i => [.nm 0 0, i64V i.n]) (fun i => [Rd i.l i.b]) (fun i => i.n ≤ 8 ∧ i.l.length ≤ 1099511627776) (fun i => u64V (ofLe i.got)) (fun i => [Rd i.left i.bad])
def getA (i : RN) : List SAnn := [{ ι := Nat, slots := fun j => [(5, u64V (ofLe (i.got.take j))), (12, i64V j)], rows := fun _ => [] }]

structure RB where
  l : List UInt8
  b : Bool
def RB.n (i : RB) (k : Nat) : RN := ⟨i.l, i.b, k⟩
def rbyteC : Con := con1 RB (fun i => [.nm 0 0]) (fun i => [Rd i.l i.b]) (fun i => i.l.length ≤ 1099511627776) (fun i => i64V (ofLe (i.n 1).got)) (fun i => [Rd (i.n 1).left (i.n 1).bad])
def rlongC : Con := con1 RB (fun i => [.nm 0 0]) (fun i => [Rd i.l i.b]) (fun i => i.l.length ≤ 1099511627776) (fun i => i64V (IntKind.i64.wrap (ofLe (i.n 8).got))) (fun i => [Rd (i.n 8).left (i.n 8).bad])
def rendC : Con := con1 RB (fun i => [.nm 0 0]) (fun i => [Rd i.l i.b]) (fun i => i.l.length ≤ 1099511627776) (fun i => i64V (if i.b then 10 else if 0 < i.l.length then 15 else 0)) (fun i => [Rd i.l i.b])

end Sx
