/- PRINTED BY A PROGRAM OF OURS: the conditions of walks. -/
import Derived.Test.YtlgpgmafmgmfdaaSyW2
set_option linter.unusedVariables false
set_option maxRecDepth 100000
namespace Sx
open Go Cv Go.Proofs
def Vbyte (i : WN) : Prop :=
  ∃ (i_1 : PutI), i_1.n = IntKind.u64.wrap i.n ∧ (↑i_1.k : Int) = (1 : Int) ∧ AObj.adt (List UInt8) (2 : Nat) WrU i_1.l = Wr i.l ∧ ((0 : Int) ≤ i_1.n ∧ i_1.n < (18446744073709551616 : Int) ∧ i_1.l.length + i_1.k ≤ (1099511627776 : Nat)) ∧ ∀ (o : Unit), True → ∃ (o : Unit), AObj.adt (List UInt8) (2 : Nat) WrU (i.l ++ [lob i.n]) = AObj.adt (List UInt8) (2 : Nat) WrU (i_1.l ++ le i_1.n i_1.k) ∧ True
theorem eqbyte (i : WN) : Vbyte i = walk Try.prog ([(95, putC)]) 0 ([]) ([]) [] Try.f46 (Try.f46.body.getD .skip) (byteC.pat i) (byteC.pre i) (byteC.alts i) := by kernel_rfl

theorem bybyte (hG : GOk Try.prog ([(95, putC)])) (h : ∀ (i : WN), byteC.cnd i → Vbyte i) : byteC.ok Try.prog 46 := ok_of_walk mixed ([(95, putC)]) hG 0 (fun (i : WN) => []) (fun (i : WN) => []) [] Try.func46 (by kernel_rfl) (by kernel_rfl) (by kernel_rfl) (fun _ => by kernel_rfl) (fun (i : WN) hc => Eq.mp (eqbyte i) (h i hc))

def Vlong (i : WN) : Prop :=
  ∃ (i_1 : PutI), i_1.n = IntKind.u64.wrap i.n ∧ (↑i_1.k : Int) = (8 : Int) ∧ AObj.adt (List UInt8) (2 : Nat) WrU i_1.l = Wr i.l ∧ ((0 : Int) ≤ i_1.n ∧ i_1.n < (18446744073709551616 : Int) ∧ i_1.l.length + i_1.k ≤ (1099511627776 : Nat)) ∧ ∀ (o : Unit), True → ∃ (o : Unit), AObj.adt (List UInt8) (2 : Nat) WrU (i.l ++ le i.n (8 : Nat)) = AObj.adt (List UInt8) (2 : Nat) WrU (i_1.l ++ le i_1.n i_1.k) ∧ True
theorem eqlong (i : WN) : Vlong i = walk Try.prog ([(95, putC)]) 0 ([]) ([]) [] Try.f45 (Try.f45.body.getD .skip) (longC.pat i) (longC.pre i) (longC.alts i) := by kernel_rfl

theorem bylong (hG : GOk Try.prog ([(95, putC)])) (h : ∀ (i : WN), longC.cnd i → Vlong i) : longC.ok Try.prog 45 := ok_of_walk mixed ([(95, putC)]) hG 0 (fun (i : WN) => []) (fun (i : WN) => []) [] Try.func45 (by kernel_rfl) (by kernel_rfl) (by kernel_rfl) (fun _ => by kernel_rfl) (fun (i : WN) hc => Eq.mp (eqlong i) (h i hc))

def Vsum (i : WN) : Prop :=
  ∃ (i_1 : PutI), i_1.n = IntKind.u64.wrap i.n ∧ (↑i_1.k : Int) = (4 : Int) ∧ AObj.adt (List UInt8) (2 : Nat) WrU i_1.l = Wr i.l ∧ ((0 : Int) ≤ i_1.n ∧ i_1.n < (18446744073709551616 : Int) ∧ i_1.l.length + i_1.k ≤ (1099511627776 : Nat)) ∧ ∀ (o : Unit), True → ∃ (o : Unit), AObj.adt (List UInt8) (2 : Nat) WrU (i.l ++ le i.n (4 : Nat)) = AObj.adt (List UInt8) (2 : Nat) WrU (i_1.l ++ le i_1.n i_1.k) ∧ True
theorem eqsum (i : WN) : Vsum i = walk Try.prog ([(95, putC)]) 0 ([]) ([]) [] Try.f48 (Try.f48.body.getD .skip) (sumC.pat i) (sumC.pre i) (sumC.alts i) := by kernel_rfl

theorem bysum (hG : GOk Try.prog ([(95, putC)])) (h : ∀ (i : WN), sumC.cnd i → Vsum i) : sumC.ok Try.prog 48 := ok_of_walk mixed ([(95, putC)]) hG 0 (fun (i : WN) => []) (fun (i : WN) => []) [] Try.func48 (by kernel_rfl) (by kernel_rfl) (by kernel_rfl) (fun _ => by kernel_rfl) (fun (i : WN) hc => Eq.mp (eqsum i) (h i hc))

def VcloneBO (i : List (List D)) : Prop :=
  ∀ (b : Bool), (b = true → i = []) → cnd b (∃ (o : Unit), i = i ∧ i = [] ∧ True) (((0 : Nat) + i.length) * (1 : Nat) ≤ (70368744177664 : Nat) ∧ ∃ (o : Unit), i = i ∧ i = [] ++ i ∧ True)
theorem eqcloneBO (i : List (List D)) : VcloneBO i = walk Try.prog ([]) 0 ([]) ([]) [] Try.f96 (Try.f96.body.getD .skip) (cloneBO.pat i) (cloneBO.pre i) (cloneBO.alts i) := by kernel_rfl

theorem bycloneBO (hG : GOk Try.prog ([])) (h : ∀ (i : List (List D)), cloneBO.cnd i → VcloneBO i) : cloneBO.ok Try.prog 96 := ok_of_walk mixed ([]) hG 0 (fun (i : List (List D)) => []) (fun (i : List (List D)) => []) [] Try.func96 (by kernel_rfl) (by kernel_rfl) (by kernel_rfl) (fun _ => by kernel_rfl) (fun (i : List (List D)) hc => Eq.mp (eqcloneBO i) (h i hc))

def VcloneBR (i : List (List D)) : Prop :=
  ∀ (b : Bool), (b = true → i = []) → cnd b (∃ (o : Unit), i = [] ∧ True) (((0 : Nat) + i.length) * (1 : Nat) ≤ (70368744177664 : Nat) ∧ ∃ (o : Unit), i = [] ++ i ∧ True)
theorem eqcloneBR (i : List (List D)) : VcloneBR i = walk Try.prog ([]) 0 ([]) ([]) [] Try.f96 (Try.f96.body.getD .skip) (cloneBR.pat i) (cloneBR.pre i) (cloneBR.alts i) := by kernel_rfl

theorem bycloneBR (hG : GOk Try.prog ([])) (h : ∀ (i : List (List D)), cloneBR.cnd i → VcloneBR i) : cloneBR.ok Try.prog 96 := ok_of_walk mixed ([]) hG 0 (fun (i : List (List D)) => []) (fun (i : List (List D)) => []) [] Try.func96 (by kernel_rfl) (by kernel_rfl) (by kernel_rfl) (fun _ => by kernel_rfl) (fun (i : List (List D)) hc => Eq.mp (eqcloneBR i) (h i hc))

def VnewW (i : Unit) : Prop :=
  ∃ (o : Unit), bE [] = [] ∧ True
theorem eqnewW (i : Unit) : VnewW i = walk Try.prog ([]) 0 ([]) ([]) [] Try.f44 (Try.f44.body.getD .skip) (newWC.pat i) (newWC.pre i) (newWC.alts i) := by kernel_rfl

theorem bynewW (hG : GOk Try.prog ([])) (h : ∀ (i : Unit), newWC.cnd i → VnewW i) : newWC.ok Try.prog 44 := ok_of_walk mixed ([]) hG 0 (fun (i : Unit) => []) (fun (i : Unit) => []) [] Try.func44 (by kernel_rfl) (by kernel_rfl) (by kernel_rfl) (fun _ => by kernel_rfl) (fun (i : Unit) hc => Eq.mp (eqnewW i) (h i hc))

def Vdone (i : List UInt8) : Prop :=
  ∃ (i_1 : List (List D)), i_1 = bE i ∧ i_1.length * (1 : Nat) ≤ (70368744177664 : Nat) ∧ ∀ (o : Unit), True → ∃ (o : Unit), bE i = i_1 ∧ bE i = i_1 ∧ True
theorem eqdone (i : List UInt8) : Vdone i = walk Try.prog ([(96, cloneBO)]) 0 ([]) ([]) [0] Try.f50 (Try.f50.body.getD .skip) (doneC.pat i) (doneC.pre i) (doneC.alts i) := by kernel_rfl

theorem bydone (hG : GOk Try.prog ([(96, cloneBO)])) (h : ∀ (i : List UInt8), doneC.cnd i → Vdone i) : doneC.ok Try.prog 50 := ok_of_walk mixed ([(96, cloneBO)]) hG 0 (fun (i : List UInt8) => []) (fun (i : List UInt8) => []) [0] Try.func50 (by kernel_rfl) (by kernel_rfl) (by kernel_rfl) (fun _ => by kernel_rfl) (fun (i : List UInt8) hc => Eq.mp (eqdone i) (h i hc))

def Vcrc (i : List UInt8) : Prop :=
  ∃ (i0 : Nat), crcS (List.take i0 i) = (4294967295 : Int) ∧ (↑i0 : Int) = (0 : Int) ∧ ∃ (I : Nat → Prop), ∃ (μ : Nat → Nat), I i0 ∧ ∀ (i_1 : Nat), I i_1 → cnd (decide ((↑i_1 : Int) < (↑(bE i).length : Int))) (((0 : Int) ≤ (↑i_1 : Int) ∧ (↑i_1 : Int) < (↑(bE i).length : Int)) ∧ ∃ (n : Int), elPart (bE i) (↑i_1 : Int).toNat (0 : Nat) (1 : Nat) = some [D.v (Value.int IntKind.u8 n)] ∧ ∃ (i0 : Int × Nat), crcBits i0.snd i0.fst = iXor IntKind.u32 (crcS (List.take i_1 i)) (IntKind.u32.wrap n) ∧ (↑i0.snd : Int) = (0 : Int) ∧ ∃ (I_1 : Int × Nat → Prop), ∃ (μ_1 : Int × Nat → Nat), I_1 i0 ∧ ∀ (i_2 : Int × Nat), I_1 i_2 → cnd (decide ((↑i_2.snd : Int) < (8 : Int))) ((0 : Int) ≤ (1 : Int) ∧ cnd (decide (iAnd IntKind.u32 (crcBits i_2.snd i_2.fst) (1 : Int) > (0 : Int))) (∃ (i' : Int × Nat), crcBits i'.snd i'.fst = iXor IntKind.u32 (iShr IntKind.u32 (crcBits i_2.snd i_2.fst) (1 : Int)) (3988292384 : Int) ∧ (↑i'.snd : Int) = IntKind.i64.wrap ((↑i_2.snd : Int) + (1 : Int)) ∧ I_1 i' ∧ μ_1 i' < μ_1 i_2 ∧ True) (∃ (i' : Int × Nat), crcBits i'.snd i'.fst = iShr IntKind.u32 (crcBits i_2.snd i_2.fst) (1 : Int) ∧ (↑i'.snd : Int) = IntKind.i64.wrap ((↑i_2.snd : Int) + (1 : Int)) ∧ I_1 i' ∧ μ_1 i' < μ_1 i_2 ∧ True)) (∃ (i' : Nat), crcS (List.take i' i) = crcBits i_2.snd i_2.fst ∧ (↑i' : Int) = IntKind.i64.wrap ((↑i_1 : Int) + (1 : Int)) ∧ I i' ∧ μ i' < μ i_1 ∧ True)) (∃ (o : Unit), crcOf i = IntKind.u32.wrap (↑(BitVec.ofInt IntKind.u32.bits (if IntKind.u32.signed = true then (-1 : Int) else IntKind.u32.max) ^^^ BitVec.ofInt IntKind.u32.bits (crcS (List.take i_1 i))).toNat : Int) ∧ True)
theorem eqcrc (i : List UInt8) : Vcrc i = walk Try.prog ([]) 0 ([]) (crcA i) [] Try.f49 (Try.f49.body.getD .skip) (crcC.pat i) (crcC.pre i) (crcC.alts i) := by kernel_rfl

theorem bycrc (hG : GOk Try.prog ([])) (h : ∀ (i : List UInt8), crcC.cnd i → Vcrc i) : crcC.ok Try.prog 49 := ok_of_walk mixed ([]) hG 0 (fun (i : List UInt8) => []) (fun (i : List UInt8) => crcA i) [] Try.func49 (by kernel_rfl) (by kernel_rfl) (by kernel_rfl) (fun _ => by kernel_rfl) (fun (i : List UInt8) hc => Eq.mp (eqcrc i) (h i hc))

def VnewR (i : List UInt8) : Prop :=
  ∃ (i_1 : List (List D)), i_1 = bE i ∧ i_1.length * (1 : Nat) ≤ (70368744177664 : Nat) ∧ ∀ (o : Unit), True → ∃ (o : Unit), bE i = i_1 ∧ false = false ∧ True
theorem eqnewR (i : List UInt8) : VnewR i = walk Try.prog ([(96, cloneBR)]) 0 ([]) ([]) [] Try.f98 (Try.f98.body.getD .skip) (newRC.pat i) (newRC.pre i) (newRC.alts i) := by kernel_rfl

theorem bynewR (hG : GOk Try.prog ([(96, cloneBR)])) (h : ∀ (i : List UInt8), newRC.cnd i → VnewR i) : newRC.ok Try.prog 98 := ok_of_walk mixed ([(96, cloneBR)]) hG 0 (fun (i : List UInt8) => []) (fun (i : List UInt8) => []) [] Try.func98 (by kernel_rfl) (by kernel_rfl) (by kernel_rfl) (fun _ => by kernel_rfl) (fun (i : List UInt8) hc => Eq.mp (eqnewR i) (h i hc))

def Vtake (i : RN) : Prop :=
  cnd i.b (∃ (o : Unit), bE i.got = [] ∧ bE i.left = bE i.l ∧ i.bad = true ∧ True) (cnd (decide ((↑i.n : Int) > (↑(bE i.l).length : Int))) (∃ (o : Unit), bE i.got = [] ∧ bE i.left = bE i.l ∧ i.bad = decide ((↑i.n : Int) > (↑(bE i.l).length : Int)) ∧ True) (((0 : Int) ≤ (↑i.n : Int) ∧ (↑i.n : Int) ≤ (↑(bE i.l).length : Int)) ∧ ((0 : Int) ≤ (↑i.n : Int) ∧ (↑i.n : Int) ≤ (↑(bE i.l).length : Int)) ∧ ∃ (o : Unit), bE i.got = List.take (↑i.n : Int).toNat (bE i.l) ∧ bE i.left = List.drop (↑i.n : Int).toNat (bE i.l) ∧ i.bad = decide ((↑i.n : Int) > (↑(bE i.l).length : Int)) ∧ True))
theorem eqtake (i : RN) : Vtake i = walk Try.prog ([]) 0 ([]) ([]) [0] Try.f157 (Try.f157.body.getD .skip) (takeC.pat i) (takeC.pre i) (takeC.alts i) := by kernel_rfl

theorem bytake (hG : GOk Try.prog ([])) (h : ∀ (i : RN), takeC.cnd i → Vtake i) : takeC.ok Try.prog 157 := ok_of_walk mixed ([]) hG 0 (fun (i : RN) => []) (fun (i : RN) => []) [0] Try.func157 (by kernel_rfl) (by kernel_rfl) (by kernel_rfl) (fun _ => by kernel_rfl) (fun (i : RN) hc => Eq.mp (eqtake i) (h i hc))

def Vget (i : RN) : Prop :=
  ∃ (i_1 : RN), (↑i_1.n : Int) = (↑i.n : Int) ∧ AObj.adt (List UInt8 × Bool) (1 : Nat) RdU (i_1.l, i_1.b) = Rd i.l i.b ∧ (i_1.n ≤ (255 : Nat) ∧ i_1.l.length ≤ (1099511627776 : Nat)) ∧ ∀ (o : Unit), True → ∃ (i0 : Nat), ofLe (List.take i0 i.got) = (0 : Int) ∧ (↑i0 : Int) = (0 : Int) ∧ ∃ (I : Nat → Prop), ∃ (μ : Nat → Nat), I i0 ∧ ∀ (i_2 : Nat), I i_2 → cnd (decide ((↑i_2 : Int) < (↑(bE i_1.got).length : Int))) (((0 : Int) ≤ (↑i_2 : Int) ∧ (↑i_2 : Int) < (↑(bE i_1.got).length : Int)) ∧ ∃ (n : Int), elPart (bE i_1.got) (↑i_2 : Int).toNat (0 : Nat) (1 : Nat) = some [D.v (Value.int IntKind.u8 n)] ∧ (0 : Int) ≤ IntKind.i64.wrap ((8 : Int) * (↑i_2 : Int)) ∧ ∃ (i' : Nat), ofLe (List.take i' i.got) = iOr IntKind.u64 (ofLe (List.take i_2 i.got)) (iShl IntKind.u64 (IntKind.u64.wrap n) (IntKind.i64.wrap ((8 : Int) * (↑i_2 : Int)))) ∧ (↑i' : Int) = IntKind.i64.wrap ((↑i_2 : Int) + (1 : Int)) ∧ I i' ∧ μ i' < μ i_2 ∧ AObj.adt (List UInt8 × Bool) (1 : Nat) RdU (i_1.left, i_1.bad) = AObj.adt (List UInt8 × Bool) (1 : Nat) RdU (i_1.left, i_1.bad)) (∃ (o : Unit), ofLe i.got = ofLe (List.take i_2 i.got) ∧ AObj.adt (List UInt8 × Bool) (1 : Nat) RdU (i.left, i.bad) = AObj.adt (List UInt8 × Bool) (1 : Nat) RdU (i_1.left, i_1.bad) ∧ True)
theorem eqget (i : RN) : Vget i = walk Try.prog ([(157, takeC)]) 0 ([]) (getA i) [] Try.f131 (Try.f131.body.getD .skip) (getC.pat i) (getC.pre i) (getC.alts i) := by kernel_rfl

theorem byget (hG : GOk Try.prog ([(157, takeC)])) (h : ∀ (i : RN), getC.cnd i → Vget i) : getC.ok Try.prog 131 := ok_of_walk mixed ([(157, takeC)]) hG 0 (fun (i : RN) => []) (fun (i : RN) => getA i) [] Try.func131 (by kernel_rfl) (by kernel_rfl) (by kernel_rfl) (fun _ => by kernel_rfl) (fun (i : RN) hc => Eq.mp (eqget i) (h i hc))

def Vrbyte (i : RB) : Prop :=
  ∃ (i_1 : RN), (↑i_1.n : Int) = (1 : Int) ∧ AObj.adt (List UInt8 × Bool) (1 : Nat) RdU (i_1.l, i_1.b) = Rd i.l i.b ∧ (i_1.n ≤ (8 : Nat) ∧ i_1.l.length ≤ (1099511627776 : Nat)) ∧ ∀ (o : Unit), True → ∃ (o : Unit), ofLe (i.n (1 : Nat)).got = IntKind.i64.wrap (ofLe i_1.got) ∧ AObj.adt (List UInt8 × Bool) (1 : Nat) RdU ((i.n (1 : Nat)).left, (i.n (1 : Nat)).bad) = AObj.adt (List UInt8 × Bool) (1 : Nat) RdU (i_1.left, i_1.bad) ∧ True
theorem eqrbyte (i : RB) : Vrbyte i = walk Try.prog ([(131, getC)]) 0 ([]) ([]) [] Try.f100 (Try.f100.body.getD .skip) (rbyteC.pat i) (rbyteC.pre i) (rbyteC.alts i) := by kernel_rfl

theorem byrbyte (hG : GOk Try.prog ([(131, getC)])) (h : ∀ (i : RB), rbyteC.cnd i → Vrbyte i) : rbyteC.ok Try.prog 100 := ok_of_walk mixed ([(131, getC)]) hG 0 (fun (i : RB) => []) (fun (i : RB) => []) [] Try.func100 (by kernel_rfl) (by kernel_rfl) (by kernel_rfl) (fun _ => by kernel_rfl) (fun (i : RB) hc => Eq.mp (eqrbyte i) (h i hc))

def Vrlong (i : RB) : Prop :=
  ∃ (i_1 : RN), (↑i_1.n : Int) = (8 : Int) ∧ AObj.adt (List UInt8 × Bool) (1 : Nat) RdU (i_1.l, i_1.b) = Rd i.l i.b ∧ (i_1.n ≤ (8 : Nat) ∧ i_1.l.length ≤ (1099511627776 : Nat)) ∧ ∀ (o : Unit), True → ∃ (o : Unit), IntKind.i64.wrap (ofLe (i.n (8 : Nat)).got) = IntKind.i64.wrap (ofLe i_1.got) ∧ AObj.adt (List UInt8 × Bool) (1 : Nat) RdU ((i.n (8 : Nat)).left, (i.n (8 : Nat)).bad) = AObj.adt (List UInt8 × Bool) (1 : Nat) RdU (i_1.left, i_1.bad) ∧ True
theorem eqrlong (i : RB) : Vrlong i = walk Try.prog ([(131, getC)]) 0 ([]) ([]) [] Try.f99 (Try.f99.body.getD .skip) (rlongC.pat i) (rlongC.pre i) (rlongC.alts i) := by kernel_rfl

theorem byrlong (hG : GOk Try.prog ([(131, getC)])) (h : ∀ (i : RB), rlongC.cnd i → Vrlong i) : rlongC.ok Try.prog 99 := ok_of_walk mixed ([(131, getC)]) hG 0 (fun (i : RB) => []) (fun (i : RB) => []) [] Try.func99 (by kernel_rfl) (by kernel_rfl) (by kernel_rfl) (fun _ => by kernel_rfl) (fun (i : RB) hc => Eq.mp (eqrlong i) (h i hc))

def Vrend (i : RB) : Prop :=
  cnd i.b (∃ (o : Unit), (if i.b = true then (10 : Int) else if (0 : Nat) < i.l.length then (15 : Int) else (0 : Int)) = (10 : Int) ∧ bE i.l = bE i.l ∧ i.b = i.b ∧ True) (cnd (decide ((↑(bE i.l).length : Int) > (0 : Int))) (∃ (o : Unit), (if i.b = true then (10 : Int) else if (0 : Nat) < i.l.length then (15 : Int) else (0 : Int)) = (15 : Int) ∧ bE i.l = bE i.l ∧ i.b = i.b ∧ True) (∃ (o : Unit), (if i.b = true then (10 : Int) else if (0 : Nat) < i.l.length then (15 : Int) else (0 : Int)) = (0 : Int) ∧ bE i.l = bE i.l ∧ i.b = i.b ∧ True))
theorem eqrend (i : RB) : Vrend i = walk Try.prog ([]) 0 ([]) ([]) [0] Try.f102 (Try.f102.body.getD .skip) (rendC.pat i) (rendC.pre i) (rendC.alts i) := by kernel_rfl

theorem byrend (hG : GOk Try.prog ([])) (h : ∀ (i : RB), rendC.cnd i → Vrend i) : rendC.ok Try.prog 102 := ok_of_walk mixed ([]) hG 0 (fun (i : RB) => []) (fun (i : RB) => []) [0] Try.func102 (by kernel_rfl) (by kernel_rfl) (by kernel_rfl) (fun _ => by kernel_rfl) (fun (i : RB) hc => Eq.mp (eqrend i) (h i hc))

end Sx
