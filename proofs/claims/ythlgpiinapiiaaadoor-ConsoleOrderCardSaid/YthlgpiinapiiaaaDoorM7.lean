/- Texts of ours, one behind the other: a walk that the kernel reckons, and contracts of functions. No condition. -/
import Derived.Test.YthlgpiinapiiaaaDoorM6

namespace Sx
set_option linter.unusedVariables false
set_option maxRecDepth 100000
open Go Cv Go.Proofs
def Vr3prod (s : List UInt8) : Prop :=
  ∃ (i0 : Nat × Nat), (↑i0.snd : Int) = (0 : Int) ∧ sb s = sb s ∧ i0.fst = (0 : Nat) ∧ ∃ (I : Nat × Nat → Prop), ∃ (μ : Nat × Nat → Nat), I i0 ∧ ∀ (i : Nat × Nat), I i → cnd (i.fst.blt (sb s).size) (∃ (i0 : Bool), ∃ (I_1 : Bool → Prop), cnd (decide ((↑(Utf8.decode (sb s) i.fst).fst : Int) ≥ (65 : Int))) (cnd (decide ((↑(Utf8.decode (sb s) i.fst).fst : Int) ≤ (90 : Int))) (∃ (i' : Bool), i' = !true ∧ I_1 i' ∧ Sx.AObj.iter (sb s) (i.fst + (Utf8.decode (sb s) i.fst).snd) = Sx.AObj.iter (sb s) (i.fst + (Utf8.decode (sb s) i.fst).snd)) (cnd (decide ((↑(Utf8.decode (sb s) i.fst).fst : Int) ≥ (913 : Int))) (cnd (decide ((↑(Utf8.decode (sb s) i.fst).fst : Int) ≤ (937 : Int))) (∃ (i' : Bool), i' = !(↑(Utf8.decode (sb s) i.fst).fst : Int) != (930 : Int) ∧ I_1 i' ∧ Sx.AObj.iter (sb s) (i.fst + (Utf8.decode (sb s) i.fst).snd) = Sx.AObj.iter (sb s) (i.fst + (Utf8.decode (sb s) i.fst).snd)) (∃ (i' : Bool), i' = !false ∧ I_1 i' ∧ Sx.AObj.iter (sb s) (i.fst + (Utf8.decode (sb s) i.fst).snd) = Sx.AObj.iter (sb s) (i.fst + (Utf8.decode (sb s) i.fst).snd))) (∃ (i' : Bool), i' = !false ∧ I_1 i' ∧ Sx.AObj.iter (sb s) (i.fst + (Utf8.decode (sb s) i.fst).snd) = Sx.AObj.iter (sb s) (i.fst + (Utf8.decode (sb s) i.fst).snd)))) (cnd (decide ((↑(Utf8.decode (sb s) i.fst).fst : Int) ≥ (913 : Int))) (cnd (decide ((↑(Utf8.decode (sb s) i.fst).fst : Int) ≤ (937 : Int))) (∃ (i' : Bool), i' = !(↑(Utf8.decode (sb s) i.fst).fst : Int) != (930 : Int) ∧ I_1 i' ∧ Sx.AObj.iter (sb s) (i.fst + (Utf8.decode (sb s) i.fst).snd) = Sx.AObj.iter (sb s) (i.fst + (Utf8.decode (sb s) i.fst).snd)) (∃ (i' : Bool), i' = !false ∧ I_1 i' ∧ Sx.AObj.iter (sb s) (i.fst + (Utf8.decode (sb s) i.fst).snd) = Sx.AObj.iter (sb s) (i.fst + (Utf8.decode (sb s) i.fst).snd))) (∃ (i' : Bool), i' = !false ∧ I_1 i' ∧ Sx.AObj.iter (sb s) (i.fst + (Utf8.decode (sb s) i.fst).snd) = Sx.AObj.iter (sb s) (i.fst + (Utf8.decode (sb s) i.fst).snd))) ∧ ∀ (i_1 : Bool), I_1 i_1 → cnd i_1 (∃ (o : Unit), symOk s = false ∧ True) (∃ (i' : Nat × Nat), (↑i'.snd : Int) = IntKind.i64.wrap ((↑i.snd : Int) + (1 : Int)) ∧ sb s = sb s ∧ i'.fst = i.fst + (Utf8.decode (sb s) i.fst).snd ∧ I i' ∧ μ i' < μ i ∧ True)) (cnd (decide ((↑i.snd : Int) ≥ (1 : Int))) (∃ (o : Unit), symOk s = decide ((↑i.snd : Int) ≤ (4 : Int)) ∧ True) (∃ (o : Unit), symOk s = false ∧ True))
theorem eqr3prod (s : List UInt8) : Vr3prod s = walk Tryd.prog ([]) 0 (r3prodJ) (r3prodA s) [] Tryd.f51 (Tryd.f51.body.getD .skip) (r3prodC.pat s) (r3prodC.pre s) (r3prodC.alts s) := by kernel_rfl

theorem byr3prod (hG : GOk Tryd.prog ([])) (h : ∀ (s : List UInt8), r3prodC.cnd s → Vr3prod s) : r3prodC.ok Tryd.prog 51 := ok_of_walk mixed ([]) hG 0 (fun (s : List UInt8) => r3prodJ) (fun (s : List UInt8) => r3prodA s) [] Tryd.func51 (by kernel_rfl) (by kernel_rfl) (by kernel_rfl) (fun _ => by kernel_rfl) (fun (s : List UInt8) hc => Eq.mp (eqr3prod s) (h s hc))

@[reducible] def Vr5checkr0 (p : Prd) : AObj := Sx.AObj.cells [V.d (D.v (Value.string (sb p.code))), V.own (0 : Nat), V.d (D.v (.int .i64 p.tick)), V.d (D.v (.int .i64 p.low)), V.d (D.v (.int .i64 p.high)), V.d (D.v (.int .i64 p.wide)), V.d (D.v (.int .i64 p.rule)), V.d (D.v (.int .i64 p.top)), V.d (D.v (.int .i64 p.least)), V.d (D.v (.int .i64 p.part)), V.own ((0 : Nat) + (1 : Nat))] (37 : Nat)
def Vr5check (p : Prd) : Prop :=
  ∃ (i : List UInt8), sb i = sb p.code ∧ i.length ≤ (1099511627776 : Nat) ∧ ∀ (o : Unit), True → cnd (!symOk i) (∃ (o : Unit), p.check = (12 : Int) ∧ True) (∃ (i0 : Bool), ∃ (I : Bool → Prop), cnd (decide ((↑(iE p.months).length : Int) < (2 : Int))) (∃ (i' : Bool), i' = true ∧ I i' ∧ Vr5checkr0 p = Vr5checkr0 p ∧ AObj.fro (1 : Nat) (iE p.settle) = AObj.fro (1 : Nat) (iE p.settle) ∧ AObj.fro (1 : Nat) (iE p.months) = AObj.fro (1 : Nat) (iE p.months)) (∃ (i' : Bool), i' = decide ((↑(iE p.months).length : Int) > (6 : Int)) ∧ I i' ∧ Vr5checkr0 p = Vr5checkr0 p ∧ AObj.fro (1 : Nat) (iE p.settle) = AObj.fro (1 : Nat) (iE p.settle) ∧ AObj.fro (1 : Nat) (iE p.months) = AObj.fro (1 : Nat) (iE p.months)) ∧ ∀ (i : Bool), I i → cnd i (∃ (o : Unit), p.check = (1 : Int) ∧ True) (∃ (i0 : Nat), (↑i0 : Int) = (0 : Int) ∧ ∃ (I : Nat → Prop), ∃ (μ : Nat → Nat), I i0 ∧ ∀ (i : Nat), I i → cnd (decide ((↑i : Int) < (↑(iE p.months).length : Int))) (∃ (i0 : Bool), ∃ (I_1 : Bool → Prop), (((0 : Int) ≤ (↑i : Int) ∧ (↑i : Int) < (↑(iE p.months).length : Int)) ∧ ∃ (n : Int), elPart (iE p.months) (↑i : Int).toNat (0 : Nat) (1 : Nat) = some [D.v (.int .i64 n)] ∧ cnd (decide (n < (0 : Int))) (∃ (i' : Bool), i' = true ∧ I_1 i' ∧ Vr5checkr0 p = Vr5checkr0 p ∧ AObj.fro (1 : Nat) (iE p.settle) = AObj.fro (1 : Nat) (iE p.settle) ∧ AObj.fro (1 : Nat) (iE p.months) = AObj.fro (1 : Nat) (iE p.months)) (((0 : Int) ≤ (↑i : Int) ∧ (↑i : Int) < (↑(iE p.months).length : Int)) ∧ ∃ (n : Int), elPart (iE p.months) (↑i : Int).toNat (0 : Nat) (1 : Nat) = some [D.v (.int .i64 n)] ∧ cnd (decide (n > (1199 : Int))) (∃ (i' : Bool), i' = true ∧ I_1 i' ∧ Vr5checkr0 p = Vr5checkr0 p ∧ AObj.fro (1 : Nat) (iE p.settle) = AObj.fro (1 : Nat) (iE p.settle) ∧ AObj.fro (1 : Nat) (iE p.months) = AObj.fro (1 : Nat) (iE p.months)) (cnd (decide ((↑i : Int) > (0 : Int))) (((0 : Int) ≤ IntKind.i64.wrap ((↑i : Int) - (1 : Int)) ∧ IntKind.i64.wrap ((↑i : Int) - (1 : Int)) < (↑(iE p.months).length : Int)) ∧ ∃ (n : Int), elPart (iE p.months) (IntKind.i64.wrap ((↑i : Int) - (1 : Int))).toNat (0 : Nat) (1 : Nat) = some [D.v (.int .i64 n)] ∧ ((0 : Int) ≤ (↑i : Int) ∧ (↑i : Int) < (↑(iE p.months).length : Int)) ∧ ∃ (n_1 : Int), elPart (iE p.months) (↑i : Int).toNat (0 : Nat) (1 : Nat) = some [D.v (.int .i64 n_1)] ∧ ∃ (i' : Bool), i' = decide (n ≥ n_1) ∧ I_1 i' ∧ Vr5checkr0 p = Vr5checkr0 p ∧ AObj.fro (1 : Nat) (iE p.settle) = AObj.fro (1 : Nat) (iE p.settle) ∧ AObj.fro (1 : Nat) (iE p.months) = AObj.fro (1 : Nat) (iE p.months)) (∃ (i' : Bool), i' = false ∧ I_1 i' ∧ Vr5checkr0 p = Vr5checkr0 p ∧ AObj.fro (1 : Nat) (iE p.settle) = AObj.fro (1 : Nat) (iE p.settle) ∧ AObj.fro (1 : Nat) (iE p.months) = AObj.fro (1 : Nat) (iE p.months))))) ∧ ∀ (i_1 : Bool), I_1 i_1 → cnd i_1 (∃ (o : Unit), p.check = (1 : Int) ∧ True) (∃ (i' : Nat), (↑i' : Int) = IntKind.i64.wrap ((↑i : Int) + (1 : Int)) ∧ I i' ∧ μ i' < μ i ∧ Vr5checkr0 p = Vr5checkr0 p ∧ AObj.fro (1 : Nat) (iE p.settle) = AObj.fro (1 : Nat) (iE p.settle) ∧ AObj.fro (1 : Nat) (iE p.months) = AObj.fro (1 : Nat) (iE p.months))) (∃ (i0 : Bool), ∃ (I : Bool → Prop), cnd (decide (p.tick < (1 : Int))) (∃ (i' : Bool), i' = true ∧ I i' ∧ Vr5checkr0 p = Vr5checkr0 p ∧ AObj.fro (1 : Nat) (iE p.settle) = AObj.fro (1 : Nat) (iE p.settle) ∧ AObj.fro (1 : Nat) (iE p.months) = AObj.fro (1 : Nat) (iE p.months)) (cnd (decide (p.tick > (1000 : Int))) (∃ (i' : Bool), i' = true ∧ I i' ∧ Vr5checkr0 p = Vr5checkr0 p ∧ AObj.fro (1 : Nat) (iE p.settle) = AObj.fro (1 : Nat) (iE p.settle) ∧ AObj.fro (1 : Nat) (iE p.months) = AObj.fro (1 : Nat) (iE p.months)) (IntKind.i64 = IntKind.i64 ∧ p.tick ≠ (0 : Int) ∧ cnd (p.low.tmod p.tick != (0 : Int)) (∃ (i' : Bool), i' = true ∧ I i' ∧ Vr5checkr0 p = Vr5checkr0 p ∧ AObj.fro (1 : Nat) (iE p.settle) = AObj.fro (1 : Nat) (iE p.settle) ∧ AObj.fro (1 : Nat) (iE p.months) = AObj.fro (1 : Nat) (iE p.months)) (IntKind.i64 = IntKind.i64 ∧ p.tick ≠ (0 : Int) ∧ cnd (p.high.tmod p.tick != (0 : Int)) (∃ (i' : Bool), i' = true ∧ I i' ∧ Vr5checkr0 p = Vr5checkr0 p ∧ AObj.fro (1 : Nat) (iE p.settle) = AObj.fro (1 : Nat) (iE p.settle) ∧ AObj.fro (1 : Nat) (iE p.months) = AObj.fro (1 : Nat) (iE p.months)) (IntKind.i64 = IntKind.i64 ∧ p.tick ≠ (0 : Int) ∧ ∃ (i' : Bool), i' = (p.wide.tmod p.tick != (0 : Int)) ∧ I i' ∧ Vr5checkr0 p = Vr5checkr0 p ∧ AObj.fro (1 : Nat) (iE p.settle) = AObj.fro (1 : Nat) (iE p.settle) ∧ AObj.fro (1 : Nat) (iE p.months) = AObj.fro (1 : Nat) (iE p.months))))) ∧ ∀ (i : Bool), I i → cnd i (∃ (o : Unit), p.check = (22 : Int) ∧ True) (∃ (i0 : Nat), (↑i0 : Int) = (0 : Int) ∧ ∃ (I : Nat → Prop), ∃ (μ : Nat → Nat), I i0 ∧ ∀ (i : Nat), I i → cnd (decide ((↑i : Int) < (↑(iE p.settle).length : Int))) (((0 : Int) ≤ (↑i : Int) ∧ (↑i : Int) < (↑(iE p.settle).length : Int)) ∧ ∃ (n : Int), elPart (iE p.settle) (↑i : Int).toNat (0 : Nat) (1 : Nat) = some [D.v (.int .i64 n)] ∧ IntKind.i64 = IntKind.i64 ∧ p.tick ≠ (0 : Int) ∧ cnd (n.tmod p.tick != (0 : Int)) (∃ (o : Unit), p.check = (22 : Int) ∧ True) (∃ (i' : Nat), (↑i' : Int) = IntKind.i64.wrap ((↑i : Int) + (1 : Int)) ∧ I i' ∧ μ i' < μ i ∧ Vr5checkr0 p = Vr5checkr0 p ∧ AObj.fro (1 : Nat) (iE p.settle) = AObj.fro (1 : Nat) (iE p.settle) ∧ AObj.fro (1 : Nat) (iE p.months) = AObj.fro (1 : Nat) (iE p.months))) (∃ (i0 : Bool), ∃ (I : Bool → Prop), cnd (decide (p.low < (-1000000 : Int))) (∃ (i' : Bool), i' = true ∧ I i' ∧ Vr5checkr0 p = Vr5checkr0 p ∧ AObj.fro (1 : Nat) (iE p.settle) = AObj.fro (1 : Nat) (iE p.settle) ∧ AObj.fro (1 : Nat) (iE p.months) = AObj.fro (1 : Nat) (iE p.months)) (cnd (decide (p.low ≥ p.high)) (∃ (i' : Bool), i' = true ∧ I i' ∧ Vr5checkr0 p = Vr5checkr0 p ∧ AObj.fro (1 : Nat) (iE p.settle) = AObj.fro (1 : Nat) (iE p.settle) ∧ AObj.fro (1 : Nat) (iE p.months) = AObj.fro (1 : Nat) (iE p.months)) (cnd (decide (p.high > (1000000 : Int))) (∃ (i' : Bool), i' = true ∧ I i' ∧ Vr5checkr0 p = Vr5checkr0 p ∧ AObj.fro (1 : Nat) (iE p.settle) = AObj.fro (1 : Nat) (iE p.settle) ∧ AObj.fro (1 : Nat) (iE p.months) = AObj.fro (1 : Nat) (iE p.months)) (cnd (decide (p.wide < (0 : Int))) (∃ (i' : Bool), i' = true ∧ I i' ∧ Vr5checkr0 p = Vr5checkr0 p ∧ AObj.fro (1 : Nat) (iE p.settle) = AObj.fro (1 : Nat) (iE p.settle) ∧ AObj.fro (1 : Nat) (iE p.months) = AObj.fro (1 : Nat) (iE p.months)) (∃ (i' : Bool), i' = decide (p.wide > IntKind.i64.wrap (p.high - p.low)) ∧ I i' ∧ Vr5checkr0 p = Vr5checkr0 p ∧ AObj.fro (1 : Nat) (iE p.settle) = AObj.fro (1 : Nat) (iE p.settle) ∧ AObj.fro (1 : Nat) (iE p.months) = AObj.fro (1 : Nat) (iE p.months))))) ∧ ∀ (i : Bool), I i → cnd i (∃ (o : Unit), p.check = (23 : Int) ∧ True) (cnd ((↑(iE p.settle).length : Int) != (↑(iE p.months).length : Int)) (∃ (o : Unit), p.check = (1 : Int) ∧ True) (∃ (i0 : Nat), (↑i0 : Int) = (0 : Int) ∧ ∃ (I : Nat → Prop), ∃ (μ : Nat → Nat), I i0 ∧ ∀ (i : Nat), I i → cnd (decide ((↑i : Int) < (↑(iE p.settle).length : Int))) (∃ (i0 : Bool), ∃ (I_1 : Bool → Prop), (((0 : Int) ≤ (↑i : Int) ∧ (↑i : Int) < (↑(iE p.settle).length : Int)) ∧ ∃ (n : Int), elPart (iE p.settle) (↑i : Int).toNat (0 : Nat) (1 : Nat) = some [D.v (.int .i64 n)] ∧ cnd (decide (n < p.low)) (∃ (i' : Bool), i' = true ∧ I_1 i' ∧ Vr5checkr0 p = Vr5checkr0 p ∧ AObj.fro (1 : Nat) (iE p.settle) = AObj.fro (1 : Nat) (iE p.settle) ∧ AObj.fro (1 : Nat) (iE p.months) = AObj.fro (1 : Nat) (iE p.months)) (((0 : Int) ≤ (↑i : Int) ∧ (↑i : Int) < (↑(iE p.settle).length : Int)) ∧ ∃ (n : Int), elPart (iE p.settle) (↑i : Int).toNat (0 : Nat) (1 : Nat) = some [D.v (.int .i64 n)] ∧ ∃ (i' : Bool), i' = decide (n > p.high) ∧ I_1 i' ∧ Vr5checkr0 p = Vr5checkr0 p ∧ AObj.fro (1 : Nat) (iE p.settle) = AObj.fro (1 : Nat) (iE p.settle) ∧ AObj.fro (1 : Nat) (iE p.months) = AObj.fro (1 : Nat) (iE p.months))) ∧ ∀ (i_1 : Bool), I_1 i_1 → cnd i_1 (∃ (o : Unit), p.check = (1 : Int) ∧ True) (∃ (i' : Nat), (↑i' : Int) = IntKind.i64.wrap ((↑i : Int) + (1 : Int)) ∧ I i' ∧ μ i' < μ i ∧ Vr5checkr0 p = Vr5checkr0 p ∧ AObj.fro (1 : Nat) (iE p.settle) = AObj.fro (1 : Nat) (iE p.settle) ∧ AObj.fro (1 : Nat) (iE p.months) = AObj.fro (1 : Nat) (iE p.months))) (∃ (i0 : Bool), ∃ (I : Bool → Prop), cnd (decide (p.rule < (1 : Int))) (∃ (i' : Bool), i' = true ∧ I i' ∧ Vr5checkr0 p = Vr5checkr0 p ∧ AObj.fro (1 : Nat) (iE p.settle) = AObj.fro (1 : Nat) (iE p.settle) ∧ AObj.fro (1 : Nat) (iE p.months) = AObj.fro (1 : Nat) (iE p.months)) (∃ (i' : Bool), i' = decide (p.rule > (3 : Int)) ∧ I i' ∧ Vr5checkr0 p = Vr5checkr0 p ∧ AObj.fro (1 : Nat) (iE p.settle) = AObj.fro (1 : Nat) (iE p.settle) ∧ AObj.fro (1 : Nat) (iE p.months) = AObj.fro (1 : Nat) (iE p.months)) ∧ ∀ (i : Bool), I i → cnd i (∃ (o : Unit), p.check = (31 : Int) ∧ True) (∃ (i0 : Bool), ∃ (I : Bool → Prop), cnd (decide (p.top < (0 : Int))) (∃ (i' : Bool), i' = true ∧ I i' ∧ Vr5checkr0 p = Vr5checkr0 p ∧ AObj.fro (1 : Nat) (iE p.settle) = AObj.fro (1 : Nat) (iE p.settle) ∧ AObj.fro (1 : Nat) (iE p.months) = AObj.fro (1 : Nat) (iE p.months)) (cnd (decide (p.top > (1000000 : Int))) (∃ (i' : Bool), i' = true ∧ I i' ∧ Vr5checkr0 p = Vr5checkr0 p ∧ AObj.fro (1 : Nat) (iE p.settle) = AObj.fro (1 : Nat) (iE p.settle) ∧ AObj.fro (1 : Nat) (iE p.months) = AObj.fro (1 : Nat) (iE p.months)) (cnd (decide (p.least < (1 : Int))) (∃ (i' : Bool), i' = true ∧ I i' ∧ Vr5checkr0 p = Vr5checkr0 p ∧ AObj.fro (1 : Nat) (iE p.settle) = AObj.fro (1 : Nat) (iE p.settle) ∧ AObj.fro (1 : Nat) (iE p.months) = AObj.fro (1 : Nat) (iE p.months)) (cnd (decide (p.least > (1000 : Int))) (∃ (i' : Bool), i' = true ∧ I i' ∧ Vr5checkr0 p = Vr5checkr0 p ∧ AObj.fro (1 : Nat) (iE p.settle) = AObj.fro (1 : Nat) (iE p.settle) ∧ AObj.fro (1 : Nat) (iE p.months) = AObj.fro (1 : Nat) (iE p.months)) (cnd (decide (p.part < (0 : Int))) (∃ (i' : Bool), i' = true ∧ I i' ∧ Vr5checkr0 p = Vr5checkr0 p ∧ AObj.fro (1 : Nat) (iE p.settle) = AObj.fro (1 : Nat) (iE p.settle) ∧ AObj.fro (1 : Nat) (iE p.months) = AObj.fro (1 : Nat) (iE p.months)) (∃ (i' : Bool), i' = decide (p.part > (100 : Int)) ∧ I i' ∧ Vr5checkr0 p = Vr5checkr0 p ∧ AObj.fro (1 : Nat) (iE p.settle) = AObj.fro (1 : Nat) (iE p.settle) ∧ AObj.fro (1 : Nat) (iE p.months) = AObj.fro (1 : Nat) (iE p.months)))))) ∧ ∀ (i : Bool), I i → cnd i (∃ (o : Unit), p.check = (24 : Int) ∧ True) (∃ (o : Unit), p.check = (0 : Int) ∧ True))))))))))
theorem eqr5check (p : Prd) : Vr5check p = walk Tryd.prog ([(51, r3prodC)]) 0 (r5checkJ) (r5checkA) [] Tryd.f38 (Tryd.f38.body.getD .skip) (r5checkC.pat p) (r5checkC.pre p) (r5checkC.alts p) := by kernel_rfl

theorem byr5check (hG : GOk Tryd.prog ([(51, r3prodC)])) (h : ∀ (p : Prd), r5checkC.cnd p → Vr5check p) : r5checkC.ok Tryd.prog 38 := ok_of_walk mixed ([(51, r3prodC)]) hG 0 (fun (p : Prd) => r5checkJ) (fun (p : Prd) => r5checkA) [] Tryd.func38 (by kernel_rfl) (by kernel_rfl) (by kernel_rfl) (fun _ => by kernel_rfl) (fun (p : Prd) hc => Eq.mp (eqr5check p) (h p hc))

def Vr5count (p : Prd) : Prop :=
  ∃ (i : Prd), sb i.code = sb p.code ∧ iE i.months = iE p.months ∧ i.tick = p.tick ∧ i.low = p.low ∧ i.high = p.high ∧ i.wide = p.wide ∧ i.rule = p.rule ∧ i.top = p.top ∧ i.least = p.least ∧ i.part = p.part ∧ iE i.settle = iE p.settle ∧ (i.code.length ≤ (1099511627776 : Nat) ∧ i.months.length ≤ (1099511627776 : Nat) ∧ i.settle.length ≤ (1099511627776 : Nat)) ∧ ∀ (o : Unit), True → cnd (i.check != (0 : Int)) (∃ (o : Unit), (↑p.count : Int) = (0 : Int) ∧ True) (IntKind.i64 = IntKind.i64 ∧ (2 : Int) ≠ (0 : Int) ∧ ∃ (o : Unit), (↑p.count : Int) = IntKind.i64.wrap ((↑(iE p.months).length : Int) + IntKind.i64.wrap ((IntKind.i64.wrap ((↑(iE p.months).length : Int) * IntKind.i64.wrap ((↑(iE p.months).length : Int) - (1 : Int)))).tdiv (2 : Int))) ∧ True)
theorem eqr5count (p : Prd) : Vr5count p = walk Tryd.prog ([(38, r5checkC)]) 0 ([]) ([]) [] Tryd.f23 (Tryd.f23.body.getD .skip) (r5countC.pat p) (r5countC.pre p) (r5countC.alts p) := by kernel_rfl

theorem byr5count (hG : GOk Tryd.prog ([(38, r5checkC)])) (h : ∀ (p : Prd), r5countC.cnd p → Vr5count p) : r5countC.ok Tryd.prog 23 := ok_of_walk mixed ([(38, r5checkC)]) hG 0 (fun (p : Prd) => []) (fun (p : Prd) => []) [] Tryd.func23 (by kernel_rfl) (by kernel_rfl) (by kernel_rfl) (fun _ => by kernel_rfl) (fun (p : Prd) hc => Eq.mp (eqr5count p) (h p hc))

@[reducible] def Vr5legsr0 (i : LegI) : AObj := Sx.AObj.cells [V.d (D.v (Value.string (sb i.p.code))), V.own (0 : Nat), V.d (D.v (.int .i64 i.p.tick)), V.d (D.v (.int .i64 i.p.low)), V.d (D.v (.int .i64 i.p.high)), V.d (D.v (.int .i64 i.p.wide)), V.d (D.v (.int .i64 i.p.rule)), V.d (D.v (.int .i64 i.p.top)), V.d (D.v (.int .i64 i.p.least)), V.d (D.v (.int .i64 i.p.part)), V.own ((0 : Nat) + (1 : Nat))] (37 : Nat)
def Vr5legs (i : LegI) : Prop :=
  ∃ (i_1 : Prd), sb i_1.code = sb i.p.code ∧ iE i_1.months = iE i.p.months ∧ i_1.tick = i.p.tick ∧ i_1.low = i.p.low ∧ i_1.high = i.p.high ∧ i_1.wide = i.p.wide ∧ i_1.rule = i.p.rule ∧ i_1.top = i.p.top ∧ i_1.least = i.p.least ∧ i_1.part = i.p.part ∧ iE i_1.settle = iE i.p.settle ∧ (i_1.code.length ≤ (1099511627776 : Nat) ∧ i_1.months.length ≤ (1099511627776 : Nat) ∧ i_1.settle.length ≤ (1099511627776 : Nat)) ∧ ∀ (o : Unit), True → cnd (i_1.check != (0 : Int)) (∃ (o : Unit), (i.p.legs i.n).fst = (0 : Int) ∧ (i.p.legs i.n).snd.fst = (0 : Int) ∧ (i.p.legs i.n).snd.snd = false ∧ True) (cnd (decide (i.n < (0 : Int))) (∃ (o : Unit), (i.p.legs i.n).fst = (0 : Int) ∧ (i.p.legs i.n).snd.fst = (0 : Int) ∧ (i.p.legs i.n).snd.snd = false ∧ True) (cnd (decide (i.n < (↑(iE i.p.months).length : Int))) (∃ (o : Unit), (i.p.legs i.n).fst = i.n ∧ (i.p.legs i.n).snd.fst = i.n ∧ (i.p.legs i.n).snd.snd = false ∧ True) (∃ (i0 : Nat), (↑(firstOf i.p.months.length i0) : Int) = (↑(iE i.p.months).length : Int) ∧ (↑i0 : Int) = (0 : Int) ∧ ∃ (I : Nat → Prop), ∃ (μ : Nat → Nat), I i0 ∧ ∀ (i_2 : Nat), I i_2 → cnd (decide ((↑i_2 : Int) < (↑(iE i.p.months).length : Int))) (∃ (i0 : Nat × Nat), (↑(firstOf i.p.months.length i0.fst + i0.snd) : Int) = (↑(firstOf i.p.months.length i_2) : Int) ∧ (↑i0.fst : Int) = (↑i_2 : Int) ∧ (↑(i0.fst + (1 : Nat) + i0.snd) : Int) = IntKind.i64.wrap ((↑i_2 : Int) + (1 : Int)) ∧ ∃ (I_1 : Nat × Nat → Prop), ∃ (μ_1 : Nat × Nat → Nat), I_1 i0 ∧ ∀ (i_3 : Nat × Nat), I_1 i_3 → cnd (decide ((↑(i_3.fst + (1 : Nat) + i_3.snd) : Int) < (↑(iE i.p.months).length : Int))) (cnd ((↑(firstOf i.p.months.length i_3.fst + i_3.snd) : Int) == i.n) (∃ (o : Unit), (i.p.legs i.n).fst = (↑i_3.fst : Int) ∧ (i.p.legs i.n).snd.fst = (↑(i_3.fst + (1 : Nat) + i_3.snd) : Int) ∧ (i.p.legs i.n).snd.snd = true ∧ True) (∃ (i' : Nat × Nat), (↑(firstOf i.p.months.length i'.fst + i'.snd) : Int) = IntKind.i64.wrap ((↑(firstOf i.p.months.length i_3.fst + i_3.snd) : Int) + (1 : Int)) ∧ (↑i'.fst : Int) = (↑i_3.fst : Int) ∧ (↑(i'.fst + (1 : Nat) + i'.snd) : Int) = IntKind.i64.wrap ((↑(i_3.fst + (1 : Nat) + i_3.snd) : Int) + (1 : Int)) ∧ I_1 i' ∧ μ_1 i' < μ_1 i_3 ∧ Vr5legsr0 i = Vr5legsr0 i ∧ AObj.fro (1 : Nat) (iE i.p.settle) = AObj.fro (1 : Nat) (iE i.p.settle) ∧ AObj.fro (1 : Nat) (iE i.p.months) = AObj.fro (1 : Nat) (iE i.p.months))) (∃ (i' : Nat), (↑(firstOf i.p.months.length i') : Int) = (↑(firstOf i.p.months.length i_3.fst + i_3.snd) : Int) ∧ (↑i' : Int) = IntKind.i64.wrap ((↑i_3.fst : Int) + (1 : Int)) ∧ I i' ∧ μ i' < μ i_2 ∧ Vr5legsr0 i = Vr5legsr0 i ∧ AObj.fro (1 : Nat) (iE i.p.settle) = AObj.fro (1 : Nat) (iE i.p.settle) ∧ AObj.fro (1 : Nat) (iE i.p.months) = AObj.fro (1 : Nat) (iE i.p.months))) (∃ (o : Unit), (i.p.legs i.n).fst = (0 : Int) ∧ (i.p.legs i.n).snd.fst = (0 : Int) ∧ (i.p.legs i.n).snd.snd = false ∧ True))))
theorem eqr5legs (i : LegI) : Vr5legs i = walk Tryd.prog ([(38, r5checkC)]) 0 ([]) (r5legsA i) [] Tryd.f24 (Tryd.f24.body.getD .skip) (r5legsC.pat i) (r5legsC.pre i) (r5legsC.alts i) := by kernel_rfl

theorem byr5legs (hG : GOk Tryd.prog ([(38, r5checkC)])) (h : ∀ (i : LegI), r5legsC.cnd i → Vr5legs i) : r5legsC.ok Tryd.prog 24 := ok_of_walk mixed ([(38, r5checkC)]) hG 0 (fun (i : LegI) => []) (fun (i : LegI) => r5legsA i) [] Tryd.func24 (by kernel_rfl) (by kernel_rfl) (by kernel_rfl) (fun _ => by kernel_rfl) (fun (i : LegI) hc => Eq.mp (eqr5legs i) (h i hc))

@[reducible] def Vkprodr0  : AObj := Sx.AObj.cells (Sx.V.agg [V.d (D.v (Value.string (ByteArray.mk #[]))), V.d (D.v (Value.slice none (0 : Nat) (0 : Nat))), V.d (D.v (.int .i64 0)), V.d (D.v (.int .i64 0)), V.d (D.v (.int .i64 0)), V.d (D.v (.int .i64 0)), V.d (D.v (.int .i64 0)), V.d (D.v (.int .i64 0)), V.d (D.v (.int .i64 0)), V.d (D.v (.int .i64 0)), V.d (D.v (Value.slice none (0 : Nat) (0 : Nat)))]).cl (37 : Nat)
@[reducible] def Vkprodr1 (x : Prd) : AObj := Sx.AObj.cells [V.d (D.v (Value.string (sb x.code))), V.own (0 : Nat), V.d (D.v (.int .i64 x.tick)), V.d (D.v (.int .i64 x.low)), V.d (D.v (.int .i64 x.high)), V.d (D.v (.int .i64 x.wide)), V.d (D.v (.int .i64 x.rule)), V.d (D.v (.int .i64 x.top)), V.d (D.v (.int .i64 x.least)), V.d (D.v (.int .i64 x.part)), V.own ((0 : Nat) + (1 : Nat))] (37 : Nat)
def Vkprod (x : Prd) : Prop :=
  ∃ (i : WiI), i.n = (↑(iE x.months).length : Int) ∧ i.lo = (0 : Int) ∧ i.hi = (3 : Int) ∧ (((-9223372036854775808 : Int) ≤ i.n ∧ i.n ≤ (9223372036854775807 : Int)) ∧ (-1000000 : Int) ≤ i.lo ∧ i.lo ≤ i.hi ∧ i.hi ≤ (1000000 : Int)) ∧ ∀ (o : Unit), True → ∃ (i_1 : WiI), i_1.n = x.tick ∧ i_1.lo = (0 : Int) ∧ i_1.hi = (9 : Int) ∧ (((-9223372036854775808 : Int) ≤ i_1.n ∧ i_1.n ≤ (9223372036854775807 : Int)) ∧ (-1000000 : Int) ≤ i_1.lo ∧ i_1.lo ≤ i_1.hi ∧ i_1.hi ≤ (1000000 : Int)) ∧ ∀ (o : Unit), True → ∃ (i0 : Unit), ∃ (I : Unit → Prop), ((∃ (i : WiI), i.n = x.rule ∧ i.lo = (0 : Int) ∧ i.hi = (2 : Int) ∧ (((-9223372036854775808 : Int) ≤ i.n ∧ i.n ≤ (9223372036854775807 : Int)) ∧ (-1000000 : Int) ≤ i.lo ∧ i.lo ≤ i.hi ∧ i.hi ≤ (1000000 : Int)) ∧ ∀ (o : Unit), True → x.part = x.part ∧ x.least = x.least ∧ x.top = x.top ∧ (∃ (i_2 : WiI), i_2.n = x.top ∧ i_2.lo = (0 : Int) ∧ i_2.hi = (9 : Int) ∧ (((-9223372036854775808 : Int) ≤ i_2.n ∧ i_2.n ≤ (9223372036854775807 : Int)) ∧ (-1000000 : Int) ≤ i_2.lo ∧ i_2.lo ≤ i_2.hi ∧ i_2.hi ≤ (1000000 : Int)) ∧ ∀ (o : Unit), True → x.part = x.part ∧ x.least = x.least ∧ (∃ (i_3 : WiI), i_3.n = x.least ∧ i_3.lo = (0 : Int) ∧ i_3.hi = (4 : Int) ∧ (((-9223372036854775808 : Int) ≤ i_3.n ∧ i_3.n ≤ (9223372036854775807 : Int)) ∧ (-1000000 : Int) ≤ i_3.lo ∧ i_3.lo ≤ i_3.hi ∧ i_3.hi ≤ (1000000 : Int)) ∧ ∀ (o : Unit), True → x.part = x.part ∧ (∃ (i_4 : WiI), i_4.n = x.part ∧ i_4.lo = (0 : Int) ∧ i_4.hi = (100 : Int) ∧ (((-9223372036854775808 : Int) ≤ i_4.n ∧ i_4.n ≤ (9223372036854775807 : Int)) ∧ (-1000000 : Int) ≤ i_4.lo ∧ i_4.lo ≤ i_4.hi ∧ i_4.hi ≤ (1000000 : Int)) ∧ ∀ (o : Unit), True → ∃ (i' : Unit), sb [(206 : UInt8), (169 : UInt8)] = ByteArray.mk #[(206 : UInt8), (169 : UInt8)] ∧ True ∧ kTick x = IntKind.i64.wrap ((1 : Int) + within i_1.n i_1.lo i_1.hi) ∧ (-20 : Int) * kTick x = IntKind.i64.wrap ((-20 : Int) * IntKind.i64.wrap ((1 : Int) + within i_1.n i_1.lo i_1.hi)) ∧ (100 : Int) * kTick x = IntKind.i64.wrap ((100 : Int) * IntKind.i64.wrap ((1 : Int) + within i_1.n i_1.lo i_1.hi)) ∧ (0 : Int) = (0 : Int) ∧ (1 : Int) + within x.rule (0 : Int) (2 : Int) = IntKind.i64.wrap ((1 : Int) + within i.n i.lo i.hi) ∧ within x.top (0 : Int) (9 : Int) = within i_2.n i_2.lo i_2.hi ∧ (1 : Int) + within x.least (0 : Int) (4 : Int) = IntKind.i64.wrap ((1 : Int) + within i_3.n i_3.lo i_3.hi) ∧ within x.part (0 : Int) (100 : Int) = within i_4.n i_4.lo i_4.hi ∧ True ∧ I i' ∧ Vkprodr0 = Vkprodr0 ∧ Vkprodr1 x = Vkprodr1 x ∧ AObj.fro (1 : Nat) (iE x.settle) = AObj.fro (1 : Nat) (iE x.settle) ∧ AObj.fro (1 : Nat) (iE x.months) = AObj.fro (1 : Nat) (iE x.months)) ∧ x.part = x.part ∧ ∃ (i_4 : WiI), i_4.n = x.part ∧ i_4.lo = (0 : Int) ∧ i_4.hi = (100 : Int) ∧ (((-9223372036854775808 : Int) ≤ i_4.n ∧ i_4.n ≤ (9223372036854775807 : Int)) ∧ (-1000000 : Int) ≤ i_4.lo ∧ i_4.lo ≤ i_4.hi ∧ i_4.hi ≤ (1000000 : Int)) ∧ ∀ (o : Unit), True → ∃ (i' : Unit), sb [(206 : UInt8), (169 : UInt8)] = ByteArray.mk #[(206 : UInt8), (169 : UInt8)] ∧ True ∧ kTick x = IntKind.i64.wrap ((1 : Int) + within i_1.n i_1.lo i_1.hi) ∧ (-20 : Int) * kTick x = IntKind.i64.wrap ((-20 : Int) * IntKind.i64.wrap ((1 : Int) + within i_1.n i_1.lo i_1.hi)) ∧ (100 : Int) * kTick x = IntKind.i64.wrap ((100 : Int) * IntKind.i64.wrap ((1 : Int) + within i_1.n i_1.lo i_1.hi)) ∧ (0 : Int) = (0 : Int) ∧ (1 : Int) + within x.rule (0 : Int) (2 : Int) = IntKind.i64.wrap ((1 : Int) + within i.n i.lo i.hi) ∧ within x.top (0 : Int) (9 : Int) = within i_2.n i_2.lo i_2.hi ∧ (1 : Int) + within x.least (0 : Int) (4 : Int) = IntKind.i64.wrap ((1 : Int) + within i_3.n i_3.lo i_3.hi) ∧ within x.part (0 : Int) (100 : Int) = within i_4.n i_4.lo i_4.hi ∧ True ∧ I i' ∧ Vkprodr0 = Vkprodr0 ∧ Vkprodr1 x = Vkprodr1 x ∧ AObj.fro (1 : Nat) (iE x.settle) = AObj.fro (1 : Nat) (iE x.settle) ∧ AObj.fro (1 : Nat) (iE x.months) = AObj.fro (1 : Nat) (iE x.months)) ∧ x.part = x.part ∧ x.least = x.least ∧ ∃ (i_3 : WiI), i_3.n = x.least ∧ i_3.lo = (0 : Int) ∧ i_3.hi = (4 : Int) ∧ (((-9223372036854775808 : Int) ≤ i_3.n ∧ i_3.n ≤ (9223372036854775807 : Int)) ∧ (-1000000 : Int) ≤ i_3.lo ∧ i_3.lo ≤ i_3.hi ∧ i_3.hi ≤ (1000000 : Int)) ∧ ∀ (o : Unit), True → x.part = x.part ∧ ∃ (i_4 : WiI), i_4.n = x.part ∧ i_4.lo = (0 : Int) ∧ i_4.hi = (100 : Int) ∧ (((-9223372036854775808 : Int) ≤ i_4.n ∧ i_4.n ≤ (9223372036854775807 : Int)) ∧ (-1000000 : Int) ≤ i_4.lo ∧ i_4.lo ≤ i_4.hi ∧ i_4.hi ≤ (1000000 : Int)) ∧ ∀ (o : Unit), True → ∃ (i' : Unit), sb [(206 : UInt8), (169 : UInt8)] = ByteArray.mk #[(206 : UInt8), (169 : UInt8)] ∧ True ∧ kTick x = IntKind.i64.wrap ((1 : Int) + within i_1.n i_1.lo i_1.hi) ∧ (-20 : Int) * kTick x = IntKind.i64.wrap ((-20 : Int) * IntKind.i64.wrap ((1 : Int) + within i_1.n i_1.lo i_1.hi)) ∧ (100 : Int) * kTick x = IntKind.i64.wrap ((100 : Int) * IntKind.i64.wrap ((1 : Int) + within i_1.n i_1.lo i_1.hi)) ∧ (0 : Int) = (0 : Int) ∧ (1 : Int) + within x.rule (0 : Int) (2 : Int) = IntKind.i64.wrap ((1 : Int) + within i.n i.lo i.hi) ∧ within x.top (0 : Int) (9 : Int) = within i_2.n i_2.lo i_2.hi ∧ (1 : Int) + within x.least (0 : Int) (4 : Int) = IntKind.i64.wrap ((1 : Int) + within i_3.n i_3.lo i_3.hi) ∧ within x.part (0 : Int) (100 : Int) = within i_4.n i_4.lo i_4.hi ∧ True ∧ I i' ∧ Vkprodr0 = Vkprodr0 ∧ Vkprodr1 x = Vkprodr1 x ∧ AObj.fro (1 : Nat) (iE x.settle) = AObj.fro (1 : Nat) (iE x.settle) ∧ AObj.fro (1 : Nat) (iE x.months) = AObj.fro (1 : Nat) (iE x.months)) ∧ x.part = x.part ∧ x.least = x.least ∧ x.top = x.top ∧ ∃ (i_2 : WiI), i_2.n = x.top ∧ i_2.lo = (0 : Int) ∧ i_2.hi = (9 : Int) ∧ (((-9223372036854775808 : Int) ≤ i_2.n ∧ i_2.n ≤ (9223372036854775807 : Int)) ∧ (-1000000 : Int) ≤ i_2.lo ∧ i_2.lo ≤ i_2.hi ∧ i_2.hi ≤ (1000000 : Int)) ∧ ∀ (o : Unit), True → x.part = x.part ∧ x.least = x.least ∧ ∃ (i_3 : WiI), i_3.n = x.least ∧ i_3.lo = (0 : Int) ∧ i_3.hi = (4 : Int) ∧ (((-9223372036854775808 : Int) ≤ i_3.n ∧ i_3.n ≤ (9223372036854775807 : Int)) ∧ (-1000000 : Int) ≤ i_3.lo ∧ i_3.lo ≤ i_3.hi ∧ i_3.hi ≤ (1000000 : Int)) ∧ ∀ (o : Unit), True → x.part = x.part ∧ ∃ (i_4 : WiI), i_4.n = x.part ∧ i_4.lo = (0 : Int) ∧ i_4.hi = (100 : Int) ∧ (((-9223372036854775808 : Int) ≤ i_4.n ∧ i_4.n ≤ (9223372036854775807 : Int)) ∧ (-1000000 : Int) ≤ i_4.lo ∧ i_4.lo ≤ i_4.hi ∧ i_4.hi ≤ (1000000 : Int)) ∧ ∀ (o : Unit), True → ∃ (i' : Unit), sb [(206 : UInt8), (169 : UInt8)] = ByteArray.mk #[(206 : UInt8), (169 : UInt8)] ∧ True ∧ kTick x = IntKind.i64.wrap ((1 : Int) + within i_1.n i_1.lo i_1.hi) ∧ (-20 : Int) * kTick x = IntKind.i64.wrap ((-20 : Int) * IntKind.i64.wrap ((1 : Int) + within i_1.n i_1.lo i_1.hi)) ∧ (100 : Int) * kTick x = IntKind.i64.wrap ((100 : Int) * IntKind.i64.wrap ((1 : Int) + within i_1.n i_1.lo i_1.hi)) ∧ (0 : Int) = (0 : Int) ∧ (1 : Int) + within x.rule (0 : Int) (2 : Int) = IntKind.i64.wrap ((1 : Int) + within i.n i.lo i.hi) ∧ within x.top (0 : Int) (9 : Int) = within i_2.n i_2.lo i_2.hi ∧ (1 : Int) + within x.least (0 : Int) (4 : Int) = IntKind.i64.wrap ((1 : Int) + within i_3.n i_3.lo i_3.hi) ∧ within x.part (0 : Int) (100 : Int) = within i_4.n i_4.lo i_4.hi ∧ True ∧ I i' ∧ Vkprodr0 = Vkprodr0 ∧ Vkprodr1 x = Vkprodr1 x ∧ AObj.fro (1 : Nat) (iE x.settle) = AObj.fro (1 : Nat) (iE x.settle) ∧ AObj.fro (1 : Nat) (iE x.months) = AObj.fro (1 : Nat) (iE x.months)) ∧ x.part = x.part ∧ x.least = x.least ∧ x.top = x.top ∧ x.rule = x.rule ∧ ∃ (i : WiI), i.n = x.rule ∧ i.lo = (0 : Int) ∧ i.hi = (2 : Int) ∧ (((-9223372036854775808 : Int) ≤ i.n ∧ i.n ≤ (9223372036854775807 : Int)) ∧ (-1000000 : Int) ≤ i.lo ∧ i.lo ≤ i.hi ∧ i.hi ≤ (1000000 : Int)) ∧ ∀ (o : Unit), True → x.part = x.part ∧ x.least = x.least ∧ x.top = x.top ∧ ∃ (i_2 : WiI), i_2.n = x.top ∧ i_2.lo = (0 : Int) ∧ i_2.hi = (9 : Int) ∧ (((-9223372036854775808 : Int) ≤ i_2.n ∧ i_2.n ≤ (9223372036854775807 : Int)) ∧ (-1000000 : Int) ≤ i_2.lo ∧ i_2.lo ≤ i_2.hi ∧ i_2.hi ≤ (1000000 : Int)) ∧ ∀ (o : Unit), True → x.part = x.part ∧ x.least = x.least ∧ ∃ (i_3 : WiI), i_3.n = x.least ∧ i_3.lo = (0 : Int) ∧ i_3.hi = (4 : Int) ∧ (((-9223372036854775808 : Int) ≤ i_3.n ∧ i_3.n ≤ (9223372036854775807 : Int)) ∧ (-1000000 : Int) ≤ i_3.lo ∧ i_3.lo ≤ i_3.hi ∧ i_3.hi ≤ (1000000 : Int)) ∧ ∀ (o : Unit), True → x.part = x.part ∧ ∃ (i_4 : WiI), i_4.n = x.part ∧ i_4.lo = (0 : Int) ∧ i_4.hi = (100 : Int) ∧ (((-9223372036854775808 : Int) ≤ i_4.n ∧ i_4.n ≤ (9223372036854775807 : Int)) ∧ (-1000000 : Int) ≤ i_4.lo ∧ i_4.lo ≤ i_4.hi ∧ i_4.hi ≤ (1000000 : Int)) ∧ ∀ (o : Unit), True → ∃ (i' : Unit), sb [(206 : UInt8), (169 : UInt8)] = ByteArray.mk #[(206 : UInt8), (169 : UInt8)] ∧ True ∧ kTick x = IntKind.i64.wrap ((1 : Int) + within i_1.n i_1.lo i_1.hi) ∧ (-20 : Int) * kTick x = IntKind.i64.wrap ((-20 : Int) * IntKind.i64.wrap ((1 : Int) + within i_1.n i_1.lo i_1.hi)) ∧ (100 : Int) * kTick x = IntKind.i64.wrap ((100 : Int) * IntKind.i64.wrap ((1 : Int) + within i_1.n i_1.lo i_1.hi)) ∧ (0 : Int) = (0 : Int) ∧ (1 : Int) + within x.rule (0 : Int) (2 : Int) = IntKind.i64.wrap ((1 : Int) + within i.n i.lo i.hi) ∧ within x.top (0 : Int) (9 : Int) = within i_2.n i_2.lo i_2.hi ∧ (1 : Int) + within x.least (0 : Int) (4 : Int) = IntKind.i64.wrap ((1 : Int) + within i_3.n i_3.lo i_3.hi) ∧ within x.part (0 : Int) (100 : Int) = within i_4.n i_4.lo i_4.hi ∧ True ∧ I i' ∧ Vkprodr0 = Vkprodr0 ∧ Vkprodr1 x = Vkprodr1 x ∧ AObj.fro (1 : Nat) (iE x.settle) = AObj.fro (1 : Nat) (iE x.settle) ∧ AObj.fro (1 : Nat) (iE x.months) = AObj.fro (1 : Nat) (iE x.months)) ∧ ∀ (i_2 : Unit), I i_2 → ∃ (i_3 : WiI), i_3.n = x.wide ∧ i_3.lo = (0 : Int) ∧ i_3.hi = (60 : Int) ∧ (((-9223372036854775808 : Int) ≤ i_3.n ∧ i_3.n ≤ (9223372036854775807 : Int)) ∧ (-1000000 : Int) ≤ i_3.lo ∧ i_3.lo ≤ i_3.hi ∧ i_3.hi ≤ (1000000 : Int)) ∧ ∀ (o : Unit), True → ∃ (i0 : Nat), (↑i0 : Int) = (0 : Int) ∧ sb [(206 : UInt8), (169 : UInt8)] = sb [(206 : UInt8), (169 : UInt8)] ∧ kTick x = kTick x ∧ (-20 : Int) * kTick x = (-20 : Int) * kTick x ∧ (100 : Int) * kTick x = (100 : Int) * kTick x ∧ kTick x * ((5 : Int) + within x.wide (0 : Int) (60 : Int)) = IntKind.i64.wrap (IntKind.i64.wrap ((1 : Int) + within i_1.n i_1.lo i_1.hi) * IntKind.i64.wrap ((5 : Int) + within i_3.n i_3.lo i_3.hi)) ∧ (1 : Int) + within x.rule (0 : Int) (2 : Int) = (1 : Int) + within x.rule (0 : Int) (2 : Int) ∧ within x.top (0 : Int) (9 : Int) = within x.top (0 : Int) (9 : Int) ∧ (1 : Int) + within x.least (0 : Int) (4 : Int) = (1 : Int) + within x.least (0 : Int) (4 : Int) ∧ within x.part (0 : Int) (100 : Int) = within x.part (0 : Int) (100 : Int) ∧ iE (kMonths i0) = [] ∧ iE (kSettle (kTick x) i0) = [] ∧ ∃ (I : Nat → Prop), ∃ (μ : Nat → Nat), I i0 ∧ ∀ (i_4 : Nat), I i_4 → cnd (decide ((↑i_4 : Int) < IntKind.i64.wrap ((2 : Int) + within i.n i.lo i.hi))) (((iE (kMonths i_4)).length + (1 : Nat)) * (8 : Nat) ≤ (70368744177664 : Nat) ∧ ((iE (kSettle (kTick x) i_4)).length + (1 : Nat)) * (8 : Nat) ≤ (70368744177664 : Nat) ∧ ∃ (i' : Nat), (↑i' : Int) = IntKind.i64.wrap ((↑i_4 : Int) + (1 : Int)) ∧ sb [(206 : UInt8), (169 : UInt8)] = sb [(206 : UInt8), (169 : UInt8)] ∧ kTick x = kTick x ∧ (-20 : Int) * kTick x = (-20 : Int) * kTick x ∧ (100 : Int) * kTick x = (100 : Int) * kTick x ∧ kTick x * ((5 : Int) + within x.wide (0 : Int) (60 : Int)) = kTick x * ((5 : Int) + within x.wide (0 : Int) (60 : Int)) ∧ (1 : Int) + within x.rule (0 : Int) (2 : Int) = (1 : Int) + within x.rule (0 : Int) (2 : Int) ∧ within x.top (0 : Int) (9 : Int) = within x.top (0 : Int) (9 : Int) ∧ (1 : Int) + within x.least (0 : Int) (4 : Int) = (1 : Int) + within x.least (0 : Int) (4 : Int) ∧ within x.part (0 : Int) (100 : Int) = within x.part (0 : Int) (100 : Int) ∧ iE (kMonths i') = iE (kMonths i_4) ++ [[D.v (.int .i64 (IntKind.i64.wrap (IntKind.i64.wrap ((10 : Int) * (↑i_4 : Int)) + (3 : Int))))]] ∧ iE (kSettle (kTick x) i') = iE (kSettle (kTick x) i_4) ++ [[D.v (.int .i64 (IntKind.i64.wrap (IntKind.i64.wrap ((1 : Int) + within i_1.n i_1.lo i_1.hi) * IntKind.i64.wrap ((10 : Int) + (↑i_4 : Int)))))]] ∧ I i' ∧ μ i' < μ i_4 ∧ Vkprodr0 = Vkprodr0 ∧ Vkprodr1 x = Vkprodr1 x ∧ AObj.fro (1 : Nat) (iE x.settle) = AObj.fro (1 : Nat) (iE x.settle) ∧ AObj.fro (1 : Nat) (iE x.months) = AObj.fro (1 : Nat) (iE x.months)) (∃ (o : Unit), sb [(206 : UInt8), (169 : UInt8)] = sb [(206 : UInt8), (169 : UInt8)] ∧ iE (kMonths (kN x).toNat) = iE (kMonths i_4) ∧ kTick x = kTick x ∧ (-20 : Int) * kTick x = (-20 : Int) * kTick x ∧ (100 : Int) * kTick x = (100 : Int) * kTick x ∧ kTick x * ((5 : Int) + within x.wide (0 : Int) (60 : Int)) = kTick x * ((5 : Int) + within x.wide (0 : Int) (60 : Int)) ∧ (1 : Int) + within x.rule (0 : Int) (2 : Int) = (1 : Int) + within x.rule (0 : Int) (2 : Int) ∧ within x.top (0 : Int) (9 : Int) = within x.top (0 : Int) (9 : Int) ∧ (1 : Int) + within x.least (0 : Int) (4 : Int) = (1 : Int) + within x.least (0 : Int) (4 : Int) ∧ within x.part (0 : Int) (100 : Int) = within x.part (0 : Int) (100 : Int) ∧ iE (kSettle (kTick x) (kN x).toNat) = iE (kSettle (kTick x) i_4) ∧ True)
theorem eqkprod (x : Prd) : Vkprod x = walk Tryd.prog ([(8, withinC)]) 0 (kprodJ x) (kprodA x) [] Tryd.f14 (Tryd.f14.body.getD .skip) (kprodC.pat x) (kprodC.pre x) (kprodC.alts x) := by kernel_rfl

theorem bykprod (hG : GOk Tryd.prog ([(8, withinC)])) (h : ∀ (x : Prd), kprodC.cnd x → Vkprod x) : kprodC.ok Tryd.prog 14 := ok_of_walk mixed ([(8, withinC)]) hG 0 (fun (x : Prd) => kprodJ x) (fun (x : Prd) => kprodA x) [] Tryd.func14 (by kernel_rfl) (by kernel_rfl) (by kernel_rfl) (fun _ => by kernel_rfl) (fun (x : Prd) hc => Eq.mp (eqkprod x) (h x hc))

@[reducible] def Vtamer0  : AObj := Sx.AObj.cells (Sx.V.agg [V.d (D.v (.int .i64 0)), V.d (D.v (.int .i64 0)), V.d (D.v (.int .i64 0)), V.d (D.v (.int .i64 0)), V.d (D.v (.int .i64 0)), V.d (D.v (.int .i64 0)), V.d (D.v (.int .i64 0)), V.d (D.v (.int .i64 0)), V.d (D.v (Value.string (ByteArray.mk #[])))]).cl (39 : Nat)
@[reducible] def Vtamer1 (t : TmI) : AObj := Sx.AObj.cells [V.d (D.v (.int .i64 t.c.kind)), V.d (D.v (.int .i64 t.c.id)), V.d (D.v (.int .i64 t.c.inst)), V.d (D.v (.int .i64 t.c.side)), V.d (D.v (.int .i64 t.c.price)), V.d (D.v (.int .i64 t.c.qty)), V.d (D.v (.int .i64 t.c.least)), V.d (D.v (.int .i64 t.c.time)), V.d (D.v (Value.string (sb t.c.label)))] (39 : Nat)
@[reducible] def Vtamer2 (t : TmI) : AObj := Sx.AObj.cells [V.d (D.v (Value.string (sb t.p.code))), V.own (0 : Nat), V.d (D.v (.int .i64 t.p.tick)), V.d (D.v (.int .i64 t.p.low)), V.d (D.v (.int .i64 t.p.high)), V.d (D.v (.int .i64 t.p.wide)), V.d (D.v (.int .i64 t.p.rule)), V.d (D.v (.int .i64 t.p.top)), V.d (D.v (.int .i64 t.p.least)), V.d (D.v (.int .i64 t.p.part)), V.own ((0 : Nat) + (1 : Nat))] (37 : Nat)
def Vtame (t : TmI) : Prop :=
  ∃ (i : WiI), i.n = t.c.kind ∧ i.lo = (0 : Int) ∧ i.hi = (8 : Int) ∧ (((-9223372036854775808 : Int) ≤ i.n ∧ i.n ≤ (9223372036854775807 : Int)) ∧ (-1000000 : Int) ≤ i.lo ∧ i.lo ≤ i.hi ∧ i.hi ≤ (1000000 : Int)) ∧ ∀ (o : Unit), True → ∃ (i_1 : WiI), i_1.n = t.c.id ∧ i_1.lo = (0 : Int) ∧ i_1.hi = (30 : Int) ∧ (((-9223372036854775808 : Int) ≤ i_1.n ∧ i_1.n ≤ (9223372036854775807 : Int)) ∧ (-1000000 : Int) ≤ i_1.lo ∧ i_1.lo ≤ i_1.hi ∧ i_1.hi ≤ (1000000 : Int)) ∧ ∀ (o : Unit), True → ∃ (i0 : Cmd), i0.kind = IntKind.i64.wrap ((1 : Int) + within i.n i.lo i.hi) ∧ i0.id = IntKind.i64.wrap ((1 : Int) + within i_1.n i_1.lo i_1.hi) ∧ i0.inst = (0 : Int) ∧ i0.side = (0 : Int) ∧ i0.price = (0 : Int) ∧ i0.qty = (0 : Int) ∧ i0.least = (0 : Int) ∧ i0.time = (0 : Int) ∧ sb i0.label = ByteArray.mk #[] ∧ ∃ (I : Cmd → Prop), cnd (decide (i0.kind > (4 : Int))) (∃ (i' : Cmd), i'.kind = (1 : Int) ∧ i'.id = i0.id ∧ i'.inst = i0.inst ∧ i'.side = i0.side ∧ i'.price = i0.price ∧ i'.qty = i0.qty ∧ i'.least = i0.least ∧ i'.time = i0.time ∧ sb i'.label = sb i0.label ∧ I i' ∧ Vtamer0 = Vtamer0 ∧ Vtamer1 t = Vtamer1 t ∧ Vtamer2 t = Vtamer2 t ∧ AObj.fro (1 : Nat) (iE t.p.settle) = AObj.fro (1 : Nat) (iE t.p.settle) ∧ AObj.fro (1 : Nat) (iE t.p.months) = AObj.fro (1 : Nat) (iE t.p.months)) (∃ (i' : Cmd), i'.kind = i0.kind ∧ i'.id = i0.id ∧ i'.inst = i0.inst ∧ i'.side = i0.side ∧ i'.price = i0.price ∧ i'.qty = i0.qty ∧ i'.least = i0.least ∧ i'.time = i0.time ∧ sb i'.label = sb i0.label ∧ I i' ∧ Vtamer0 = Vtamer0 ∧ Vtamer1 t = Vtamer1 t ∧ Vtamer2 t = Vtamer2 t ∧ AObj.fro (1 : Nat) (iE t.p.settle) = AObj.fro (1 : Nat) (iE t.p.settle) ∧ AObj.fro (1 : Nat) (iE t.p.months) = AObj.fro (1 : Nat) (iE t.p.months)) ∧ ∀ (i : Cmd), I i → ∃ (i_2 : Prd), sb i_2.code = sb t.p.code ∧ iE i_2.months = iE t.p.months ∧ i_2.tick = t.p.tick ∧ i_2.low = t.p.low ∧ i_2.high = t.p.high ∧ i_2.wide = t.p.wide ∧ i_2.rule = t.p.rule ∧ i_2.top = t.p.top ∧ i_2.least = t.p.least ∧ i_2.part = t.p.part ∧ iE i_2.settle = iE t.p.settle ∧ (i_2.code.length ≤ (1099511627776 : Nat) ∧ i_2.months.length ≤ (1099511627776 : Nat) ∧ i_2.settle.length ≤ (1099511627776 : Nat)) ∧ ∀ (o : Unit), True → ∃ (i_3 : WiI), i_3.n = t.c.inst ∧ i_3.lo = (0 : Int) ∧ i_3.hi = IntKind.i64.wrap ((↑i_2.count : Int) - (1 : Int)) ∧ (((-9223372036854775808 : Int) ≤ i_3.n ∧ i_3.n ≤ (9223372036854775807 : Int)) ∧ (-1000000 : Int) ≤ i_3.lo ∧ i_3.lo ≤ i_3.hi ∧ i_3.hi ≤ (1000000 : Int)) ∧ ∀ (o : Unit), True → ∃ (i_4 : WiI), i_4.n = t.c.side ∧ i_4.lo = (0 : Int) ∧ i_4.hi = (1 : Int) ∧ (((-9223372036854775808 : Int) ≤ i_4.n ∧ i_4.n ≤ (9223372036854775807 : Int)) ∧ (-1000000 : Int) ≤ i_4.lo ∧ i_4.lo ≤ i_4.hi ∧ i_4.hi ≤ (1000000 : Int)) ∧ ∀ (o : Unit), True → ∃ (i_5 : WiI), i_5.n = t.c.qty ∧ i_5.lo = (0 : Int) ∧ i_5.hi = (11 : Int) ∧ (((-9223372036854775808 : Int) ≤ i_5.n ∧ i_5.n ≤ (9223372036854775807 : Int)) ∧ (-1000000 : Int) ≤ i_5.lo ∧ i_5.lo ≤ i_5.hi ∧ i_5.hi ≤ (1000000 : Int)) ∧ ∀ (o : Unit), True → ∃ (i_6 : WiI), i_6.n = t.c.price ∧ i_6.lo = (0 : Int) ∧ i_6.hi = (9 : Int) ∧ (((-9223372036854775808 : Int) ≤ i_6.n ∧ i_6.n ≤ (9223372036854775807 : Int)) ∧ (-1000000 : Int) ≤ i_6.lo ∧ i_6.lo ≤ i_6.hi ∧ i_6.hi ≤ (1000000 : Int)) ∧ ∀ (o : Unit), True → t.p.tick = t.p.tick ∧ cnd (i.kind == (1 : Int)) (∃ (i0 : Cmd), i0.kind = i.kind ∧ i0.id = IntKind.i64.wrap (t.i + (1 : Int)) ∧ i0.inst = within i_3.n i_3.lo i_3.hi ∧ i0.side = IntKind.i64.wrap ((1 : Int) + within i_4.n i_4.lo i_4.hi) ∧ i0.price = IntKind.i64.wrap (t.p.tick * within i_6.n i_6.lo i_6.hi) ∧ i0.qty = IntKind.i64.wrap ((1 : Int) + within i_5.n i_5.lo i_5.hi) ∧ i0.least = i.least ∧ i0.time = (1 : Int) ∧ sb i0.label = sb i.label ∧ ∃ (I : Cmd → Prop), (IntKind.i64 = IntKind.i64 ∧ (5 : Int) ≠ (0 : Int) ∧ cnd (t.c.time.tmod (5 : Int) == (2 : Int)) (∃ (i' : Cmd), i'.kind = i0.kind ∧ i'.id = i0.id ∧ i'.inst = i0.inst ∧ i'.side = i0.side ∧ i'.price = i0.price ∧ i'.qty = i0.qty ∧ i'.least = i0.least ∧ i'.time = (2 : Int) ∧ sb i'.label = sb i0.label ∧ I i' ∧ Vtamer0 = Vtamer0 ∧ Vtamer1 t = Vtamer1 t ∧ Vtamer2 t = Vtamer2 t ∧ AObj.fro (1 : Nat) (iE t.p.settle) = AObj.fro (1 : Nat) (iE t.p.settle) ∧ AObj.fro (1 : Nat) (iE t.p.months) = AObj.fro (1 : Nat) (iE t.p.months)) (∃ (i' : Cmd), i'.kind = i0.kind ∧ i'.id = i0.id ∧ i'.inst = i0.inst ∧ i'.side = i0.side ∧ i'.price = i0.price ∧ i'.qty = i0.qty ∧ i'.least = i0.least ∧ i'.time = i0.time ∧ sb i'.label = sb i0.label ∧ I i' ∧ Vtamer0 = Vtamer0 ∧ Vtamer1 t = Vtamer1 t ∧ Vtamer2 t = Vtamer2 t ∧ AObj.fro (1 : Nat) (iE t.p.settle) = AObj.fro (1 : Nat) (iE t.p.settle) ∧ AObj.fro (1 : Nat) (iE t.p.months) = AObj.fro (1 : Nat) (iE t.p.months))) ∧ ∀ (i : Cmd), I i → ∃ (i0 : Cmd), i0.kind = i.kind ∧ i0.id = i.id ∧ i0.inst = i.inst ∧ i0.side = i.side ∧ i0.price = i.price ∧ i0.qty = i.qty ∧ i0.least = i.least ∧ i0.time = i.time ∧ sb i0.label = sb i.label ∧ ∃ (I : Cmd → Prop), (IntKind.i64 = IntKind.i64 ∧ (5 : Int) ≠ (0 : Int) ∧ cnd (t.c.time.tmod (5 : Int) == (3 : Int)) (∃ (i' : Cmd), i'.kind = i0.kind ∧ i'.id = i0.id ∧ i'.inst = i0.inst ∧ i'.side = i0.side ∧ i'.price = i0.price ∧ i'.qty = i0.qty ∧ i'.least = i0.least ∧ i'.time = (3 : Int) ∧ sb i'.label = sb i0.label ∧ I i' ∧ Vtamer0 = Vtamer0 ∧ Vtamer1 t = Vtamer1 t ∧ Vtamer2 t = Vtamer2 t ∧ AObj.fro (1 : Nat) (iE t.p.settle) = AObj.fro (1 : Nat) (iE t.p.settle) ∧ AObj.fro (1 : Nat) (iE t.p.months) = AObj.fro (1 : Nat) (iE t.p.months)) (∃ (i' : Cmd), i'.kind = i0.kind ∧ i'.id = i0.id ∧ i'.inst = i0.inst ∧ i'.side = i0.side ∧ i'.price = i0.price ∧ i'.qty = i0.qty ∧ i'.least = i0.least ∧ i'.time = i0.time ∧ sb i'.label = sb i0.label ∧ I i' ∧ Vtamer0 = Vtamer0 ∧ Vtamer1 t = Vtamer1 t ∧ Vtamer2 t = Vtamer2 t ∧ AObj.fro (1 : Nat) (iE t.p.settle) = AObj.fro (1 : Nat) (iE t.p.settle) ∧ AObj.fro (1 : Nat) (iE t.p.months) = AObj.fro (1 : Nat) (iE t.p.months))) ∧ ∀ (i : Cmd), I i → ∃ (i0 : Cmd), i0.kind = i.kind ∧ i0.id = i.id ∧ i0.inst = i.inst ∧ i0.side = i.side ∧ i0.price = i.price ∧ i0.qty = i.qty ∧ i0.least = i.least ∧ i0.time = i.time ∧ sb i0.label = sb i.label ∧ ∃ (I : Cmd → Prop), (IntKind.i64 = IntKind.i64 ∧ (4 : Int) ≠ (0 : Int) ∧ cnd (t.c.least.tmod (4 : Int) == (1 : Int)) (∃ (i : WiI), i.n = t.c.least ∧ i.lo = (0 : Int) ∧ i.hi = i0.qty ∧ (((-9223372036854775808 : Int) ≤ i.n ∧ i.n ≤ (9223372036854775807 : Int)) ∧ (-1000000 : Int) ≤ i.lo ∧ i.lo ≤ i.hi ∧ i.hi ≤ (1000000 : Int)) ∧ ∀ (o : Unit), True → ∃ (i' : Cmd), i'.kind = i0.kind ∧ i'.id = i0.id ∧ i'.inst = i0.inst ∧ i'.side = i0.side ∧ i'.price = i0.price ∧ i'.qty = i0.qty ∧ i'.least = within i.n i.lo i.hi ∧ i'.time = i0.time ∧ sb i'.label = sb i0.label ∧ I i' ∧ Vtamer0 = Vtamer0 ∧ Vtamer1 t = Vtamer1 t ∧ Vtamer2 t = Vtamer2 t ∧ AObj.fro (1 : Nat) (iE t.p.settle) = AObj.fro (1 : Nat) (iE t.p.settle) ∧ AObj.fro (1 : Nat) (iE t.p.months) = AObj.fro (1 : Nat) (iE t.p.months)) (∃ (i' : Cmd), i'.kind = i0.kind ∧ i'.id = i0.id ∧ i'.inst = i0.inst ∧ i'.side = i0.side ∧ i'.price = i0.price ∧ i'.qty = i0.qty ∧ i'.least = i0.least ∧ i'.time = i0.time ∧ sb i'.label = sb i0.label ∧ I i' ∧ Vtamer0 = Vtamer0 ∧ Vtamer1 t = Vtamer1 t ∧ Vtamer2 t = Vtamer2 t ∧ AObj.fro (1 : Nat) (iE t.p.settle) = AObj.fro (1 : Nat) (iE t.p.settle) ∧ AObj.fro (1 : Nat) (iE t.p.months) = AObj.fro (1 : Nat) (iE t.p.months))) ∧ ∀ (i : Cmd), I i → ∃ (i_7 : LegI), sb i_7.p.code = sb t.p.code ∧ iE i_7.p.months = iE t.p.months ∧ i_7.p.tick = t.p.tick ∧ i_7.p.low = t.p.low ∧ i_7.p.high = t.p.high ∧ i_7.p.wide = t.p.wide ∧ i_7.p.rule = t.p.rule ∧ i_7.p.top = t.p.top ∧ i_7.p.least = t.p.least ∧ i_7.p.part = t.p.part ∧ iE i_7.p.settle = iE t.p.settle ∧ i_7.n = i.inst ∧ (i_7.p.code.length ≤ (1099511627776 : Nat) ∧ i_7.p.months.length ≤ (1099511627776 : Nat) ∧ i_7.p.settle.length ≤ (1099511627776 : Nat)) ∧ ∀ (o : Unit), True → cnd (!(i_7.p.legs i_7.n).snd.snd) (∃ (o : Unit), (tame t).kind = i.kind ∧ (tame t).id = i.id ∧ (tame t).inst = i.inst ∧ (tame t).side = i.side ∧ (tame t).price = IntKind.i64.wrap (i.price + IntKind.i64.wrap ((8 : Int) * t.p.tick)) ∧ (tame t).qty = i.qty ∧ (tame t).least = i.least ∧ (tame t).time = i.time ∧ sb (tame t).label = sb i.label ∧ True) (∃ (o : Unit), (tame t).kind = i.kind ∧ (tame t).id = i.id ∧ (tame t).inst = i.inst ∧ (tame t).side = i.side ∧ (tame t).price = IntKind.i64.wrap (i.price - IntKind.i64.wrap ((4 : Int) * t.p.tick)) ∧ (tame t).qty = i.qty ∧ (tame t).least = i.least ∧ (tame t).time = i.time ∧ sb (tame t).label = sb i.label ∧ True)) (cnd (i.kind == (4 : Int)) (∃ (o : Unit), (tame t).kind = i.kind ∧ (tame t).id = i.id ∧ (tame t).inst = (0 : Int) ∧ (tame t).side = (0 : Int) ∧ (tame t).price = IntKind.i64.wrap (IntKind.i64.wrap (t.p.tick * within i_6.n i_6.lo i_6.hi) + IntKind.i64.wrap ((5 : Int) * t.p.tick)) ∧ (tame t).qty = IntKind.i64.wrap ((1 : Int) + within i_5.n i_5.lo i_5.hi) ∧ (tame t).least = i.least ∧ (tame t).time = i.time ∧ sb (tame t).label = sb i.label ∧ True) (∃ (o : Unit), (tame t).kind = i.kind ∧ (tame t).id = i.id ∧ (tame t).inst = (0 : Int) ∧ (tame t).side = (0 : Int) ∧ (tame t).price = IntKind.i64.wrap (t.p.tick * within i_6.n i_6.lo i_6.hi) ∧ (tame t).qty = IntKind.i64.wrap ((1 : Int) + within i_5.n i_5.lo i_5.hi) ∧ (tame t).least = i.least ∧ (tame t).time = i.time ∧ sb (tame t).label = sb i.label ∧ True))
theorem eqtame (t : TmI) : Vtame t = walk Tryd.prog ([(8, withinC), (23, r5countC), (24, r5legsC)]) 0 (tameJ) ([]) [] Tryd.f15 (Tryd.f15.body.getD .skip) (tameC.pat t) (tameC.pre t) (tameC.alts t) := by kernel_rfl

theorem bytame (hG : GOk Tryd.prog ([(8, withinC), (23, r5countC), (24, r5legsC)])) (h : ∀ (t : TmI), tameC.cnd t → Vtame t) : tameC.ok Tryd.prog 15 := ok_of_walk mixed ([(8, withinC), (23, r5countC), (24, r5legsC)]) hG 0 (fun (t : TmI) => tameJ) (fun (t : TmI) => []) [] Tryd.func15 (by kernel_rfl) (by kernel_rfl) (by kernel_rfl) (fun _ => by kernel_rfl) (fun (t : TmI) hc => Eq.mp (eqtame t) (h t hc))

end Sx

namespace Sx
set_option linter.unusedVariables false
set_option linter.unusedSimpArgs false
set_option maxRecDepth 100000
open Go Cv Go.Proofs

theorem getD_of {α : Type} {l : List α} {i : Nat} {x d : α} (h : l[i]? = some x) : l.getD i d = x := by rw [List.getD_eq_getElem?_getD, h]; rfl

theorem vr3prod (s : List UInt8) (h : r3prodC.cnd s) : Vr3prod s := by
  have h : s.length ≤ 1099511627776 := h
  have hr := runes_len s
  unfold Vr3prod
  refine ⟨(0, 0), rfl, rfl, rfl, fun x => x.1 ≤ s.length ∧ x.2 + (runesP s x.1).length = (runes s).length ∧ (runes s).all great = ((runesP s x.1).all fun y => great y.2), fun x => s.length - x.1, ⟨by omega, by rw [runes, List.length_map]; simp, by rw [runes, List.all_map]; rfl⟩, ?_⟩
  rintro ⟨p, n⟩ ⟨h1, h2, h3⟩
  dsimp only at h1 h2 h3 ⊢
  refine Cv.cnd.mk (fun hp => ?_) (fun hp => ?_)
  · have hp : p < s.length := by simpa [Nat.blt_eq] using hp
    have hw := decode_w s hp
    rw [runesP_step hp, List.length_cons] at h2
    rw [runesP_step hp, List.all_cons] at h3
    generalize hc : (Utf8.decode (sb s) p).1 = c at h2 h3 ⊢
    generalize hww : (Utf8.decode (sb s) p).2 = w at h2 h3 hw ⊢
    dsimp only at h3
    have g0 : ∀ b : Bool, (b = true → great c = true) → (b = false → great c = false) → b = great c := fun b e1 e2 => by cases b <;> simp_all
    refine ⟨true, fun b => b = !great c, ?_, fun b hb => ?_⟩
    · refine cndD (fun c1 => cndD (fun c2 => ⟨_, rfl, ?_, by (repeat' (first | exact trivial | exact rfl | apply And.intro))⟩) (fun c2 => cndD (fun c3 => cndD (fun c4 => ⟨_, rfl, ?_, by (repeat' (first | exact trivial | exact rfl | apply And.intro))⟩) (fun c4 => ⟨_, rfl, ?_, by (repeat' (first | exact trivial | exact rfl | apply And.intro))⟩)) (fun c3 => ⟨_, rfl, ?_, by (repeat' (first | exact trivial | exact rfl | apply And.intro))⟩))) (fun c1 => cndD (fun c3 => cndD (fun c4 => ⟨_, rfl, ?_, by (repeat' (first | exact trivial | exact rfl | apply And.intro))⟩) (fun c4 => ⟨_, rfl, ?_, by (repeat' (first | exact trivial | exact rfl | apply And.intro))⟩)) (fun c3 => ⟨_, rfl, ?_, by (repeat' (first | exact trivial | exact rfl | apply And.intro))⟩))
      all_goals congr 1
      all_goals refine g0 _ (fun e => ?_) (fun e => ?_)
      all_goals first | (simp [great] at *; done) | (simp [great] at *; omega)
    · subst hb
      refine Cv.cnd.mk (fun e => ⟨(), ?_, trivial⟩) (fun e => ⟨(p + w, n + 1), ?_, rfl, rfl, ⟨hw.2, by (first | omega | (dsimp only; omega)), ?_⟩, by (first | omega | (dsimp only; omega)), trivial⟩)
      · have e : great c = false := by simpa using e
        rw [symOk, h3, e]; rfl
      · rw [w64 (by omega)]; rfl
      · have e : great c = true := by simpa using e
        rw [h3, e]; rfl
  · have hp : s.length ≤ p := by have := blt_f hp; simpa using this
    rw [runesP_end hp] at h2 h3
    have h3 : (runes s).all great = true := h3
    have hn : n = (runes s).length := by simpa using h2
    have hne : (s = []) ↔ (runes s).length = 0 := by
      constructor
      · intro e; subst e; rfl
      · intro e
        cases s with
        | nil => rfl
        | cons b l =>
          rw [runes, List.length_map, runesP_step (by simp)] at e
          simp at e
    refine cndD (fun c => ⟨(), ?_, trivial⟩) (fun c => ⟨(), ?_, trivial⟩)
    · have : ¬ s = [] := by rw [hne]; omega
      rw [symOk, h3, decide_eq_true this, hn]
      simp only [Bool.true_and]
      congr 1
      simp only [eq_iff_iff]; omega
    · have : s = [] := by rw [hne]; omega
      rw [symOk, this]; rfl
theorem r3prod_ok : r3prodC.ok Tryd.prog 51 := byr3prod gok0 vr3prod

/-! ### Least and greatest -/
theorem foldl_min_le : ∀ (l : List Int) (a : Int), l.foldl min a ≤ a ∧ ∀ x ∈ l, l.foldl min a ≤ x
  | [], a => ⟨Int.le_refl _, by simp⟩
  | b :: l, a => by
    obtain ⟨h1, h2⟩ := foldl_min_le l (min a b)
    rw [List.foldl_cons]
    refine ⟨by omega, fun x hx => ?_⟩
    rcases List.mem_cons.1 hx with rfl | hx
    · omega
    · exact h2 x hx
theorem foldl_max_le : ∀ (l : List Int) (a : Int), a ≤ l.foldl max a ∧ ∀ x ∈ l, x ≤ l.foldl max a
  | [], a => ⟨Int.le_refl _, by simp⟩
  | b :: l, a => by
    obtain ⟨h1, h2⟩ := foldl_max_le l (max a b)
    rw [List.foldl_cons]
    refine ⟨by omega, fun x hx => ?_⟩
    rcases List.mem_cons.1 hx with rfl | hx
    · omega
    · exact h2 x hx
theorem foldl_min_mem : ∀ (l : List Int) (a : Int), l.foldl min a = a ∨ l.foldl min a ∈ l
  | [], a => .inl rfl
  | b :: l, a => by
    rw [List.foldl_cons]
    rcases foldl_min_mem l (min a b) with h | h
    · rcases Int.le_total a b with e | e
      · left; rw [h]; omega
      · right; rw [h, show min a b = b by omega]; exact List.mem_cons_self
    · exact .inr (List.mem_cons_of_mem _ h)
theorem foldl_max_mem : ∀ (l : List Int) (a : Int), l.foldl max a = a ∨ l.foldl max a ∈ l
  | [], a => .inl rfl
  | b :: l, a => by
    rw [List.foldl_cons]
    rcases foldl_max_mem l (max a b) with h | h
    · rcases Int.le_total a b with e | e
      · right; rw [h, show max a b = b by omega]; exact List.mem_cons_self
      · left; rw [h]; omega
    · exact .inr (List.mem_cons_of_mem _ h)
theorem minL_le {l : List Int} {x : Int} (h : x ∈ l) : minL l ≤ x := by
  cases l with
  | nil => cases h
  | cons a l =>
    rw [minL, List.tail_cons, List.headD_cons]
    rcases List.mem_cons.1 h with rfl | h
    · exact (foldl_min_le l x).1
    · exact (foldl_min_le l a).2 x h
theorem le_maxL {l : List Int} {x : Int} (h : x ∈ l) : x ≤ maxL l := by
  cases l with
  | nil => cases h
  | cons a l =>
    rw [maxL, List.tail_cons, List.headD_cons]
    rcases List.mem_cons.1 h with rfl | h
    · exact (foldl_max_le l x).1
    · exact (foldl_max_le l a).2 x h
theorem minL_mem {l : List Int} (h : l ≠ []) : minL l ∈ l := by
  cases l with
  | nil => exact absurd rfl h
  | cons a l =>
    rw [minL, List.tail_cons, List.headD_cons]
    rcases foldl_min_mem l a with h | h
    · rw [h]; exact List.mem_cons_self
    · exact List.mem_cons_of_mem _ h
theorem maxL_mem {l : List Int} (h : l ≠ []) : maxL l ∈ l := by
  cases l with
  | nil => exact absurd rfl h
  | cons a l =>
    rw [maxL, List.tail_cons, List.headD_cons]
    rcases foldl_max_mem l a with h | h
    · rw [h]; exact List.mem_cons_self
    · exact List.mem_cons_of_mem _ h

theorem vr5check (p : Prd) (h : r5checkC.cnd p) : Vr5check p := by
  obtain ⟨h1, h2, h3⟩ : p.small := h
  unfold Vr5check
  simp only [iE_len]
  refine ⟨p.code, rfl, h1, fun _ _ => Cv.cnd.mk (fun c1 => ⟨(), by rw [Prd.check, if_pos c1], trivial⟩) fun c1 => ?_⟩
  have c1 : symOk p.code = true := by simpa using c1
  have e1 : p.check = if !monthsOk p.months then 1 else if !ticksOk p then 22 else if bandBad p then 23 else if settleBad p then 1 else if ruleBad p then 31 else if qtyBad p then 24 else 0 := by
    rw [Prd.check, if_neg (by simp [c1])]
  refine ⟨true, fun b => b = (decide (p.months.length < 2) || decide (p.months.length > 6)), cndD (fun c => ⟨true, rfl, ?_, by (repeat' (first | exact trivial | exact rfl | apply And.intro))⟩) (fun c => ⟨_, rfl, ?_, by (repeat' (first | exact trivial | exact rfl | apply And.intro))⟩), fun b hb => ?_⟩
  · rw [decide_eq_true (show p.months.length < 2 by omega)]; rfl
  · rw [decide_eq_false (show ¬ p.months.length < 2 by omega), Bool.false_or]
    congr 1; simp only [eq_iff_iff]; omega
  subst hb
  refine Cv.cnd.mk (fun c2 => ?_) (fun c2 => ?_)
  · have : monthsOk p.months = false := by
      simp only [Bool.or_eq_true, decide_eq_true_eq] at c2
      rw [monthsOk]
      rcases c2 with c2 | c2
      · rw [decide_eq_false (show ¬ 2 ≤ p.months.length by omega)]; simp
      · rw [decide_eq_false (show ¬ p.months.length ≤ 6 by omega)]; simp
    exact ⟨(), by rw [e1, if_pos (by rw [this]; rfl)], trivial⟩
  have c2 : 2 ≤ p.months.length ∧ p.months.length ≤ 6 := by
    simp only [Bool.or_eq_false_iff, decide_eq_false_iff_not] at c2; omega
  have em : monthsOk p.months = (List.range p.months.length).all (monthAt p.months) := by
    rw [monthsOk, decide_eq_true c2.1, decide_eq_true c2.2]; simp
  refine ⟨0, rfl, fun j => j ≤ p.months.length ∧ ∀ k < j, monthAt p.months k = true, fun j => p.months.length - j, ⟨by omega, fun k hk => by omega⟩, ?_⟩
  rintro j ⟨g1, g2⟩
  refine cndD (fun hj => ?_) (fun hj => ?_)
  · obtain ⟨m, hm⟩ := getI (l := p.months) (i := j) (by omega)
    have hmj : p.months.getD j 0 = m := getD_of hm
    refine ⟨true, fun b => b = !monthAt p.months j, ⟨⟨by omega, by omega⟩, m, elI hm, cndD (fun c => ⟨true, rfl, ?_, by (repeat' (first | exact trivial | exact rfl | apply And.intro))⟩) (fun c => ⟨⟨by omega, by omega⟩, m, elI hm, cndD (fun d => ⟨true, rfl, ?_, by (repeat' (first | exact trivial | exact rfl | apply And.intro))⟩) (fun d => cndD (fun e => ?_) (fun e => ⟨false, rfl, ?_, by (repeat' (first | exact trivial | exact rfl | apply And.intro))⟩))⟩)⟩, fun b hb => ?_⟩
    · rw [monthAt, hmj, decide_eq_false (show ¬ 0 ≤ m by omega)]; rfl
    · rw [monthAt, hmj, decide_eq_false (show ¬ m ≤ 1199 by omega)]; simp
    · obtain ⟨m', hm'⟩ := getI (l := p.months) (i := j - 1) (by omega)
      rw [w64 (by omega), show ((j : Int) - 1).toNat = j - 1 by omega]
      refine ⟨⟨by omega, by omega⟩, m', elI hm', ⟨by omega, by omega⟩, m, elI hm, _, rfl, ?_, by (repeat' (first | exact trivial | exact rfl | apply And.intro))⟩
      rw [monthAt, hmj, getD_of hm', decide_eq_true (show 0 ≤ m by omega), decide_eq_true (show m ≤ 1199 by omega), decide_eq_false (show ¬ j = 0 by omega)]
      simp only [Bool.true_and, Bool.false_or]
      by_cases hlt : m' < m
      · rw [decide_eq_true hlt, decide_eq_false (by omega)]; rfl
      · rw [decide_eq_false hlt, decide_eq_true (by omega)]; rfl
    · rw [monthAt, hmj, decide_eq_true (show 0 ≤ m by omega), decide_eq_true (show m ≤ 1199 by omega), decide_eq_true (show j = 0 by omega)]; rfl
    · subst hb
      refine Cv.cnd.mk (fun c => ⟨(), ?_, trivial⟩) (fun c => ⟨j + 1, by rw [w64 (by omega)]; rfl, ⟨by omega, fun k hk => ?_⟩, by (first | omega | (dsimp only; omega)), by (repeat' (first | exact trivial | exact rfl | apply And.intro))⟩)
      · have c : monthAt p.months j = false := by simpa using c
        rw [e1, if_pos (by rw [em, all_false (k := j) (by omega) c]; rfl)]
      · have c : monthAt p.months j = true := by simpa using c
        rcases Nat.lt_or_ge k j with h | h
        · exact g2 k h
        · obtain rfl : k = j := by omega
          exact c
  have em : monthsOk p.months = true := by rw [em]; exact all_true fun k hk => g2 k (by omega)
  have e2 : p.check = if !ticksOk p then 22 else if bandBad p then 23 else if settleBad p then 1 else if ruleBad p then 31 else if qtyBad p then 24 else 0 := by
    rw [e1, if_neg (by simp [em])]
  have et : ticksOk p = ((decide (1 ≤ p.tick) && decide (p.tick ≤ 1000) && !offB p.tick p.low && !offB p.tick p.high && !offB p.tick p.wide) && !p.settle.any (offB p.tick)) := rfl
  refine ⟨true, fun b => b = !(decide (1 ≤ p.tick) && decide (p.tick ≤ 1000) && !offB p.tick p.low && !offB p.tick p.high && !offB p.tick p.wide), cndD (fun d1 => ⟨true, rfl, ?_, by (repeat' (first | exact trivial | exact rfl | apply And.intro))⟩) (fun d1 => cndD (fun d2 => ⟨true, rfl, ?_, by (repeat' (first | exact trivial | exact rfl | apply And.intro))⟩) (fun d2 => ⟨trivial, by omega, Cv.cnd.mk (fun d3 => ⟨true, rfl, ?_, by (repeat' (first | exact trivial | exact rfl | apply And.intro))⟩) (fun d3 => ⟨trivial, by omega, Cv.cnd.mk (fun d4 => ⟨true, rfl, ?_, by (repeat' (first | exact trivial | exact rfl | apply And.intro))⟩) (fun d4 => ⟨trivial, by omega, _, rfl, ?_, by (repeat' (first | exact trivial | exact rfl | apply And.intro))⟩)⟩)⟩)), fun b hb => ?_⟩
  · rw [decide_eq_false (show ¬ 1 ≤ p.tick by omega)]; rfl
  · rw [decide_eq_false (show ¬ p.tick ≤ 1000 by omega)]; simp
  · have d3 : offB p.tick p.low = true := d3
    rw [d3]; simp
  · have d4 : offB p.tick p.high = true := d4
    rw [d4]; simp
  · have d3 : offB p.tick p.low = false := d3
    have d4 : offB p.tick p.high = false := d4
    rw [d3, d4, decide_eq_true (show 1 ≤ p.tick by omega), decide_eq_true (show p.tick ≤ 1000 by omega)]
    show offB p.tick p.wide = _
    simp
  subst hb
  refine Cv.cnd.mk (fun c3 => ?_) (fun c3 => ?_)
  · have c3 : (decide (1 ≤ p.tick) && decide (p.tick ≤ 1000) && !offB p.tick p.low && !offB p.tick p.high && !offB p.tick p.wide) = false := by
      rw [Bool.not_eq_true'] at c3
      exact c3
    exact ⟨(), by rw [e2, if_pos (by rw [et, c3]; rfl)], trivial⟩
  have c3 : (decide (1 ≤ p.tick) && decide (p.tick ≤ 1000) && !offB p.tick p.low && !offB p.tick p.high && !offB p.tick p.wide) = true := by simpa using c3
  have ht1 : 1 ≤ p.tick := by
    simp only [Bool.and_eq_true, decide_eq_true_eq] at c3; exact c3.1.1.1.1
  rw [c3, Bool.true_and] at et
  refine ⟨0, rfl, fun j => j ≤ p.settle.length ∧ ∀ k < j, ∀ x, p.settle[k]? = some x → offB p.tick x = false, fun j => p.settle.length - j, ⟨by omega, fun k hk => by omega⟩, ?_⟩
  rintro j ⟨g1, g2⟩
  refine cndD (fun hj => ?_) (fun hj => ?_)
  · obtain ⟨m, hm⟩ := getI (l := p.settle) (i := j) (by omega)
    refine ⟨⟨by omega, by omega⟩, m, elI hm, trivial, by omega, Cv.cnd.mk (fun c => ⟨(), ?_, trivial⟩) (fun c => ⟨j + 1, by rw [w64 (by omega)]; rfl, ⟨by omega, fun k hk x hx => ?_⟩, by (first | omega | (dsimp only; omega)), by (repeat' (first | exact trivial | exact rfl | apply And.intro))⟩)⟩
    · have c : offB p.tick m = true := c
      have : p.settle.any (offB p.tick) = true := by rw [List.any_eq_true]; exact ⟨m, List.mem_of_getElem? hm, c⟩
      rw [e2, if_pos (by rw [et, this]; rfl)]
    · rcases Nat.lt_or_ge k j with h | h
      · exact g2 k h x hx
      · obtain rfl : k = j := by omega
        rw [hm] at hx; cases hx; exact c
  have et : ticksOk p = true := by
    rw [et]
    have : p.settle.any (offB p.tick) = false := by
      rw [List.any_eq_false]
      intro x hx
      obtain ⟨k, hk⟩ := List.getElem?_of_mem hx
      rw [g2 k (by have := (List.getElem?_eq_some_iff.1 hk).1; omega) x hk]; simp
    rw [this]; rfl
  have e3 : p.check = if bandBad p then 23 else if settleBad p then 1 else if ruleBad p then 31 else if qtyBad p then 24 else 0 := by
    rw [e2, if_neg (by simp [et])]
  refine ⟨true, fun b => b = bandBad p, cndD (fun d1 => ⟨true, rfl, ?_, by (repeat' (first | exact trivial | exact rfl | apply And.intro))⟩) (fun d1 => cndD (fun d2 => ⟨true, rfl, ?_, by (repeat' (first | exact trivial | exact rfl | apply And.intro))⟩) (fun d2 => cndD (fun d3 => ⟨true, rfl, ?_, by (repeat' (first | exact trivial | exact rfl | apply And.intro))⟩) (fun d3 => cndD (fun d4 => ⟨true, rfl, ?_, by (repeat' (first | exact trivial | exact rfl | apply And.intro))⟩) (fun d4 => ⟨_, rfl, ?_, by (repeat' (first | exact trivial | exact rfl | apply And.intro))⟩)))), fun b hb => ?_⟩
  · simp [bandBad, d1]
  · simp [bandBad, d2]
  · simp [bandBad, d3]
  · simp [bandBad, d4]
  · rw [w64 (by omega)]; simp [bandBad, d1, d2, d3, d4]
  subst hb
  refine Cv.cnd.mk (fun c4 => ⟨(), by rw [e3, if_pos c4], trivial⟩) (fun c4 => ?_)
  have e4 : p.check = if settleBad p then 1 else if ruleBad p then 31 else if qtyBad p then 24 else 0 := by
    rw [e3, if_neg (by simp [c4])]
  refine Cv.cnd.mk (fun d6 => ⟨(), ?_, trivial⟩) (fun d6 => ?_)
  · have d6 : ¬ (p.settle.length : Int) = p.months.length := by simpa using d6
    rw [e4, if_pos (by simp [settleBad]; omega)]
  have d6 : p.settle.length = p.months.length := by
    have : (p.settle.length : Int) = p.months.length := by simpa using d6
    omega
  have hne : p.settle ≠ [] := by intro e; rw [e] at d6; simp at d6; omega
  refine ⟨0, rfl, fun j => j ≤ p.settle.length ∧ ∀ k < j, ∀ x, p.settle[k]? = some x → p.low ≤ x ∧ x ≤ p.high, fun j => p.settle.length - j, ⟨by omega, fun k hk => by omega⟩, ?_⟩
  rintro j ⟨g3, g4⟩
  refine cndD (fun hj => ?_) (fun hj => ?_)
  · obtain ⟨m, hm⟩ := getI (l := p.settle) (i := j) (by omega)
    have hmm := List.mem_of_getElem? hm
    refine ⟨true, fun b => b = (decide (m < p.low) || decide (m > p.high)), ⟨⟨by omega, by omega⟩, m, elI hm, cndD (fun c => ⟨true, rfl, ?_, by (repeat' (first | exact trivial | exact rfl | apply And.intro))⟩) (fun c => ⟨⟨by omega, by omega⟩, m, elI hm, _, rfl, ?_, by (repeat' (first | exact trivial | exact rfl | apply And.intro))⟩)⟩, fun b hb => ?_⟩
    · rw [decide_eq_true c]; rfl
    · rw [decide_eq_false c, Bool.false_or]
    · subst hb
      refine Cv.cnd.mk (fun c => ⟨(), ?_, trivial⟩) (fun c => ⟨j + 1, by rw [w64 (by omega)]; rfl, ⟨by omega, fun k hk x hx => ?_⟩, by (first | omega | (dsimp only; omega)), by (repeat' (first | exact trivial | exact rfl | apply And.intro))⟩)
      · have l1 := minL_le hmm
        have l2 := le_maxL hmm
        rw [e4, if_pos (by
          simp only [Bool.or_eq_true, decide_eq_true_eq] at c
          simp only [settleBad, Bool.or_eq_true, decide_eq_true_eq]
          rcases c with c | c
          · left; right; omega
          · right; omega)]
      · rcases Nat.lt_or_ge k j with h | h
        · exact g4 k h x hx
        · obtain rfl : k = j := by omega
          rw [hm] at hx; cases hx
          simp only [Bool.or_eq_false_iff, decide_eq_false_iff_not] at c
          omega
  have hset : settleBad p = false := by
    have all : ∀ x ∈ p.settle, p.low ≤ x ∧ x ≤ p.high := fun x hx => by
      obtain ⟨k, hk⟩ := List.getElem?_of_mem hx
      exact g4 k (by have := (List.getElem?_eq_some_iff.1 hk).1; omega) x hk
    have a1 := all _ (minL_mem hne)
    have a2 := all _ (maxL_mem hne)
    simp only [settleBad, Bool.or_eq_false_iff, decide_eq_false_iff_not]
    omega
  have e5 : p.check = if ruleBad p then 31 else if qtyBad p then 24 else 0 := by
    rw [e4, if_neg (by simp [hset])]
  refine ⟨true, fun b => b = ruleBad p, cndD (fun d1 => ⟨true, rfl, ?_, by (repeat' (first | exact trivial | exact rfl | apply And.intro))⟩) (fun d1 => ⟨_, rfl, ?_, by (repeat' (first | exact trivial | exact rfl | apply And.intro))⟩), fun b hb => ?_⟩
  · simp [ruleBad, d1]
  · simp [ruleBad, d1]
  subst hb
  refine Cv.cnd.mk (fun c6 => ⟨(), by rw [e5, if_pos c6], trivial⟩) (fun c6 => ?_)
  have e6 : p.check = if qtyBad p then 24 else 0 := by rw [e5, if_neg (by simp [c6])]
  refine ⟨true, fun b => b = qtyBad p, cndD (fun d1 => ⟨true, rfl, ?_, by (repeat' (first | exact trivial | exact rfl | apply And.intro))⟩) (fun d1 => cndD (fun d2 => ⟨true, rfl, ?_, by (repeat' (first | exact trivial | exact rfl | apply And.intro))⟩) (fun d2 => cndD (fun d3 => ⟨true, rfl, ?_, by (repeat' (first | exact trivial | exact rfl | apply And.intro))⟩) (fun d3 => cndD (fun d4 => ⟨true, rfl, ?_, by (repeat' (first | exact trivial | exact rfl | apply And.intro))⟩) (fun d4 => cndD (fun d5 => ⟨true, rfl, ?_, by (repeat' (first | exact trivial | exact rfl | apply And.intro))⟩) (fun d5 => ⟨_, rfl, ?_, by (repeat' (first | exact trivial | exact rfl | apply And.intro))⟩))))), fun b hb => ?_⟩
  · simp [qtyBad, d1]
  · simp [qtyBad, d2]
  · simp [qtyBad, d3]
  · simp [qtyBad, d4]
  · simp [qtyBad, d5]
  · simp [qtyBad, d1, d2, d3, d4, d5]
  subst hb
  exact Cv.cnd.mk (fun c7 => ⟨(), by rw [e6, if_pos c7], trivial⟩) (fun c7 => ⟨(), by rw [e6, if_neg (by simp [c7])], trivial⟩)
theorem r5check_ok : r5checkC.ok Tryd.prog 38 := byr5check (gokc r3prod_ok gok0) vr5check

theorem count_def {p : Prd} (h : p.check = 0) : p.count = p.months.length + p.months.length * (p.months.length - 1) / 2 := by rw [Prd.count, if_pos h]
theorem count_zero {p : Prd} (h : p.check ≠ 0) : p.count = 0 := by rw [Prd.count, if_neg h]
theorem vr5count (p : Prd) (h : r5countC.cnd p) : Vr5count p := by
  have hs : p.small := h
  unfold Vr5count
  simp only [iE_len]
  refine ⟨p, rfl, rfl, rfl, rfl, rfl, rfl, rfl, rfl, rfl, rfl, rfl, hs, fun _ _ => Cv.cnd.mk (fun c => ⟨(), ?_, trivial⟩) (fun c => ⟨trivial, by decide, (), ?_, trivial⟩)⟩
  · rw [count_zero (by simpa using c)]; rfl
  · have c : p.check = 0 := by simpa using c
    have m6 := (check0 c).m6
    have m2 := (check0 c).m2
    rw [count_def c]
    generalize p.months.length = n at *
    have : n = 2 ∨ n = 3 ∨ n = 4 ∨ n = 5 ∨ n = 6 := by omega
    rcases this with rfl | rfl | rfl | rfl | rfl <;> decide
theorem r5count_ok : r5countC.ok Tryd.prog 23 := byr5count (gokc r5check_ok gok0) vr5count

theorem legs_fin : ∀ n ≤ 6, ∀ a < n, ∀ b < n - 1 - a, legsFrom n (firstOf n a + b) n 0 = ((a : Int), ((a + 1 + b : Nat) : Int), true) ∧ firstOf n a + b < n + n * (n - 1) / 2 ∧ n ≤ firstOf n a + b := by decide
theorem first_fin : ∀ n ≤ 6, firstOf n n = n + n * (n - 1) / 2 := by decide
theorem legs_sp {p : Prd} (h : p.check = 0) {a b : Nat} (ha : a < p.months.length) (hb : b < p.months.length - 1 - a) : p.legs ((firstOf p.months.length a + b : Nat) : Int) = ((a : Int), ((a + 1 + b : Nat) : Int), true) := by
  obtain ⟨h1, h2, h3⟩ := legs_fin _ (check0 h).m6 a ha b hb
  rw [Prd.legs, if_neg (by rw [count_def h]; omega), if_neg (by omega), Int.toNat_natCast]
  exact h1
theorem vr5legs (i : LegI) (h : r5legsC.cnd i) : Vr5legs i := by
  have hs : i.p.small := h
  unfold Vr5legs
  simp only [iE_len]
  refine ⟨i.p, rfl, rfl, rfl, rfl, rfl, rfl, rfl, rfl, rfl, rfl, rfl, hs, fun _ _ => Cv.cnd.mk (fun c => ?_) (fun c => cndD (fun c1 => ?_) (fun c1 => cndD (fun c2 => ?_) (fun c2 => ?_)))⟩
  · rw [Prd.legs, if_pos (by rw [count_zero (by simpa using c)]; omega)]; (repeat' (first | exact rfl | exact trivial | assumption | apply And.intro | (refine fun (_ : Unit) (_ : True) => ?_) | (refine Exists.intro () ?_) | omega | (dsimp only; omega)))
  · rw [Prd.legs, if_pos (.inl c1)]; (repeat' (first | exact rfl | exact trivial | assumption | apply And.intro | (refine fun (_ : Unit) (_ : True) => ?_) | (refine Exists.intro () ?_) | omega | (dsimp only; omega)))
  · have c : i.p.check = 0 := by simpa using c
    rw [Prd.legs, if_neg (by rw [count_def c]; omega), if_pos c2]; (repeat' (first | exact rfl | exact trivial | assumption | apply And.intro | (refine fun (_ : Unit) (_ : True) => ?_) | (refine Exists.intro () ?_) | omega | (dsimp only; omega)))
  · have c : i.p.check = 0 := by simpa using c
    have m6 := (check0 c).m6
    obtain ⟨k, hk⟩ : ∃ k : Nat, i.n = k := ⟨i.n.toNat, by omega⟩
    have sp := fun (a b : Nat) ha hb => legs_sp (p := i.p) c (a := a) (b := b) ha hb
    have fe := first_fin _ m6
    have out : i.p.count ≤ k → i.p.legs (k : Int) = (0, 0, false) := fun e => by rw [Prd.legs, if_pos (by omega)]
    rw [count_def c, ← fe] at out
    rw [hk] at c2 ⊢
    generalize hn : i.p.months.length = n at *
    refine ⟨0, rfl, rfl, fun m => m ≤ n ∧ firstOf n m ≤ k, fun m => n - m, ⟨by omega, by show n ≤ k; omega⟩, ?_⟩
    rintro m ⟨g1, g2⟩
    have hf := first_bd m6 g1
    refine cndD (fun c4 => ?_) (fun c4 => ?_)
    · refine ⟨(m, 0), rfl, rfl, by rw [w64 (by omega)]; simp, fun x => x.1 = m ∧ x.2 ≤ n - 1 - m ∧ firstOf n m + x.2 ≤ k, fun x => n - 1 - m - x.2, ⟨rfl, by (first | omega | (dsimp only; omega)), by (first | omega | (dsimp only; omega))⟩, ?_⟩
      rintro ⟨a, b⟩ ⟨g3, g4, g5⟩
      dsimp only at g3 g4 g5 ⊢
      subst g3
      refine cndD (fun c5 => Cv.cnd.mk (fun e => ?_) (fun e => ?_)) (fun c5 => ?_)
      · have e : ((firstOf n a + b : Nat) : Int) = (k : Int) := by simpa using e
        have := sp a b (by omega) (by omega)
        rw [e] at this
        rw [this]; (repeat' (first | exact rfl | exact trivial | assumption | apply And.intro | (refine fun (_ : Unit) (_ : True) => ?_) | (refine Exists.intro () ?_) | omega | (dsimp only; omega)))
      · have e : ¬ ((firstOf n a + b : Nat) : Int) = (k : Int) := by simpa using e
        refine ⟨(a, b + 1), ?_, rfl, ?_, ⟨rfl, by (first | omega | (dsimp only; omega)), by (first | omega | (dsimp only; omega))⟩, by (first | omega | (dsimp only; omega)), by (repeat' (first | exact trivial | exact rfl | apply And.intro))⟩
        · rw [w64 (by omega)]; dsimp only; omega
        · rw [w64 (by omega)]; dsimp only; omega
      · refine ⟨a + 1, ?_, by rw [w64 (by omega)]; rfl, ⟨by omega, ?_⟩, by (first | omega | (dsimp only; omega)), by (repeat' (first | exact trivial | exact rfl | apply And.intro))⟩
        · rw [firstOf]; omega
        · rw [firstOf]; omega
    · obtain rfl : m = n := by omega
      rw [out g2]; (repeat' (first | exact rfl | exact trivial | assumption | apply And.intro | (refine fun (_ : Unit) (_ : True) => ?_) | (refine Exists.intro () ?_) | omega | (dsimp only; omega)))
theorem r5legs_ok : r5legsC.ok Tryd.prog 24 := byr5legs (gokc r5check_ok gok0) vr5legs

/-! ### A right product -/
theorem kTick_bd (x : Prd) : 1 ≤ kTick x ∧ kTick x ≤ 10 := by
  have := within_bd (n := x.tick) (lo := 0) (hi := 9) (by omega)
  rw [kTick]; omega
theorem kN_bd (x : Prd) : 2 ≤ kN x ∧ kN x ≤ 5 := by
  have := within_bd (n := (x.months.length : Int)) (lo := 0) (hi := 3) (by omega)
  rw [kN]; omega
theorem mul_bd {a b m n : Int} (ha : 0 ≤ a ∧ a ≤ m) (hb : 0 ≤ b ∧ b ≤ n) : 0 ≤ a * b ∧ a * b ≤ m * n := by
  refine ⟨Int.mul_nonneg ha.1 hb.1, ?_⟩
  exact Int.le_trans (Int.mul_le_mul_of_nonneg_right ha.2 hb.1) (Int.mul_le_mul_of_nonneg_left hb.2 (by omega))
theorem kMonths_succ (j : Nat) : iE (kMonths (j + 1)) = iE (kMonths j) ++ [[D.v (.int .i64 (10 * (j : Int) + 3))]] := by
  rw [kMonths, List.range_succ, List.map_append, iE, List.map_append]; rfl
theorem kSettle_succ (t : Int) (j : Nat) : iE (kSettle t (j + 1)) = iE (kSettle t j) ++ [[D.v (.int .i64 (t * (10 + (j : Int))))]] := by
  rw [kSettle, List.range_succ, List.map_append, iE, List.map_append]; rfl
theorem kMonths_len (j : Nat) : (kMonths j).length = j := by simp [kMonths]
theorem kSettle_len (t : Int) (j : Nat) : (kSettle t j).length = j := by simp [kSettle]

theorem vkprod (x : Prd) (h : kprodC.cnd x) : Vkprod x := by
  obtain ⟨h1, h2, h3, h4, h5, h6, h7⟩ : x.raw := h
  have hw : -1000000 ≤ (0 : Int) := by decide
  have bt := within_bd (n := x.tick) (lo := 0) (hi := 9) (by omega)
  have bw := within_bd (n := x.wide) (lo := 0) (hi := 60) (by omega)
  have br := within_bd (n := x.rule) (lo := 0) (hi := 2) (by omega)
  have bl := within_bd (n := x.least) (lo := 0) (hi := 4) (by omega)
  have bn := within_bd (n := (x.months.length : Int)) (lo := 0) (hi := 3) (by omega)
  have kt := kTick_bd x
  have kn := kN_bd x
  have w1 : IntKind.i64.wrap (1 + within x.tick 0 9) = kTick x := w64 (by omega)
  have w2 : IntKind.i64.wrap (-20 * IntKind.i64.wrap (1 + within x.tick 0 9)) = -20 * kTick x := by rw [w1]; exact w64 (by omega)
  have w3 : IntKind.i64.wrap (100 * IntKind.i64.wrap (1 + within x.tick 0 9)) = 100 * kTick x := by rw [w1]; exact w64 (by omega)
  have w4 : IntKind.i64.wrap (1 + within x.rule 0 2) = 1 + within x.rule 0 2 := w64 (by omega)
  have w5 : IntKind.i64.wrap (1 + within x.least 0 4) = 1 + within x.least 0 4 := w64 (by omega)
  have w6 : IntKind.i64.wrap (2 + within x.months.length 0 3) = kN x := w64 (by omega)
  have mb := mul_bd (a := kTick x) (b := 5 + within x.wide 0 60) (m := 10) (n := 65) (by omega) (by omega)
  have w7 : IntKind.i64.wrap (IntKind.i64.wrap (1 + within x.tick 0 9) * IntKind.i64.wrap (5 + within x.wide 0 60)) = kTick x * (5 + within x.wide 0 60) := by
    rw [w1, w64 (x := 5 + within x.wide 0 60) (by omega)]; exact w64 (by omega)
  unfold Vkprod
  simp only [iE_len]
  refine ⟨⟨x.months.length, 0, 3⟩, rfl, rfl, rfl, ⟨⟨by dsimp only; omega, by dsimp only; omega⟩, by dsimp only; omega, by dsimp only; omega, by dsimp only; omega⟩, fun _ _ => ⟨⟨x.tick, 0, 9⟩, rfl, rfl, rfl, ⟨h1, by dsimp only; omega, by dsimp only; omega, by dsimp only; omega⟩, fun _ _ => ?_⟩⟩
  dsimp only
  refine ⟨(), fun _ => True, ?_, fun _ _ => ?_⟩
  · repeat' (first | exact trivial | exact rfl | exact w1.symm | exact w2.symm | exact w3.symm | exact w4.symm | exact w5.symm | apply And.intro | refine ⟨⟨x.rule, 0, 2⟩, rfl, rfl, rfl, ⟨h3, by dsimp only; omega, by dsimp only; omega, by dsimp only; omega⟩, fun _ _ => ?_⟩ | refine ⟨⟨x.top, 0, 9⟩, rfl, rfl, rfl, ⟨h4, by dsimp only; omega, by dsimp only; omega, by dsimp only; omega⟩, fun _ _ => ?_⟩ | refine ⟨⟨x.least, 0, 4⟩, rfl, rfl, rfl, ⟨h5, by dsimp only; omega, by dsimp only; omega, by dsimp only; omega⟩, fun _ _ => ?_⟩ | refine ⟨⟨x.part, 0, 100⟩, rfl, rfl, rfl, ⟨h6, by dsimp only; omega, by dsimp only; omega, by dsimp only; omega⟩, fun _ _ => ?_⟩ | refine ⟨(), ?_⟩)
  · refine ⟨⟨x.wide, 0, 60⟩, rfl, rfl, rfl, ⟨h2, by dsimp only; omega, by dsimp only; omega, by dsimp only; omega⟩, fun _ _ => ?_⟩
    dsimp only
    rw [w7, w6]
    refine ⟨0, by (first | exact rfl | exact trivial), by (first | exact rfl | exact trivial), by (first | exact rfl | exact trivial), by (first | exact rfl | exact trivial), by (first | exact rfl | exact trivial), by (first | exact rfl | exact trivial), by (first | exact rfl | exact trivial), by (first | exact rfl | exact trivial), by (first | exact rfl | exact trivial), by (first | exact rfl | exact trivial), by (first | exact rfl | exact trivial), by (first | exact rfl | exact trivial), fun j => j ≤ (kN x).toNat, fun j => (kN x).toNat - j, by omega, ?_⟩
    intro j hj
    rw [kMonths_len, kSettle_len]
    refine cndD (fun c => ⟨by omega, by omega, j + 1, by rw [w64 (by omega)]; rfl, by (first | exact rfl | exact trivial), by (first | exact rfl | exact trivial), by (first | exact rfl | exact trivial), by (first | exact rfl | exact trivial), by (first | exact rfl | exact trivial), by (first | exact rfl | exact trivial), by (first | exact rfl | exact trivial), by (first | exact rfl | exact trivial), by (first | exact rfl | exact trivial), ?_, ?_, by (first | omega | (dsimp only; omega)), by (first | omega | (dsimp only; omega)), by (repeat' (first | exact trivial | exact rfl | apply And.intro))⟩) (fun c => ⟨(), ?_⟩)
    · rw [kMonths_succ, w64 (x := 10 * (j : Int)) (by omega), w64 (by omega)]
    · have mj := mul_bd (a := kTick x) (b := 10 + (j : Int)) (m := 10) (n := 20) (by omega) (by omega)
      rw [kSettle_succ, w1, w64 (x := 10 + (j : Int)) (by omega), w64 (by omega)]
    · have e : (kN x).toNat = j := by omega
      rw [e]; (repeat' (first | exact trivial | exact rfl | apply And.intro))
theorem kprod_ok : kprodC.ok Tryd.prog 14 := bykprod (gokc within_ok gok0) vkprod
theorem vtame (t : TmI) (h : tameC.cnd t) : Vtame t := by
  obtain ⟨hc, hs, ⟨r1, r2, r3, r4, r5, r6, r7, r8⟩, i0, i1⟩ : t.p.check = 0 ∧ t.p.small ∧ t.c.raw ∧ 0 ≤ t.i ∧ t.i ≤ 1000000 := h
  have ok := check0 hc
  have t1 := ok.t1
  have t2 := ok.t2
  have m2 := ok.m2
  have hcl := count_le t.p
  have hcd := count_def hc
  have bk := within_bd (n := t.c.kind) (lo := 0) (hi := 8) (by omega)
  have bi := within_bd (n := t.c.id) (lo := 0) (hi := 30) (by omega)
  have bs := within_bd (n := t.c.side) (lo := 0) (hi := 1) (by omega)
  have bq := within_bd (n := t.c.qty) (lo := 0) (hi := 11) (by omega)
  have bp := within_bd (n := t.c.price) (lo := 0) (hi := 9) (by omega)
  have mb := mul_bd (a := t.p.tick) (b := within t.c.price 0 9) (m := 1000) (n := 9) (by omega) (by omega)
  have wp : IntKind.i64.wrap (t.p.tick * within t.c.price 0 9) = t.p.tick * within t.c.price 0 9 := w64 (by omega)
  unfold Vtame
  refine ⟨⟨t.c.kind, 0, 8⟩, rfl, rfl, rfl, ⟨r1, by dsimp only; omega, by dsimp only; omega, by dsimp only; omega⟩, fun _ _ => ⟨⟨t.c.id, 0, 30⟩, rfl, rfl, rfl, ⟨r2, by dsimp only; omega, by dsimp only; omega, by dsimp only; omega⟩, fun _ _ => ?_⟩⟩
  dsimp only
  rw [w64 (x := 1 + within t.c.kind 0 8) (by omega), w64 (x := 1 + within t.c.id 0 30) (by omega)]
  refine ⟨⟨1 + within t.c.kind 0 8, 1 + within t.c.id 0 30, 0, 0, 0, 0, 0, 0, []⟩, rfl, rfl, rfl, rfl, rfl, rfl, rfl, rfl, rfl, fun c => c = ⟨tmKind t.c, 1 + within t.c.id 0 30, 0, 0, 0, 0, 0, 0, []⟩, cndD (fun e => ⟨⟨tmKind t.c, 1 + within t.c.id 0 30, 0, 0, 0, 0, 0, 0, []⟩, ?_, rfl, rfl, rfl, rfl, rfl, rfl, rfl, rfl, rfl, by (repeat' (first | exact trivial | exact rfl | apply And.intro))⟩) (fun e => ⟨⟨tmKind t.c, 1 + within t.c.id 0 30, 0, 0, 0, 0, 0, 0, []⟩, ?_, rfl, rfl, rfl, rfl, rfl, rfl, rfl, rfl, rfl, by (repeat' (first | exact trivial | exact rfl | apply And.intro))⟩), fun c hcc => ?_⟩
  · dsimp only at e ⊢; rw [tmKind, if_pos (by omega)]
  · dsimp only at e ⊢; rw [tmKind, if_neg (by omega)]
  subst hcc
  refine ⟨t.p, rfl, rfl, rfl, rfl, rfl, rfl, rfl, rfl, rfl, rfl, rfl, hs, fun _ _ => ?_⟩
  rw [w64 (x := (t.p.count : Int) - 1) (by omega)]
  refine ⟨⟨t.c.inst, 0, (t.p.count : Int) - 1⟩, rfl, rfl, rfl, ⟨r3, by dsimp only; omega, by dsimp only; omega, by dsimp only; omega⟩, fun _ _ => ⟨⟨t.c.side, 0, 1⟩, rfl, rfl, rfl, ⟨r4, by dsimp only; omega, by dsimp only; omega, by dsimp only; omega⟩, fun _ _ => ⟨⟨t.c.qty, 0, 11⟩, rfl, rfl, rfl, ⟨r6, by dsimp only; omega, by dsimp only; omega, by dsimp only; omega⟩, fun _ _ => ⟨⟨t.c.price, 0, 9⟩, rfl, rfl, rfl, ⟨r5, by dsimp only; omega, by dsimp only; omega, by dsimp only; omega⟩, fun _ _ => ⟨rfl, ?_⟩⟩⟩⟩⟩
  dsimp only
  rw [wp, w64 (x := 1 + within t.c.side 0 1) (by omega), w64 (x := 1 + within t.c.qty 0 11) (by omega), w64 (x := t.i + 1) (by omega)]
  refine Cv.cnd.mk (fun k => ?_) (fun k => ?_)
  · have k : tmKind t.c = 1 := by simpa using k
    refine ⟨{ tmHead t with id := t.i + 1, time := 1 }, rfl, rfl, rfl, rfl, rfl, rfl, rfl, rfl, rfl, fun c => c = { tmHead t with id := t.i + 1, time := if t.c.time.tmod 5 = 2 then 2 else 1 }, ⟨rfl, by decide, Cv.cnd.mk (fun e => ⟨{ tmHead t with id := t.i + 1, time := 2 }, rfl, rfl, rfl, rfl, rfl, rfl, rfl, rfl, rfl, ?_, by (repeat' (first | exact trivial | exact rfl | apply And.intro))⟩) (fun e => ⟨{ tmHead t with id := t.i + 1, time := 1 }, rfl, rfl, rfl, rfl, rfl, rfl, rfl, rfl, rfl, ?_, by (repeat' (first | exact trivial | exact rfl | apply And.intro))⟩)⟩, fun c hcc => ?_⟩
    · have e : t.c.time.tmod 5 = 2 := by simpa using e
      rw [if_pos e]
    · have e : ¬ t.c.time.tmod 5 = 2 := by simpa using e
      rw [if_neg e]
    subst hcc
    refine ⟨{ tmHead t with id := t.i + 1, time := if t.c.time.tmod 5 = 2 then 2 else 1 }, rfl, rfl, rfl, rfl, rfl, rfl, rfl, rfl, rfl, fun c => c = { tmHead t with id := t.i + 1, time := tmTime t.c }, ⟨rfl, by decide, Cv.cnd.mk (fun e => ⟨{ tmHead t with id := t.i + 1, time := 3 }, rfl, rfl, rfl, rfl, rfl, rfl, rfl, rfl, rfl, ?_, by (repeat' (first | exact trivial | exact rfl | apply And.intro))⟩) (fun e => ⟨{ tmHead t with id := t.i + 1, time := if t.c.time.tmod 5 = 2 then 2 else 1 }, rfl, rfl, rfl, rfl, rfl, rfl, rfl, rfl, rfl, ?_, by (repeat' (first | exact trivial | exact rfl | apply And.intro))⟩)⟩, fun c hcc => ?_⟩
    · have e : t.c.time.tmod 5 = 3 := by simpa using e
      rw [tmTime, if_pos e]
    · have e : ¬ t.c.time.tmod 5 = 3 := by simpa using e
      rw [tmTime, if_neg e]
    subst hcc
    have hq : (tmHead t).qty = 1 + within t.c.qty 0 11 := rfl
    refine ⟨{ tmHead t with id := t.i + 1, time := tmTime t.c }, rfl, rfl, rfl, rfl, rfl, rfl, rfl, rfl, rfl, fun c => c = { tmHead t with id := t.i + 1, time := tmTime t.c, least := tmLeast t.c (tmHead t).qty }, ⟨rfl, by decide, Cv.cnd.mk (fun e => ⟨⟨t.c.least, 0, (tmHead t).qty⟩, rfl, rfl, rfl, ⟨r7, by dsimp only; omega, by dsimp only; omega, by dsimp only; omega⟩, fun _ _ => ⟨{ tmHead t with id := t.i + 1, time := tmTime t.c, least := within t.c.least 0 (tmHead t).qty }, rfl, rfl, rfl, rfl, rfl, rfl, rfl, rfl, rfl, ?_, by (repeat' (first | exact trivial | exact rfl | apply And.intro))⟩⟩) (fun e => ⟨{ tmHead t with id := t.i + 1, time := tmTime t.c }, rfl, rfl, rfl, rfl, rfl, rfl, rfl, rfl, rfl, ?_, by (repeat' (first | exact trivial | exact rfl | apply And.intro))⟩)⟩, fun c hcc => ?_⟩
    · have e : t.c.least.tmod 4 = 1 := by simpa using e
      rw [tmLeast, if_pos e]
    · have e : ¬ t.c.least.tmod 4 = 1 := by simpa using e
      rw [tmLeast, if_neg e]; rfl
    subst hcc
    refine ⟨⟨t.p, (tmHead t).inst⟩, rfl, rfl, rfl, rfl, rfl, rfl, rfl, rfl, rfl, rfl, rfl, rfl, hs, fun _ _ => ?_⟩
    dsimp only
    have hp : (tmHead t).price = t.p.tick * within t.c.price 0 9 := rfl
    have hk1 : (tmHead t).kind = 1 := k
    rw [w64 (x := 8 * t.p.tick) (by omega), w64 (x := 4 * t.p.tick) (by omega), w64 (x := (tmHead t).price + 8 * t.p.tick) (by omega), w64 (x := (tmHead t).price - 4 * t.p.tick) (by omega)]
    refine Cv.cnd.mk (fun e => ⟨(), ?_⟩) (fun e => ⟨(), ?_⟩)
    · have e : (t.p.legs (tmHead t).inst).2.2 = false := by simpa using e
      have : tame t = { tmHead t with id := t.i + 1, time := tmTime t.c, least := tmLeast t.c (tmHead t).qty, price := (tmHead t).price + 8 * t.p.tick } := by
        simp only [tame, hk1, if_true, e, Bool.false_eq_true, if_false]
      rw [this]; (repeat' (first | exact trivial | exact rfl | apply And.intro))
    · have e : (t.p.legs (tmHead t).inst).2.2 = true := by simpa using e
      have : tame t = { tmHead t with id := t.i + 1, time := tmTime t.c, least := tmLeast t.c (tmHead t).qty, price := (tmHead t).price - 4 * t.p.tick } := by
        simp only [tame, hk1, if_true, e]
      rw [this]; (repeat' (first | exact trivial | exact rfl | apply And.intro))
  · have k : ¬ tmKind t.c = 1 := by simpa using k
    have k : ¬ (tmHead t).kind = 1 := k
    rw [w64 (x := 5 * t.p.tick) (by omega), w64 (x := t.p.tick * within t.c.price 0 9 + 5 * t.p.tick) (by omega)]
    have et : tame t = { tmHead t with price := if (tmHead t).kind = 4 then (tmHead t).price + 5 * t.p.tick else (tmHead t).price, side := 0, inst := 0 } := by
      simp only [tame, k, if_false]
    rw [et]
    refine Cv.cnd.mk (fun e => ⟨(), ?_⟩) (fun e => ⟨(), ?_⟩)
    · have e : tmKind t.c = 4 := by simpa using e
      have e : (tmHead t).kind = 4 := e
      simp only [if_pos e]; (repeat' (first | exact trivial | exact rfl | apply And.intro))
    · have e : ¬ tmKind t.c = 4 := by simpa using e
      have e : ¬ (tmHead t).kind = 4 := e
      simp only [if_neg e]; (repeat' (first | exact trivial | exact rfl | apply And.intro))
theorem tame_ok : tameC.ok Tryd.prog 15 := bytame (gokc within_ok (gokc r5count_ok (gokc r5legs_ok gok0))) vtame
theorem off_mul {t : Int} (k : Int) : offB t (t * k) = false := by
  simp [offB, Int.mul_tmod_right]
theorem kprod_small (x : Prd) : (kprod x).small := by
  have := kN_bd x
  refine ⟨by simp [kprod], ?_, ?_⟩
  · show (kMonths _).length ≤ _
    rw [kMonths_len]; omega
  · show (kSettle _ _).length ≤ _
    rw [kSettle_len]; omega

theorem kprod_check (x : Prd) : (kprod x).check = 0 := by
  have ht := kTick_bd x
  have hn := kN_bd x
  have hw := within_bd (n := x.wide) (lo := 0) (hi := 60) (by omega)
  have hr := within_bd (n := x.rule) (lo := 0) (hi := 2) (by omega)
  have ho := within_bd (n := x.top) (lo := 0) (hi := 9) (by omega)
  have hl := within_bd (n := x.least) (lo := 0) (hi := 4) (by omega)
  have hp := within_bd (n := x.part) (lo := 0) (hi := 100) (by omega)
  have h1 : symOk (kprod x).code = true := by show symOk [206, 169] = true; decide +kernel
  obtain ⟨k, hk, hk1⟩ : ∃ k : Nat, (kN x).toNat = k ∧ (2 ≤ k ∧ k ≤ 5) := ⟨_, rfl, by omega⟩
  have h2 : monthsOk (kprod x).months = true := by
    show monthsOk (kMonths (kN x).toNat) = true
    rw [hk]
    have : k = 2 ∨ k = 3 ∨ k = 4 ∨ k = 5 := by omega
    rcases this with rfl | rfl | rfl | rfl <;> decide
  have h3 : ticksOk (kprod x) = true := by
    have a : offB (kTick x) (-20 * kTick x) = false := by rw [Int.mul_comm]; exact off_mul _
    have b : offB (kTick x) (100 * kTick x) = false := by rw [Int.mul_comm]; exact off_mul _
    have c : (kSettle (kTick x) (kN x).toNat).any (offB (kTick x)) = false := by
      rw [List.any_eq_false]
      intro y hy
      obtain ⟨j, _, rfl⟩ := List.mem_map.1 hy
      rw [off_mul]; decide
    simp only [ticksOk, kprod, a, b, c, off_mul, Bool.not_false, Bool.and_true, Bool.and_eq_true]
    exact ⟨decide_eq_true (by omega), decide_eq_true (by omega)⟩
  have mw := mul_bd (a := kTick x) (b := 5 + within x.wide 0 60) (m := kTick x) (n := 65) (by omega) (by omega)
  have h4 : bandBad (kprod x) = false := by
    simp only [bandBad, kprod, Bool.or_eq_false_iff]
    exact ⟨⟨⟨⟨decide_eq_false (by omega), decide_eq_false (by omega)⟩, decide_eq_false (by omega)⟩, decide_eq_false (by omega)⟩, decide_eq_false (by omega)⟩
  have h5 : settleBad (kprod x) = false := by
    have e : (kSettle (kTick x) (kN x).toNat).length = (kMonths (kN x).toNat).length := by rw [kSettle_len, kMonths_len]
    have ne : kSettle (kTick x) (kN x).toNat ≠ [] := by
      intro hc
      have := kSettle_len (kTick x) (kN x).toNat
      rw [hc] at this
      simp at this
      omega
    have bd : ∀ y ∈ kSettle (kTick x) (kN x).toNat, 0 ≤ y ∧ y ≤ kTick x * 15 := by
      intro y hy
      obtain ⟨j, hj, rfl⟩ := List.mem_map.1 hy
      have := List.mem_range.1 hj
      exact mul_bd (by omega) (by omega)
    have m1 := bd _ (minL_mem ne)
    have m2 := bd _ (maxL_mem ne)
    simp only [settleBad, kprod, e, ne_eq, not_true_eq_false, decide_false, Bool.false_or, Bool.or_eq_false_iff]
    exact ⟨decide_eq_false (by omega), decide_eq_false (by omega)⟩
  have h6 : ruleBad (kprod x) = false := by
    simp only [ruleBad, kprod, Bool.or_eq_false_iff]
    exact ⟨decide_eq_false (by omega), decide_eq_false (by omega)⟩
  have h7 : qtyBad (kprod x) = false := by
    simp only [qtyBad, kprod, Bool.or_eq_false_iff]
    exact ⟨⟨⟨⟨⟨decide_eq_false (by omega), decide_eq_false (by omega)⟩, decide_eq_false (by omega)⟩, decide_eq_false (by omega)⟩, decide_eq_false (by omega)⟩, decide_eq_false (by omega)⟩
  rw [Prd.check, h1, h2, h3, h4, h5, h6, h7]
  rfl

end Sx

namespace Sx
set_option linter.unusedVariables false
set_option maxRecDepth 100000
open Go Cv Go.Proofs

/-- A number's digits, ahead of what there is already. -/
def digN : Nat → Nat → List UInt8 → List UInt8
  | 0, _, acc => acc
  | k + 1, u, acc => if u = 0 ∧ acc ≠ [] then acc else digN k (u / 10) (UInt8.ofNat (48 + u % 10) :: acc)
def digU (u : Nat) : List UInt8 := digN 25 u []
def digF (n : Int) : List UInt8 := if n < 0 then 45 :: digU (-n).toNat else digU n.toNat
def digC : Con := con1 Int (fun n => [i64V n]) (fun _ => []) (fun n => i64r n) (fun n => sV (digF n)) (fun _ => [])
structure CdI where
  n : Int
  s : List UInt8
structure CdL where
  good : Bool
  digits : Nat
  i : Nat
end Sx

namespace Sx
set_option linter.unusedVariables false
set_option maxRecDepth 100000
open Go Cv Go.Proofs
end Sx

namespace Sx
set_option linter.unusedVariables false
set_option linter.unusedSimpArgs false
set_option maxRecDepth 100000
open Go Cv Go.Proofs

/-! ### Numbers, byte by byte -/
def nrunB : NSt → Nat → List UInt8 → Option NSt
  | x, _, [] => some x
  | x, p, b :: l => match x.step (p, b.toNat) with
    | some y => nrunB y (p + 1) l
    | none => none
theorem step_hi {x : NSt} {p r : Nat} (h : 128 ≤ r) : x.step (p, r) = none := by
  simp only [NSt.step]; rw [if_neg (by omega), if_neg (by omega)]
theorem nrun_bytes (s : List UInt8) : ∀ (k p : Nat) (x : NSt), s.length - p ≤ k → nrun x (runesP s p) = nrunB x p (s.drop p)
  | k, p, x, hk => by
    rcases Nat.lt_or_ge p s.length with hlt | hge
    · obtain ⟨k', rfl⟩ : ∃ k', k = k' + 1 := ⟨k - 1, by omega⟩
      rw [runesP_step hlt, decode_drop]
      obtain ⟨b, l, hb⟩ : ∃ b l, s.drop p = b :: l := by
        cases hd : s.drop p with
        | nil => rw [List.drop_eq_nil_iff] at hd; omega
        | cons b l => exact ⟨b, l, rfl⟩
      have hl : l = s.drop (p + 1) := by
        rw [← List.drop_drop, hb]; rfl
      obtain ⟨q1, q2, q3⟩ := dec_32 (l := b :: l) (by simp)
      have e0 : gB (b :: l) 0 = b.toNat := rfl
      rw [e0] at q2 q3
      rw [hb, nrun, nrunB]
      rcases Nat.lt_or_ge b.toNat 128 with h | h
      · obtain ⟨r1, r2⟩ := q2 h
        rw [r1, r2, hl]
        cases x.step (p, b.toNat) with
        | none => rfl
        | some y => exact nrun_bytes s k' (p + 1) y (by omega)
      · rw [step_hi h, step_hi (q3 h)]
    · rw [runesP_end hge, List.drop_eq_nil_of_le hge]; rfl

def digB (b : UInt8) : Bool := decide (48 ≤ b.toNat) && decide (b.toNat ≤ 57)
def valB (a : Int) (l : List UInt8) : Int := l.foldl (fun a b => 10 * a + ((b.toNat : Int) - 48)) a
theorem nrunB_pos : ∀ (l : List UInt8) (x : NSt) (p : Nat), 0 < p → x.digits ≤ 18 → nrunB x p l = if l.all digB = true ∧ x.digits + l.length ≤ 18 then some ⟨valB x.n l, x.digits + l.length, x.minus⟩ else none
  | [], x, p, hp, hd => by simp [nrunB, valB, hd]
  | b :: l, x, p, hp, hd => by
    rw [nrunB]
    by_cases hb : digB b = true
    · have hb' : 48 ≤ b.toNat ∧ b.toNat ≤ 57 := by simpa [digB] using hb
      by_cases h18 : x.digits < 18
      · have e : x.step (p, b.toNat) = some ⟨10 * x.n + ((b.toNat : Int) - 48), x.digits + 1, x.minus⟩ := by
          simp only [NSt.step]; rw [if_neg (by omega), if_pos (by omega)]
        rw [e]
        dsimp only
        rw [nrunB_pos l _ (p + 1) (by omega) (by dsimp only; omega)]
        dsimp only
        by_cases hc : l.all digB = true ∧ x.digits + 1 + l.length ≤ 18
        · rw [if_pos hc, if_pos ⟨by simp [hb, hc.1], by simp; omega⟩]
          simp only [valB, List.foldl_cons, List.length_cons, Option.some.injEq, NSt.mk.injEq, true_and, and_true]
          omega
        · rw [if_neg hc, if_neg]
          rintro ⟨c1, c2⟩
          simp only [List.all_cons, Bool.and_eq_true, List.length_cons] at c1 c2
          exact hc ⟨c1.2, by omega⟩
      · have e : x.step (p, b.toNat) = none := by
          simp only [NSt.step]; rw [if_neg (by omega), if_neg (by omega)]
        rw [e]
        dsimp only
        rw [if_neg]
        rintro ⟨c1, c2⟩
        simp only [List.length_cons] at c2
        omega
    · have e : x.step (p, b.toNat) = none := by
        have : ¬ (48 ≤ b.toNat ∧ b.toNat ≤ 57) := by simpa [digB] using hb
        simp only [NSt.step]; rw [if_neg (by omega), if_neg (by omega)]
      rw [e]
      dsimp only
      rw [if_neg]
      rintro ⟨c1, _⟩
      simp only [List.all_cons, Bool.and_eq_true] at c1
      exact hb c1.1
theorem numF_minus (l : List UInt8) : numF (45 :: l) = if l.all digB = true ∧ l.length ≤ 18 then (-valB 0 l, decide (0 < l.length)) else (0, false) := by
  have h := nrun_bytes (45 :: l) _ 0 ⟨0, 0, false⟩ (Nat.le_refl _)
  rw [List.drop_zero, nrunB] at h
  have e : (⟨0, 0, false⟩ : NSt).step (0, (45 : UInt8).toNat) = some ⟨0, 0, true⟩ := rfl
  rw [e] at h
  dsimp only at h
  rw [nrunB_pos l _ 1 (by omega) (by dsimp only; omega)] at h
  dsimp only at h
  rw [numF, h, Nat.zero_add]
  split
  · rename_i x hx
    split at hx
    · rename_i hc
      cases hx
      rw [if_pos hc]; rfl
    · cases hx
  · rename_i hx
    split at hx
    · cases hx
    · rename_i hc
      rw [if_neg hc]
theorem numF_dig {b : UInt8} (l : List UInt8) (hb : digB b = true) : numF (b :: l) = if l.all digB = true ∧ l.length ≤ 17 then (valB ((b.toNat : Int) - 48) l, true) else (0, false) := by
  have h := nrun_bytes (b :: l) _ 0 ⟨0, 0, false⟩ (Nat.le_refl _)
  have hb' : 48 ≤ b.toNat ∧ b.toNat ≤ 57 := by simpa [digB] using hb
  rw [List.drop_zero, nrunB] at h
  have e : (⟨0, 0, false⟩ : NSt).step (0, b.toNat) = some ⟨(b.toNat : Int) - 48, 1, false⟩ := by
    simp only [NSt.step]; rw [if_neg (by omega), if_pos (by omega)]; simp
  rw [e] at h
  dsimp only at h
  rw [nrunB_pos l _ 1 (by omega) (by dsimp only; omega)] at h
  dsimp only at h
  rw [numF, h]
  have hc1 : (l.all digB = true ∧ 1 + l.length ≤ 18) ↔ (l.all digB = true ∧ l.length ≤ 17) := by
    constructor
    · rintro ⟨a, b⟩; exact ⟨a, by omega⟩
    · rintro ⟨a, b⟩; exact ⟨a, by omega⟩
  by_cases hc : l.all digB = true ∧ l.length ≤ 17
  · rw [if_pos (hc1.2 hc), if_pos hc]
    simp only [Bool.false_eq_true, if_false, Prod.mk.injEq, true_and, decide_eq_true_eq]
    omega
  · rw [if_neg (fun h => hc (hc1.1 h)), if_neg hc]
/-! ### Digits -/
theorem dig_byte {k : Nat} (h : k < 10) : digB (UInt8.ofNat (48 + k)) = true ∧ ((UInt8.ofNat (48 + k)).toNat : Int) = 48 + k := by
  have : (UInt8.ofNat (48 + k)).toNat = 48 + k := UInt8.toNat_ofNat_of_lt' (by simp [UInt8.size]; omega)
  rw [this]
  exact ⟨by simp [digB, this]; omega, by simp⟩
theorem valB_cons (a : Int) (b : UInt8) (l : List UInt8) : valB a (b :: l) = valB (10 * a + ((b.toNat : Int) - 48)) l := rfl
theorem valB_lin : ∀ (l : List UInt8) (a : Int), valB a l = a * 10 ^ l.length + valB 0 l
  | [], a => by simp [valB]
  | b :: l, a => by
    rw [valB_cons, valB_cons, valB_lin l, valB_lin l (10 * 0 + _), List.length_cons, Int.pow_succ]
    have e : (10 * a + ((b.toNat : Int) - 48)) * 10 ^ l.length = a * (10 ^ l.length * 10) + ((b.toNat : Int) - 48) * 10 ^ l.length := by
      rw [Int.add_mul, Int.mul_comm 10 a, Int.mul_assoc, Int.mul_comm 10]
    rw [e, show (10 * 0 + ((b.toNat : Int) - 48)) = (b.toNat : Int) - 48 by omega]
    omega
theorem digN_all : ∀ (k u : Nat) (acc : List UInt8), acc.all digB = true → (digN k u acc).all digB = true
  | 0, u, acc, h => h
  | k + 1, u, acc, h => by
    rw [digN]
    split
    · exact h
    · exact digN_all k (u / 10) _ (by rw [List.all_cons, (dig_byte (k := u % 10) (by omega)).1, h]; rfl)
theorem digN_val : ∀ (k u : Nat) (acc : List UInt8), u < 10 ^ k → valB 0 (digN k u acc) = u * 10 ^ acc.length + valB 0 acc
  | 0, u, acc, h => by
    have : u = 0 := by simpa using h
    subst this; simp [digN]
  | k + 1, u, acc, h => by
    rw [digN]
    split
    · rename_i hc
      rw [hc.1]; simp
    · rw [digN_val k (u / 10) _ (by rw [Nat.pow_succ] at h; omega), List.length_cons, valB_cons, valB_lin, (dig_byte (k := u % 10) (by omega)).2, Int.pow_succ]
      have e : ((u / 10 : Nat) : Int) * (10 ^ acc.length * 10) + (10 * 0 + (48 + ((u % 10 : Nat) : Int) - 48)) * 10 ^ acc.length = (u : Int) * 10 ^ acc.length := by
        have h1 : (10 * 0 + (48 + ((u % 10 : Nat) : Int) - 48)) = ((u % 10 : Nat) : Int) := by omega
        have h2 : (u : Int) = ((u / 10 : Nat) : Int) * 10 + ((u % 10 : Nat) : Int) := by omega
        rw [h1]
        conv => rhs; rw [h2]
        rw [Int.add_mul, Int.mul_comm (10 ^ acc.length) 10, Int.mul_assoc]
      rw [← Int.add_assoc, e]
theorem digN_len : ∀ (k u m : Nat) (acc : List UInt8), u < 10 ^ m → (acc = [] → 0 < m) → (digN k u acc).length ≤ m + acc.length
  | 0, u, m, acc, h, hm => by simp [digN]
  | k + 1, u, m, acc, h, hm => by
    rw [digN]
    split
    · omega
    · rename_i hc
      obtain ⟨m', rfl⟩ : ∃ m', m = m' + 1 := by
        cases m with
        | zero =>
          have : u = 0 := by simpa using h
          have : acc = [] := Classical.byContradiction fun e => hc ⟨this, e⟩
          exact absurd (hm this) (by omega)
        | succ m' => exact ⟨m', rfl⟩
      have := digN_len k (u / 10) m' (UInt8.ofNat (48 + u % 10) :: acc) (by rw [Nat.pow_succ] at h; omega) (fun e => by cases e)
      rw [List.length_cons] at this
      omega
theorem digN_ne : ∀ (k u : Nat) (acc : List UInt8), 0 < k → digN k u acc ≠ []
  | k + 1, u, acc, _ => by
    rw [digN]
    split
    · rename_i hc; exact hc.2
    · cases k with
      | zero => simp [digN]
      | succ k => exact digN_ne (k + 1) _ _ (by omega)
theorem digU_all (u : Nat) : (digU u).all digB = true := digN_all 25 u [] rfl
theorem digU_ne (u : Nat) : digU u ≠ [] := digN_ne 25 u [] (by omega)
theorem digU_val {u : Nat} (h : u < 10 ^ 25) : valB 0 (digU u) = u := by
  rw [digU, digN_val 25 u [] h]; simp [valB]
theorem digU_len {u m : Nat} (h : u < 10 ^ m) (hm : 0 < m) : (digU u).length ≤ m := by
  have := digN_len 25 u m [] h (fun _ => hm)
  rw [List.length_nil, Nat.add_zero] at this
  exact this
theorem numF_digU {u : Nat} (h : u < 10 ^ 18) : numF (digU u) = ((u : Int), true) := by
  have hv := digU_val (u := u) (Nat.lt_of_lt_of_le h (Nat.pow_le_pow_right (by omega) (by omega)))
  have ha := digU_all u
  have hl := digU_len h (by omega)
  cases hd : digU u with
  | nil => exact absurd hd (digU_ne u)
  | cons b l =>
    rw [hd] at hv ha hl
    simp only [List.all_cons, Bool.and_eq_true, List.length_cons] at ha hl
    rw [numF_dig l ha.1, if_pos ⟨ha.2, by omega⟩, ← hv, valB_cons]
    simp
theorem numF_digF {n : Int} (h0 : -1000000000000000000 < n) (h1 : n < 1000000000000000000) : numF (digF n) = (n, true) := by
  unfold digF
  split
  · have hu : (-n).toNat < 10 ^ 18 := by omega
    have hv := digU_val (u := (-n).toNat) (Nat.lt_of_lt_of_le hu (Nat.pow_le_pow_right (by omega) (by omega)))
    have hl := digU_len hu (by omega)
    have hne := digU_ne (-n).toNat
    have : 0 < (digU (-n).toNat).length := List.length_pos_iff.2 hne
    rw [numF_minus, if_pos ⟨digU_all _, hl⟩, hv, decide_eq_true this]
    congr 1
    omega
  · rw [numF_digU (by omega)]
    congr 1
    omega
/-! ### Which texts are numbers -/
def cntB (s : List UInt8) : Nat := (s.filter digB).length
end Sx

namespace Sx
set_option linter.unusedVariables false
set_option linter.unusedSimpArgs false
set_option maxRecDepth 100000
open Go Cv Go.Proofs

structure DInv (v : Nat) (x : Nat × List UInt8) : Prop where
  lt : x.1 < 18446744073709551616
  run : ∃ k, digN k x.1 x.2 = digU v ∧ k + x.2.length = 25 ∧ x.1 < 10 ^ k
/-! ### ConsoleDigits -/
def gp (s : List UInt8) : Bool := match s with
  | [] => true
  | b :: l => (digB b || decide (b = 45)) && l.all digB
structure CInv (S : List UInt8) (x : CdL) : Prop where
  le : x.i ≤ S.length
  dg : x.digits = cntB (S.take x.i)
  gd : x.good = (decide (S ≠ []) && gp (S.take x.i))
end Sx

namespace Sx
set_option linter.unusedVariables false
set_option linter.unusedSimpArgs false
set_option maxRecDepth 100000
open Go Cv Go.Proofs

/-! ### Texts of words, with blanks between -/
theorem spl_mid (b : List (List UInt8)) : ∀ (a : List (List UInt8)) (n : Nat) (cur : Option Wd), spl n cur (a ++ [32] :: b) = spl n cur a ++ spl (n + a.length + 1) none b
  | [], n, cur => by simp [spl]
  | c :: a, n, cur => by
    rw [List.cons_append, spl, spl]
    split
    · rw [spl_mid b a, List.append_assoc, List.length_cons, show n + 1 + a.length + 1 = n + (a.length + 1) + 1 by omega]
    · rw [spl_mid b a, List.length_cons, show n + 1 + a.length + 1 = n + (a.length + 1) + 1 by omega]
theorem wordsW_cat (u v : List UInt8) : wordsW (u ++ 32 :: v) = wordsW u ++ (wordsW v).map (shW ((runes u).length + 1)) := by
  rw [wordsW, chunks_mid v _ u (Nat.le_refl _), spl_mid, wordsW, wordsW, runes_len']
  have := spl_shift ((chunks u).length + 1) (chunks v) 0 none
  rw [Option.map_none] at this
  rw [show 0 + (chunks u).length + 1 = 0 + ((chunks u).length + 1) by omega, this]
theorem wordsL_cat (u v : List UInt8) : wordsL (u ++ 32 :: v) = wordsL u ++ wordsL v := by
  rw [wordsL_eq, wordsL_eq, wordsL_eq, wordsW_cat, List.map_append, List.map_map]
  congr 1
theorem wordsA_cat (u v : List UInt8) : wordsA (u ++ 32 :: v) = wordsA u ++ (wordsA v).map fun n => n + (((runes u).length + 1 : Nat) : Int) := by
  rw [wordsA_eq, wordsA_eq, wordsA_eq, wordsW_cat, List.map_append, List.map_map, List.map_map]
  congr 1
theorem spl_one : ∀ (cs : List (List UInt8)) (n m : Nat) (u : List (List UInt8)), (∀ c ∈ cs, c ≠ [32]) → spl n (some (m, u)) cs = [(m, u ++ cs)]
  | [], n, m, u, h => by simp [spl]
  | c :: cs, n, m, u, h => by
    rw [spl, if_neg (h c List.mem_cons_self)]
    show spl (n + 1) (some (m, u ++ [c])) cs = _
    rw [spl_one cs (n + 1) m _ (fun x hx => h x (List.mem_cons_of_mem _ hx))]
    simp
/-- What may stand as a word. -/
def isW1 (w : List UInt8) : Bool := decide (w ≠ []) && !w.contains 32
theorem isW1_out {w : List UInt8} (h : isW1 w = true) : w ≠ [] ∧ (32 : UInt8) ∉ w := by
  simp only [isW1, Bool.and_eq_true, decide_eq_true_eq, Bool.not_eq_true'] at h
  refine ⟨h.1, fun hm => ?_⟩
  have := List.contains_iff_mem.2 hm
  rw [h.2] at this
  cases this
theorem wordsW_one {w : List UInt8} (h : isW1 w = true) : wordsW w = [(0, chunks w)] := by
  obtain ⟨h1, h2⟩ := isW1_out h
  have hn : ∀ c ∈ chunks w, c ≠ [32] := by
    rintro c hc rfl
    have hf := chunks_flat w.length w (Nat.le_refl _)
    exact h2 (by rw [← hf]; exact List.mem_flatten.2 ⟨[32], hc, by simp⟩)
  rw [wordsW]
  cases hc : chunks w with
  | nil =>
    have hf := chunks_flat w.length w (Nat.le_refl _)
    rw [hc] at hf
    exact absurd hf.symm h1
  | cons c cs =>
    rw [hc] at hn
    rw [spl, if_neg (hn c List.mem_cons_self)]
    show spl (0 + 1) (some (0, [c])) cs = _
    rw [spl_one cs _ _ _ (fun x hx => hn x (List.mem_cons_of_mem _ hx))]
    simp
theorem wordsL_one {w : List UInt8} (h : isW1 w = true) : wordsL w = [w] := by
  rw [wordsL_eq, wordsW_one h]
  simp only [List.map_cons, List.map_nil]
  rw [chunks_flat w.length w (Nat.le_refl _)]
theorem wordsA_one {w : List UInt8} (h : isW1 w = true) : wordsA w = [0] := by
  rw [wordsA_eq, wordsW_one h]; rfl
theorem wordsL_rep (k : Nat) (v : List UInt8) : wordsL (List.replicate k 32 ++ v) = wordsL v := by
  induction k with
  | zero => simp
  | succ k ih =>
    rw [List.replicate_succ, List.cons_append]
    have := wordsL_cat [] (List.replicate k 32 ++ v)
    rw [List.nil_append] at this
    rw [this, ih]; rfl
/-- Words, each behind so many blanks and one. -/
def sepW (n : Nat) (ws : List (List UInt8)) : List UInt8 := (ws.map fun w => List.replicate (n + 1) 32 ++ w).flatten
theorem sepW_app (n : Nat) (a b : List (List UInt8)) : sepW n (a ++ b) = sepW n a ++ sepW n b := by simp [sepW]
theorem sepW_cons (n : Nat) (w : List UInt8) (b : List (List UInt8)) : sepW n (w :: b) = 32 :: (List.replicate n 32 ++ (w ++ sepW n b)) := by
  simp [sepW, List.replicate_succ]
theorem wordsL_sepW (n : Nat) : ∀ (ws : List (List UInt8)) (u : List UInt8), (∀ w ∈ ws, isW1 w = true) → wordsL (u ++ sepW n ws) = wordsL u ++ ws
  | [], u, h => by simp [sepW]
  | w :: ws, u, h => by
    rw [sepW_cons, wordsL_cat, wordsL_rep, wordsL_sepW n ws w (fun x hx => h x (List.mem_cons_of_mem _ hx)), wordsL_one (h w List.mem_cons_self)]
    simp

/-! ### A reader that goes on -/
def Rdr.pos (r : Rdr) (k : Nat) : Rdr := { r with k := k }
theorem pos_more {r : Rdr} {k : Nat} {w : List UInt8} (h : r.why = 0) (hw : r.words[k]? = some w) : (r.pos k).more = true := by
  have := (List.getElem?_eq_some_iff.1 hw).1
  simp [Rdr.more, Rdr.pos, h, this]
theorem pos_end {r : Rdr} {k : Nat} (hw : r.words.length ≤ k) : (r.pos k).more = false := by
  simp only [Rdr.more, Rdr.pos, Bool.and_eq_false_iff, decide_eq_false_iff_not]
  exact .inr (decide_eq_false (Nat.not_lt.2 hw))
theorem pos_word {r : Rdr} {k : Nat} {w : List UInt8} (h : r.why = 0) (hw : r.words[k]? = some w) : (r.pos k).word = w := by
  rw [Rdr.word, if_pos (pos_more h hw)]
  simp [Rdr.pos, List.getD_eq_getElem?_getD, hw]
theorem pos_here {r : Rdr} {k : Nat} {w : List UInt8} (h : r.why = 0) (hw : r.words[k]? = some w) : (r.pos k).here = r.at_.getD k 0 := by
  rw [Rdr.here, if_pos (pos_more h hw)]; rfl
theorem pos_next {r : Rdr} {k : Nat} {w : List UInt8} (h : r.why = 0) (hw : r.words[k]? = some w) : (r.pos k).next = r.pos (k + 1) := by
  rw [Rdr.next, if_pos (pos_more h hw)]; rfl
theorem pos_num {r : Rdr} {k : Nat} {w : List UInt8} {n : Int} (h : r.why = 0) (hw : r.words[k]? = some w) (hn : numF w = (n, true)) : (r.pos k).num = n ∧ (r.pos k).numR = r.pos (k + 1) := by
  rw [Rdr.num, Rdr.numR, pos_word h hw, hn]
  exact ⟨rfl, by rw [if_pos rfl, pos_next h hw]⟩
theorem pos_must {r : Rdr} {k : Nat} {w v : List UInt8} (h : r.why = 0) (hw : r.words[k]? = some w) (hf : foldF w = v) : (r.pos k).must v = r.pos (k + 1) := by
  rw [Rdr.must, pos_word h hw, if_pos hf, pos_next h hw]

/-! ### What may come in any order -/
/-- An option as it is read: its words, its kind, what it does. -/
structure OI where
  ws : List (List UInt8)
  kind : List UInt8
  f : Cmd → Cmd
def OI.reads (o : OI) : Prop := o.ws ≠ [] ∧ ∀ (r : Rdr) (k : Nat) (c : Cmd) (seen : List (List UInt8)), r.why = 0 → (∀ j, j < o.ws.length → r.words[k + j]? = o.ws[j]?) → o.kind ∉ seen →
  Opt.step ⟨r.pos k, c, seen⟩ = ⟨r.pos (k + o.ws.length), o.f c, seen ++ [o.kind]⟩
def oLeast (w v : List UInt8) (n : Int) : OI := ⟨[w, v], wLEAST, fun c => { c with least := n }⟩
def oTime (w : List UInt8) (t : Int) : OI := ⟨[w], wNOW, fun c => { c with time := t }⟩
def oLabel (w v : List UInt8) : OI := ⟨[w, v], wLABEL, fun c => { c with label := v }⟩
theorem oLeast_reads {w v : List UInt8} {n : Int} (hw : foldF w = wLEAST) (hn : numF v = (n, true)) : (oLeast w v n).reads := by
  refine ⟨by simp [oLeast], fun r k c seen h hj hs => ?_⟩
  have h0 : r.words[k]? = some w := hj 0 (by simp [oLeast])
  have h1 : r.words[k + 1]? = some v := hj 1 (by simp [oLeast])
  obtain ⟨q1, q2⟩ := pos_num h h1 hn
  have hs' : kindW wLEAST ∉ seen := hs
  unfold Opt.step
  dsimp only
  rw [pos_word h h0, pos_next h h0, hw, if_neg hs', if_pos rfl, q1, q2]
  rfl
theorem oTime_reads {w : List UInt8} {t : Int} (hw : foldF w = wNOW ∧ t = 2 ∨ foldF w = wWHOLE ∧ t = 3) : (oTime w t).reads := by
  refine ⟨by simp [oTime], fun r k c seen h hj hs => ?_⟩
  have h0 : r.words[k]? = some w := hj 0 (by simp [oTime])
  have hs' : wNOW ∉ seen := hs
  unfold Opt.step
  dsimp only
  rw [pos_word h h0, pos_next h h0]
  rcases hw with ⟨hw, rfl⟩ | ⟨hw, rfl⟩
  · rw [hw, if_neg (show kindW wNOW ∉ seen from hs'), if_neg (by decide), if_pos rfl]
    rfl
  · rw [hw, if_neg (show kindW wWHOLE ∉ seen from hs'), if_neg (by decide), if_neg (by decide), if_pos rfl]
    rfl
theorem oLabel_reads {w v : List UInt8} (hw : foldF w = wLABEL) (hv : labOk v = true) : (oLabel w v).reads := by
  refine ⟨by simp [oLabel], fun r k c seen h hj hs => ?_⟩
  have h0 : r.words[k]? = some w := hj 0 (by simp [oLabel])
  have h1 : r.words[k + 1]? = some v := hj 1 (by simp [oLabel])
  have hs' : kindW wLABEL ∉ seen := hs
  unfold Opt.step
  dsimp only
  rw [pos_word h h0, pos_next h h0, hw, if_neg hs', if_neg (by decide), if_neg (by decide), if_neg (by decide), if_pos rfl, pos_word h h1, pos_next h h1, if_pos hv]
  rfl
def oWords (os : List OI) : List (List UInt8) := (os.map OI.ws).flatten
def oAll (os : List OI) (c : Cmd) : Cmd := os.foldl (fun c o => o.f c) c
theorem orun_all : ∀ (os : List OI) (m k : Nat) (r : Rdr) (c : Cmd) (seen : List (List UInt8)), (∀ o ∈ os, o.reads) → (os.map OI.kind).Nodup → (∀ o ∈ os, o.kind ∉ seen) → r.why = 0 →
    (∀ j, j < (oWords os).length → r.words[k + j]? = (oWords os)[j]?) → Opt.run (os.length + m) ⟨r.pos k, c, seen⟩ = Opt.run m ⟨r.pos (k + (oWords os).length), oAll os c, seen ++ os.map OI.kind⟩
  | [], m, k, r, c, seen, hr, hd, hs, hy, hj => by simp [oWords, oAll]
  | o :: os, m, k, r, c, seen, hr, hd, hs, hy, hj => by
    have ho := hr o List.mem_cons_self
    have el : (oWords (o :: os)).length = o.ws.length + (oWords os).length := by simp [oWords]
    have e0 : ∀ j, j < o.ws.length → (oWords (o :: os))[j]? = o.ws[j]? := fun j h => by
      show (o.ws ++ oWords os)[j]? = _
      rw [List.getElem?_append_left h]
    have e1 : ∀ j, (oWords (o :: os))[o.ws.length + j]? = (oWords os)[j]? := fun j => by
      show (o.ws ++ oWords os)[o.ws.length + j]? = _
      rw [List.getElem?_append_right (by omega), Nat.add_sub_cancel_left]
    have hpos : 0 < o.ws.length := List.length_pos_iff.2 ho.1
    have hm : (r.pos k).more = true := by
      have := hj 0 (by rw [el]; omega)
      rw [e0 0 hpos, Nat.add_zero] at this
      obtain ⟨w, hw⟩ : ∃ w, o.ws[0]? = some w := ⟨_, List.getElem?_eq_getElem hpos⟩
      rw [hw] at this
      exact pos_more hy this
    have hst := ho.2 r k c seen hy (fun j h => by rw [hj j (by rw [el]; omega), e0 j h]) (hs o List.mem_cons_self)
    rw [List.map_cons, List.nodup_cons] at hd
    have ih := orun_all os m (k + o.ws.length) r (o.f c) (seen ++ [o.kind]) (fun x hx => hr x (List.mem_cons_of_mem _ hx)) hd.2
      (fun x hx hmem => by
        rcases List.mem_append.1 hmem with h | h
        · exact hs x (List.mem_cons_of_mem _ hx) h
        · rw [List.mem_singleton] at h
          exact hd.1 (h ▸ List.mem_map.2 ⟨x, hx, rfl⟩)) hy
      (fun j h => by rw [Nat.add_assoc, hj _ (by rw [el]; omega), e1])
    rw [List.length_cons, show os.length + 1 + m = os.length + m + 1 by omega, Opt.run, if_pos hm, hst, ih, el, Nat.add_assoc]
    simp [oAll]

/-! ### Lines -/
theorem rdr_pos (p : Prd) (s : List UInt8) : rdr0 p s = (rdr0 p s).pos 0 := rfl
theorem pos_rest {r : Rdr} {k : Nat} (h : r.words.length ≤ k) : (r.pos k).rest = r.pos k := by
  rw [Rdr.rest, if_neg (by rw [pos_end h]; simp)]
/-- A line's words, ahead of what may come in any order. -/
structure NewW where
  w0 : List UInt8
  nm : List UInt8
  q : List UInt8
  a : List UInt8
  pr : List UInt8
  i : List UInt8
  id : List UInt8
def NewW.ws (n : NewW) : List (List UInt8) := [n.w0, n.nm, n.q, n.a, n.pr, n.i, n.id]
structure NewW.reads (n : NewW) (p : Prd) (c : Cmd) : Prop where
  w0 : foldF n.w0 = wBUY ∧ c.side = 1 ∨ foldF n.w0 = wSELL ∧ c.side = 2
  nm : p.find (foldF n.nm) = (c.inst, true)
  q : numF n.q = (c.qty, true)
  a : foldF n.a = wAT
  pr : numF n.pr = (c.price, true)
  i : foldF n.i = wID
  id : numF n.id = (c.id, true)
def newC (c : Cmd) : Cmd := ⟨1, c.id, c.inst, c.side, c.price, c.qty, 0, 1, []⟩
theorem order_words {r : Rdr} {n : NewW} {c : Cmd} (hr : n.reads r.p c) (hy : r.why = 0) (hw : ∀ j, j < 7 → r.words[j]? = n.ws[j]?) (side : Int) :
    (r.pos 1).order0 side = ⟨r.pos 7, ⟨1, c.id, c.inst, side, c.price, c.qty, 0, 1, []⟩, []⟩ := by
  have h1 : r.words[1]? = some n.nm := hw 1 (by decide)
  have h2 : r.words[2]? = some n.q := hw 2 (by decide)
  have h3 : r.words[3]? = some n.a := hw 3 (by decide)
  have h4 : r.words[4]? = some n.pr := hw 4 (by decide)
  have h5 : r.words[5]? = some n.i := hw 5 (by decide)
  have h6 : r.words[6]? = some n.id := hw 6 (by decide)
  have e1 : (r.pos 1).o1 = r.pos 2 := by
    have e : ((r.pos 1).p.find (foldF (r.pos 1).word)).2 = true := by
      rw [pos_word hy h1]
      show (r.p.find (foldF n.nm)).2 = true
      rw [hr.nm]
    rw [Rdr.o1, if_pos e, pos_next hy h1]
  obtain ⟨a1, a2⟩ := pos_num hy h2 hr.q
  have e2 : (r.pos 1).o2 = r.pos 4 := by rw [Rdr.o2, e1, a2, pos_must hy h3 hr.a]
  obtain ⟨b1, b2⟩ := pos_num hy h4 hr.pr
  have e3 : (r.pos 1).o3 = r.pos 6 := by rw [Rdr.o3, e2, b2, pos_must hy h5 hr.i]
  obtain ⟨c1, c2⟩ := pos_num hy h6 hr.id
  have e4 : ((r.pos 1).p.find (foldF (r.pos 1).word)).1 = c.inst := by
    rw [pos_word hy h1]
    show (r.p.find (foldF n.nm)).1 = c.inst
    rw [hr.nm]
  rw [Rdr.order0, e3, e2, e1, a1, b1, c1, c2, e4]
theorem words_get {s : List UInt8} {ws : List (List UInt8)} (h : wordsL s = ws) (p : Prd) (j : Nat) : (rdr0 p s).words[j]? = ws[j]? := by
  show (wordsL s)[j]? = _
  rw [h]
/-- A New's command, and where the reader stands, ahead of options and behind them. -/
theorem cmd_new {p : Prd} {s : List UInt8} {n : NewW} {c : Cmd} {tl : List (List UInt8)} (hr : n.reads p c) (h : wordsL s = n.ws ++ tl) :
    (rdr0 p s).cmd = ((Opt.run (n.ws ++ tl).length ⟨(rdr0 p s).pos 7, newC c, []⟩).r, (Opt.run (n.ws ++ tl).length ⟨(rdr0 p s).pos 7, newC c, []⟩).c) := by
  have hy : (rdr0 p s).why = 0 := rfl
  have hw : ∀ j, j < 7 → (rdr0 p s).words[j]? = n.ws[j]? := fun j hj => by
    rw [words_get h, List.getElem?_append_left (by exact hj)]
  have h0 : (rdr0 p s).words[0]? = some n.w0 := hw 0 (by decide)
  have hne : ¬ (rdr0 p s).words = [] := by
    intro e; rw [e] at h0; cases h0
  have hp : (rdr0 p s).p = p := rfl
  have ho := fun side => order_words (r := rdr0 p s) (n := n) (c := c) (by rw [hp]; exact hr) hy hw side
  have hwl : ((rdr0 p s).pos 1).words.length = (n.ws ++ tl).length := by
    show (wordsL s).length = _
    rw [h]
  have hor : ∀ side, ((rdr0 p s).pos 1).order side = Opt.run (n.ws ++ tl).length ⟨(rdr0 p s).pos 7, ⟨1, c.id, c.inst, side, c.price, c.qty, 0, 1, []⟩, []⟩ := fun side => by
    rw [Rdr.order, ho side, hwl]
  rw [rdr_pos] at hne
  conv => lhs; rw [rdr_pos]
  rw [Rdr.cmd, if_neg hne, pos_word hy h0, pos_next hy h0]
  rcases hr.w0 with ⟨e, e2⟩ | ⟨e, e2⟩
  · rw [e, if_neg (by decide), if_neg (by decide), if_neg (by decide), if_pos rfl, hor 1, newC, e2]
  · rw [e, if_neg (by decide), if_neg (by decide), if_neg (by decide), if_neg (by decide), if_pos rfl, hor 2, newC, e2]
theorem run_behind {os : List OI} {n : NewW} {p : Prd} {s : List UInt8} {c : Cmd} (h : wordsL s = n.ws ++ oWords os) (ho : ∀ o ∈ os, o.reads) (hd : (os.map OI.kind).Nodup) (m : Nat) :
    Opt.run (os.length + m) ⟨(rdr0 p s).pos 7, c, []⟩ = Opt.run m ⟨(rdr0 p s).pos (7 + (oWords os).length), oAll os c, os.map OI.kind⟩ := by
  have := orun_all os m 7 (rdr0 p s) c [] ho hd (fun _ _ => by simp) rfl (fun j hj => by
    rw [words_get h, List.getElem?_append_right (by show 7 ≤ 7 + j; omega)]
    show (oWords os)[7 + j - 7]? = _
    rw [Nat.add_sub_cancel_left])
  rw [List.nil_append] at this
  exact this
theorem oWords_len : ∀ (os : List OI), (∀ o ∈ os, o.reads) → os.length ≤ (oWords os).length
  | [], _ => by simp
  | o :: os, h => by
    have := oWords_len os (fun x hx => h x (List.mem_cons_of_mem _ hx))
    have h2 : 0 < o.ws.length := List.length_pos_iff.2 (h o List.mem_cons_self).1
    have el : (oWords (o :: os)).length = o.ws.length + (oWords os).length := by simp [oWords]
    rw [el, List.length_cons]; omega
theorem parse_new {p : Prd} {s : List UInt8} {n : NewW} {c : Cmd} {os : List OI} (hr : n.reads p c) (h : wordsL s = n.ws ++ oWords os) (ho : ∀ o ∈ os, o.reads) (hd : (os.map OI.kind).Nodup)
    (hR : (oAll os (newC c)).right = 0) : parseF p s = (oAll os (newC c), 0, 0) := by
  have hl := oWords_len os ho
  have hcmd := cmd_new hr h
  have hn : (n.ws ++ oWords os).length = os.length + (7 + (oWords os).length - os.length) := by
    rw [List.length_append]
    show 7 + _ = _
    omega
  have hwl : (rdr0 p s).words.length = 7 + (oWords os).length := by
    show (wordsL s).length = _
    rw [h, List.length_append]; rfl
  rw [hn, run_behind h ho hd, run_stop (x := ⟨(rdr0 p s).pos (7 + (oWords os).length), oAll os (newC c), os.map OI.kind⟩) (pos_end (by omega))] at hcmd
  rw [parseF, hcmd]
  dsimp only
  rw [pos_rest (by omega)]
  have e : ((rdr0 p s).pos (7 + (oWords os).length)).why = 0 := rfl
  rw [if_neg (by rw [e]; simp), if_neg (by rw [hR]; simp)]
/-- What comes twice is refused. -/
theorem parse_taken {p : Prd} {s : List UInt8} {n : NewW} {c : Cmd} {os : List OI} {w : List UInt8} {tl : List (List UInt8)} (hr : n.reads p c) (h : wordsL s = n.ws ++ (oWords os ++ w :: tl)) (ho : ∀ o ∈ os, o.reads) (hd : (os.map OI.kind).Nodup)
    (hk : kindW (foldF w) ∈ os.map OI.kind) : parseF p s = (cmd0, 25, (wordsA s).getD (7 + (oWords os).length) 0) := by
  have hl := oWords_len os ho
  have hcmd := cmd_new hr h
  have hn : (n.ws ++ (oWords os ++ w :: tl)).length = os.length + ((7 + (oWords os).length - os.length + tl.length) + 1) := by
    rw [List.length_append, List.length_append]
    show 7 + _ = _
    rw [List.length_cons]
    omega
  have hy : (rdr0 p s).why = 0 := rfl
  have hw : (rdr0 p s).words[7 + (oWords os).length]? = some w := by
    rw [words_get h, List.getElem?_append_right (by show 7 ≤ _; omega)]
    show (oWords os ++ w :: tl)[7 + (oWords os).length - 7]? = _
    rw [Nat.add_sub_cancel_left, List.getElem?_append_right (Nat.le_refl _), Nat.sub_self]; rfl
  have hrun := orun_all os ((7 + (oWords os).length - os.length + tl.length) + 1) 7 (rdr0 p s) (newC c) [] ho hd (fun _ _ => by simp) rfl (fun j hj => by
    rw [words_get h, List.getElem?_append_right (by show 7 ≤ 7 + j; omega)]
    show (oWords os ++ w :: tl)[7 + j - 7]? = _
    rw [Nat.add_sub_cancel_left, List.getElem?_append_left hj])
  rw [List.nil_append] at hrun
  have hst : Opt.step ⟨(rdr0 p s).pos (7 + (oWords os).length), oAll os (newC c), os.map OI.kind⟩ = ⟨((rdr0 p s).pos (7 + (oWords os).length + 1)).fail 25 ((wordsA s).getD (7 + (oWords os).length) 0), oAll os (newC c), os.map OI.kind⟩ := by
    unfold Opt.step
    dsimp only
    rw [pos_word hy hw, pos_next hy hw, pos_here hy hw, if_pos hk]
    rfl
  have hf : (((rdr0 p s).pos (7 + (oWords os).length + 1)).fail 25 ((wordsA s).getD (7 + (oWords os).length) 0)).why = 25 := by
    rw [Rdr.fail, if_pos (show ((rdr0 p s).pos (7 + (oWords os).length + 1)).why = 0 from rfl)]
  have hpl : (((rdr0 p s).pos (7 + (oWords os).length + 1)).fail 25 ((wordsA s).getD (7 + (oWords os).length) 0)).place = (wordsA s).getD (7 + (oWords os).length) 0 := by
    rw [Rdr.fail, if_pos (show ((rdr0 p s).pos (7 + (oWords os).length + 1)).why = 0 from rfl)]
  have hmo : (((rdr0 p s).pos (7 + (oWords os).length + 1)).fail 25 ((wordsA s).getD (7 + (oWords os).length) 0)).more = false := by
    rw [Rdr.more, hf]; rfl
  rw [hn, hrun, Opt.run, if_pos (pos_more hy hw), hst, run_stop hmo] at hcmd
  generalize ((rdr0 p s).pos (7 + (oWords os).length + 1)).fail 25 ((wordsA s).getD (7 + (oWords os).length) 0) = X at hcmd hf hpl hmo
  have hre : X.rest = X := by
    unfold Rdr.rest
    rw [hmo]; rfl
  rw [parseF, hcmd]
  dsimp only
  rw [hre, hf, hpl]; rfl

/-! ### The other commands -/
theorem cmd_head {p : Prd} {s w : List UInt8} {ws : List (List UInt8)} (h : wordsL s = w :: ws) : ¬ ((rdr0 p s).pos 0).words = [] ∧ ((rdr0 p s).pos 0).word = w ∧ ((rdr0 p s).pos 0).next = (rdr0 p s).pos 1 := by
  have hy : (rdr0 p s).why = 0 := rfl
  have h0 : (rdr0 p s).words[0]? = some w := by rw [words_get h]; rfl
  refine ⟨fun e => ?_, pos_word hy h0, pos_next hy h0⟩
  have e : (rdr0 p s).words = [] := e
  rw [e] at h0
  cases h0
theorem parse_of {p : Prd} {s : List UInt8} {c : Cmd} {k : Nat} (hk : (wordsL s).length ≤ k) (h : (rdr0 p s).cmd = ((rdr0 p s).pos k, c)) (hR : c.right = 0) : parseF p s = (c, 0, 0) := by
  rw [parseF, h]
  dsimp only
  rw [pos_rest (show (rdr0 p s).words.length ≤ k from hk)]
  have e : ((rdr0 p s).pos k).why = 0 := rfl
  rw [if_neg (by rw [e]; simp), if_neg (by rw [hR]; simp)]
theorem parse_cancel {p : Prd} {s w a : List UInt8} {i : Int} (h : wordsL s = [w, a]) (hw : foldF w = wCANCEL) (ha : numF a = (i, true)) (hR : (⟨2, i, 0, 0, 0, 0, 0, 0, []⟩ : Cmd).right = 0) : parseF p s = (⟨2, i, 0, 0, 0, 0, 0, 0, []⟩, 0, 0) := by
  obtain ⟨n1, n2, n3⟩ := cmd_head (p := p) h
  have hy : (rdr0 p s).why = 0 := rfl
  obtain ⟨a1, a2⟩ := pos_num (k := 1) (w := a) hy (by rw [words_get h]; rfl) ha
  refine parse_of (k := 2) (by rw [h]; simp) ?_ hR
  conv => lhs; rw [rdr_pos]
  rw [Rdr.cmd, if_neg n1, n2, n3, hw, if_pos rfl, a1, a2]
theorem parse_cut {p : Prd} {s w a b : List UInt8} {i q : Int} (h : wordsL s = [w, a, b]) (hw : foldF w = wCUT) (ha : numF a = (i, true)) (hb : numF b = (q, true)) (hR : (⟨3, i, 0, 0, 0, q, 0, 0, []⟩ : Cmd).right = 0) : parseF p s = (⟨3, i, 0, 0, 0, q, 0, 0, []⟩, 0, 0) := by
  obtain ⟨n1, n2, n3⟩ := cmd_head (p := p) h
  have hy : (rdr0 p s).why = 0 := rfl
  obtain ⟨a1, a2⟩ := pos_num (k := 1) (w := a) hy (by rw [words_get h]; rfl) ha
  obtain ⟨b1, b2⟩ := pos_num (k := 2) (w := b) hy (by rw [words_get h]; rfl) hb
  refine parse_of (k := 3) (by rw [h]; simp) ?_ hR
  conv => lhs; rw [rdr_pos]
  rw [Rdr.cmd, if_neg n1, n2, n3, hw, if_neg (by decide), if_pos rfl, a1, a2, b1, b2]
theorem parse_change {p : Prd} {s w a b d : List UInt8} {i x q : Int} (h : wordsL s = [w, a, b, d]) (hw : foldF w = wCHANGE) (ha : numF a = (i, true)) (hb : numF b = (x, true)) (hd : numF d = (q, true)) (hR : (⟨4, i, 0, 0, x, q, 0, 0, []⟩ : Cmd).right = 0) : parseF p s = (⟨4, i, 0, 0, x, q, 0, 0, []⟩, 0, 0) := by
  obtain ⟨n1, n2, n3⟩ := cmd_head (p := p) h
  have hy : (rdr0 p s).why = 0 := rfl
  obtain ⟨a1, a2⟩ := pos_num (k := 1) (w := a) hy (by rw [words_get h]; rfl) ha
  obtain ⟨b1, b2⟩ := pos_num (k := 2) (w := b) hy (by rw [words_get h]; rfl) hb
  obtain ⟨d1, d2⟩ := pos_num (k := 3) (w := d) hy (by rw [words_get h]; rfl) hd
  refine parse_of (k := 4) (by rw [h]; simp) ?_ hR
  conv => lhs; rw [rdr_pos]
  rw [Rdr.cmd, if_neg n1, n2, n3, hw, if_neg (by decide), if_neg (by decide), if_pos rfl, a1, a2, b1, b2, d1, d2]

end Sx

namespace Sx
set_option linter.unusedVariables false
set_option maxRecDepth 100000
open Go Cv Go.Proofs

def fmtC : Con := con1 Int (fun n => [i64V n, i64V 10]) (fun _ => []) (fun n => i64r n) (fun n => sV (digF n)) (fun _ => [])
def Cmd.ask (c : Cmd) : Cmd := if c.kind = 1 then c else if c.kind = 2 then ⟨2, c.id, 0, 0, 0, 0, 0, 0, []⟩ else if c.kind = 3 then ⟨3, c.id, 0, 0, 0, c.qty, 0, 0, []⟩ else if c.kind = 4 then ⟨4, c.id, 0, 0, c.price, c.qty, 0, 0, []⟩ else cmd0
def askC : Con := con1 Cmd (fun c => [cmdV c]) (fun _ => []) (fun c => True) (fun c => cmdV c.ask) (fun _ => [])

def pBUY : List UInt8 := [98, 117, 121]
def pSELL : List UInt8 := [115, 101, 108, 108]
def pAT : List UInt8 := [97, 116]
def pID : List UInt8 := [105, 100]
def pLEAST : List UInt8 := [108, 101, 97, 115, 116]
def pNOW : List UInt8 := [110, 111, 119]
def pWHOLE : List UInt8 := [119, 104, 111, 108, 101]
def pLABEL : List UInt8 := [108, 97, 98, 101, 108]
def pCANCEL : List UInt8 := [99, 97, 110, 99, 101, 108]
def pCUT : List UInt8 := [99, 117, 116]
def pCHANGE : List UInt8 := [99, 104, 97, 110, 103, 101]
structure PcI where
  p : Prd
  c : Cmd
/-- A New's words. -/
def nwW (p : Prd) (c : Cmd) : NewW := ⟨if c.side = 2 then pSELL else pBUY, p.name c.inst, digF c.qty, pAT, digF c.price, pID, digF c.id⟩
def nwO (c : Cmd) : List OI := (if c.least ≠ 0 then [oLeast pLEAST (digF c.least) c.least] else []) ++ (if c.time = 2 then [oTime pNOW 2] else if c.time = 3 then [oTime pWHOLE 3] else []) ++ (if c.label ≠ [] then [oLabel pLABEL c.label] else [])
def sepL : List (List UInt8) → List UInt8
  | [] => []
  | w :: ws => w ++ sepW 0 ws
def lineW (p : Prd) (c : Cmd) : List (List UInt8) := if c.kind = 1 then (nwW p c).ws ++ oWords (nwO c) else if c.kind = 2 then [pCANCEL, digF c.id] else if c.kind = 3 then [pCUT, digF c.id, digF c.qty] else [pCHANGE, digF c.id, digF c.price, digF c.qty]
def lineF (p : Prd) (c : Cmd) : List UInt8 := sepL (lineW p c)
def prntC : Con := con1 PcI (fun i => [prdV i.p, cmdV i.c]) (fun _ => []) (fun i => i.p.small ∧ i.p.code.length ≤ 1000 ∧ i.c.raw ∧ i.c.label.length ≤ 1000) (fun i => sV (sepL ((nwW i.p i.c).ws ++ oWords (nwO i.c)))) (fun _ => [])
def printF (p : Prd) (c : Cmd) : List UInt8 := if c.right ≠ 0 then [] else if (parseF p (lineF p c)).2.1 ≠ 0 ∨ (parseF p (lineF p c)).1 ≠ c.ask then [] else lineF p c
def printC : Con := con1 PcI (fun i => [prdV i.p, cmdV i.c]) (fun _ => []) (fun i => i.p.small ∧ i.p.code.length ≤ 1000 ∧ i.c.raw ∧ i.c.label.length ≤ 1000) (fun i => sV (printF i.p i.c)) (fun _ => [])

end Sx

namespace Sx
set_option linter.unusedVariables false
set_option maxRecDepth 100000
open Go Cv Go.Proofs
def Vdigs (n : Int) : Prop :=
  ∃ (i : Int), i = n ∧ (10 : Int) = (10 : Int) ∧ ((-9223372036854775808 : Int) ≤ i ∧ i ≤ (9223372036854775807 : Int)) ∧ ∀ (o : Unit), True → ∃ (o : Unit), sb (digF n) = sb (digF i) ∧ True
theorem eqdigs (n : Int) : Vdigs n = walk Tryd.prog ([(43, fmtC)]) 0 ([]) ([]) [] Tryd.f27 (Tryd.f27.body.getD .skip) (digC.pat n) (digC.pre n) (digC.alts n) := by kernel_rfl

theorem bydigs (hG : GOk Tryd.prog ([(43, fmtC)])) (h : ∀ (n : Int), digC.cnd n → Vdigs n) : digC.ok Tryd.prog 27 := ok_of_walk mixed ([(43, fmtC)]) hG 0 (fun (n : Int) => []) (fun (n : Int) => []) [] Tryd.func27 (by kernel_rfl) (by kernel_rfl) (by kernel_rfl) (fun _ => by kernel_rfl) (fun (n : Int) hc => Eq.mp (eqdigs n) (h n hc))

def Vask (c : Cmd) : Prop :=
  cnd (c.kind == (1 : Int)) (∃ (o : Unit), c.ask.kind = (1 : Int) ∧ c.ask.id = c.id ∧ c.ask.inst = c.inst ∧ c.ask.side = c.side ∧ c.ask.price = c.price ∧ c.ask.qty = c.qty ∧ c.ask.least = c.least ∧ c.ask.time = c.time ∧ sb c.ask.label = sb c.label ∧ True) (cnd (c.kind == (2 : Int)) (∃ (o : Unit), c.ask.kind = (2 : Int) ∧ c.ask.id = c.id ∧ c.ask.inst = (0 : Int) ∧ c.ask.side = (0 : Int) ∧ c.ask.price = (0 : Int) ∧ c.ask.qty = (0 : Int) ∧ c.ask.least = (0 : Int) ∧ c.ask.time = (0 : Int) ∧ sb c.ask.label = ByteArray.mk #[] ∧ True) (cnd (c.kind == (3 : Int)) (∃ (o : Unit), c.ask.kind = (3 : Int) ∧ c.ask.id = c.id ∧ c.ask.inst = (0 : Int) ∧ c.ask.side = (0 : Int) ∧ c.ask.price = (0 : Int) ∧ c.ask.qty = c.qty ∧ c.ask.least = (0 : Int) ∧ c.ask.time = (0 : Int) ∧ sb c.ask.label = ByteArray.mk #[] ∧ True) (cnd (c.kind == (4 : Int)) (∃ (o : Unit), c.ask.kind = (4 : Int) ∧ c.ask.id = c.id ∧ c.ask.inst = (0 : Int) ∧ c.ask.side = (0 : Int) ∧ c.ask.price = c.price ∧ c.ask.qty = c.qty ∧ c.ask.least = (0 : Int) ∧ c.ask.time = (0 : Int) ∧ sb c.ask.label = ByteArray.mk #[] ∧ True) (∃ (o : Unit), c.ask.kind = (0 : Int) ∧ c.ask.id = (0 : Int) ∧ c.ask.inst = (0 : Int) ∧ c.ask.side = (0 : Int) ∧ c.ask.price = (0 : Int) ∧ c.ask.qty = (0 : Int) ∧ c.ask.least = (0 : Int) ∧ c.ask.time = (0 : Int) ∧ sb c.ask.label = ByteArray.mk #[] ∧ True))))
theorem eqask (c : Cmd) : Vask c = walk Tryd.prog ([]) 3 ([]) ([]) [] Tryd.f28 (Tryd.f28.body.getD .skip) (askC.pat c) (askC.pre c) (askC.alts c) := by kernel_rfl

theorem byask (hG : GOk Tryd.prog ([])) (h : ∀ (c : Cmd), askC.cnd c → Vask c) : askC.ok Tryd.prog 28 := ok_of_walk mixed ([]) hG 3 (fun (c : Cmd) => []) (fun (c : Cmd) => []) [] Tryd.func28 (by kernel_rfl) (by kernel_rfl) (by kernel_rfl) (fun _ => by kernel_rfl) (fun (c : Cmd) hc => Eq.mp (eqask c) (h c hc))

def Vask6 (c : Cmd) : Prop :=
  cnd (c.kind == (1 : Int)) (∃ (o : Unit), c.ask.kind = c.kind ∧ c.ask.id = c.id ∧ c.ask.inst = c.inst ∧ c.ask.side = c.side ∧ c.ask.price = c.price ∧ c.ask.qty = c.qty ∧ c.ask.least = c.least ∧ c.ask.time = c.time ∧ sb c.ask.label = sb c.label ∧ True) (cnd (c.kind == (2 : Int)) (∃ (o : Unit), c.ask.kind = c.kind ∧ c.ask.id = c.id ∧ c.ask.inst = (0 : Int) ∧ c.ask.side = (0 : Int) ∧ c.ask.price = (0 : Int) ∧ c.ask.qty = (0 : Int) ∧ c.ask.least = (0 : Int) ∧ c.ask.time = (0 : Int) ∧ sb c.ask.label = ByteArray.mk #[] ∧ True) (cnd (c.kind == (3 : Int)) (∃ (o : Unit), c.ask.kind = c.kind ∧ c.ask.id = c.id ∧ c.ask.inst = (0 : Int) ∧ c.ask.side = (0 : Int) ∧ c.ask.price = (0 : Int) ∧ c.ask.qty = c.qty ∧ c.ask.least = (0 : Int) ∧ c.ask.time = (0 : Int) ∧ sb c.ask.label = ByteArray.mk #[] ∧ True) (cnd (c.kind == (4 : Int)) (∃ (o : Unit), c.ask.kind = c.kind ∧ c.ask.id = c.id ∧ c.ask.inst = (0 : Int) ∧ c.ask.side = (0 : Int) ∧ c.ask.price = c.price ∧ c.ask.qty = c.qty ∧ c.ask.least = (0 : Int) ∧ c.ask.time = (0 : Int) ∧ sb c.ask.label = ByteArray.mk #[] ∧ True) (∃ (o : Unit), c.ask.kind = (0 : Int) ∧ c.ask.id = (0 : Int) ∧ c.ask.inst = (0 : Int) ∧ c.ask.side = (0 : Int) ∧ c.ask.price = (0 : Int) ∧ c.ask.qty = (0 : Int) ∧ c.ask.least = (0 : Int) ∧ c.ask.time = (0 : Int) ∧ sb c.ask.label = ByteArray.mk #[] ∧ True))))
theorem eqask6 (c : Cmd) : Vask6 c = walk Tryd.prog ([]) 0 ([]) ([]) [] Tryd.f18 (Tryd.f18.body.getD .skip) (askC.pat c) (askC.pre c) (askC.alts c) := by kernel_rfl

theorem byask6 (hG : GOk Tryd.prog ([])) (h : ∀ (c : Cmd), askC.cnd c → Vask6 c) : askC.ok Tryd.prog 18 := ok_of_walk mixed ([]) hG 0 (fun (c : Cmd) => []) (fun (c : Cmd) => []) [] Tryd.func18 (by kernel_rfl) (by kernel_rfl) (by kernel_rfl) (fun _ => by kernel_rfl) (fun (c : Cmd) hc => Eq.mp (eqask6 c) (h c hc))

def Vprnt (i : PcI) : Prop :=
  cnd (i.c.side == (2 : Int)) ((↑((ByteArray.mk #[(115 : UInt8), (101 : UInt8), (108 : UInt8), (108 : UInt8)]).size + (ByteArray.mk #[(32 : UInt8)]).size) : Int) ≤ IntKind.i64.max ∧ ∃ (i_1 : LegI), sb i_1.p.code = sb i.p.code ∧ iE i_1.p.months = iE i.p.months ∧ i_1.p.tick = i.p.tick ∧ i_1.p.low = i.p.low ∧ i_1.p.high = i.p.high ∧ i_1.p.wide = i.p.wide ∧ i_1.p.rule = i.p.rule ∧ i_1.p.top = i.p.top ∧ i_1.p.least = i.p.least ∧ i_1.p.part = i.p.part ∧ iE i_1.p.settle = iE i.p.settle ∧ i_1.n = i.c.inst ∧ (i_1.p.code.length ≤ (1099511627776 : Nat) ∧ i_1.p.months.length ≤ (1099511627776 : Nat) ∧ i_1.p.settle.length ≤ (1099511627776 : Nat)) ∧ ∀ (o : Unit), True → i.c.id = i.c.id ∧ i.c.price = i.c.price ∧ i.c.qty = i.c.qty ∧ (↑((ByteArray.mk #[(115 : UInt8), (101 : UInt8), (108 : UInt8), (108 : UInt8)] ++ ByteArray.mk #[(32 : UInt8)]).size + (sb (i_1.p.name i_1.n)).size) : Int) ≤ IntKind.i64.max ∧ (↑((ByteArray.mk #[(115 : UInt8), (101 : UInt8), (108 : UInt8), (108 : UInt8)] ++ ByteArray.mk #[(32 : UInt8)] ++ sb (i_1.p.name i_1.n)).size + (ByteArray.mk #[(32 : UInt8)]).size) : Int) ≤ IntKind.i64.max ∧ ∃ (i_2 : Int), i_2 = i.c.qty ∧ ((-9223372036854775808 : Int) ≤ i_2 ∧ i_2 ≤ (9223372036854775807 : Int)) ∧ ∀ (o : Unit), True → i.c.id = i.c.id ∧ i.c.price = i.c.price ∧ (↑((ByteArray.mk #[(115 : UInt8), (101 : UInt8), (108 : UInt8), (108 : UInt8)] ++ ByteArray.mk #[(32 : UInt8)] ++ sb (i_1.p.name i_1.n) ++ ByteArray.mk #[(32 : UInt8)]).size + (sb (digF i_2)).size) : Int) ≤ IntKind.i64.max ∧ (↑((ByteArray.mk #[(115 : UInt8), (101 : UInt8), (108 : UInt8), (108 : UInt8)] ++ ByteArray.mk #[(32 : UInt8)] ++ sb (i_1.p.name i_1.n) ++ ByteArray.mk #[(32 : UInt8)] ++ sb (digF i_2)).size + (ByteArray.mk #[(32 : UInt8), (97 : UInt8), (116 : UInt8), (32 : UInt8)]).size) : Int) ≤ IntKind.i64.max ∧ ∃ (i_3 : Int), i_3 = i.c.price ∧ ((-9223372036854775808 : Int) ≤ i_3 ∧ i_3 ≤ (9223372036854775807 : Int)) ∧ ∀ (o : Unit), True → i.c.id = i.c.id ∧ (↑((ByteArray.mk #[(115 : UInt8), (101 : UInt8), (108 : UInt8), (108 : UInt8)] ++ ByteArray.mk #[(32 : UInt8)] ++ sb (i_1.p.name i_1.n) ++ ByteArray.mk #[(32 : UInt8)] ++ sb (digF i_2) ++ ByteArray.mk #[(32 : UInt8), (97 : UInt8), (116 : UInt8), (32 : UInt8)]).size + (sb (digF i_3)).size) : Int) ≤ IntKind.i64.max ∧ (↑((ByteArray.mk #[(115 : UInt8), (101 : UInt8), (108 : UInt8), (108 : UInt8)] ++ ByteArray.mk #[(32 : UInt8)] ++ sb (i_1.p.name i_1.n) ++ ByteArray.mk #[(32 : UInt8)] ++ sb (digF i_2) ++ ByteArray.mk #[(32 : UInt8), (97 : UInt8), (116 : UInt8), (32 : UInt8)] ++ sb (digF i_3)).size + (ByteArray.mk #[(32 : UInt8), (105 : UInt8), (100 : UInt8), (32 : UInt8)]).size) : Int) ≤ IntKind.i64.max ∧ ∃ (i_4 : Int), i_4 = i.c.id ∧ ((-9223372036854775808 : Int) ≤ i_4 ∧ i_4 ≤ (9223372036854775807 : Int)) ∧ ∀ (o : Unit), True → (↑((ByteArray.mk #[(115 : UInt8), (101 : UInt8), (108 : UInt8), (108 : UInt8)] ++ ByteArray.mk #[(32 : UInt8)] ++ sb (i_1.p.name i_1.n) ++ ByteArray.mk #[(32 : UInt8)] ++ sb (digF i_2) ++ ByteArray.mk #[(32 : UInt8), (97 : UInt8), (116 : UInt8), (32 : UInt8)] ++ sb (digF i_3) ++ ByteArray.mk #[(32 : UInt8), (105 : UInt8), (100 : UInt8), (32 : UInt8)]).size + (sb (digF i_4)).size) : Int) ≤ IntKind.i64.max ∧ cnd (i.c.least != (0 : Int)) (∃ (i_5 : Int), i_5 = i.c.least ∧ ((-9223372036854775808 : Int) ≤ i_5 ∧ i_5 ≤ (9223372036854775807 : Int)) ∧ ∀ (o : Unit), True → (↑((ByteArray.mk #[(32 : UInt8), (108 : UInt8), (101 : UInt8), (97 : UInt8), (115 : UInt8), (116 : UInt8), (32 : UInt8)]).size + (sb (digF i_5)).size) : Int) ≤ IntKind.i64.max ∧ (↑((ByteArray.mk #[(115 : UInt8), (101 : UInt8), (108 : UInt8), (108 : UInt8)] ++ ByteArray.mk #[(32 : UInt8)] ++ sb (i_1.p.name i_1.n) ++ ByteArray.mk #[(32 : UInt8)] ++ sb (digF i_2) ++ ByteArray.mk #[(32 : UInt8), (97 : UInt8), (116 : UInt8), (32 : UInt8)] ++ sb (digF i_3) ++ ByteArray.mk #[(32 : UInt8), (105 : UInt8), (100 : UInt8), (32 : UInt8)] ++ sb (digF i_4)).size + (ByteArray.mk #[(32 : UInt8), (108 : UInt8), (101 : UInt8), (97 : UInt8), (115 : UInt8), (116 : UInt8), (32 : UInt8)] ++ sb (digF i_5)).size) : Int) ≤ IntKind.i64.max ∧ cnd (i.c.time == (2 : Int)) ((↑((ByteArray.mk #[(115 : UInt8), (101 : UInt8), (108 : UInt8), (108 : UInt8)] ++ ByteArray.mk #[(32 : UInt8)] ++ sb (i_1.p.name i_1.n) ++ ByteArray.mk #[(32 : UInt8)] ++ sb (digF i_2) ++ ByteArray.mk #[(32 : UInt8), (97 : UInt8), (116 : UInt8), (32 : UInt8)] ++ sb (digF i_3) ++ ByteArray.mk #[(32 : UInt8), (105 : UInt8), (100 : UInt8), (32 : UInt8)] ++ sb (digF i_4) ++ (ByteArray.mk #[(32 : UInt8), (108 : UInt8), (101 : UInt8), (97 : UInt8), (115 : UInt8), (116 : UInt8), (32 : UInt8)] ++ sb (digF i_5))).size + (ByteArray.mk #[(32 : UInt8), (110 : UInt8), (111 : UInt8), (119 : UInt8)]).size) : Int) ≤ IntKind.i64.max ∧ cnd (!(sb i.c.label).toList == (ByteArray.mk #[]).toList) ((↑((ByteArray.mk #[(32 : UInt8), (108 : UInt8), (97 : UInt8), (98 : UInt8), (101 : UInt8), (108 : UInt8), (32 : UInt8)]).size + (sb i.c.label).size) : Int) ≤ IntKind.i64.max ∧ (↑((ByteArray.mk #[(115 : UInt8), (101 : UInt8), (108 : UInt8), (108 : UInt8)] ++ ByteArray.mk #[(32 : UInt8)] ++ sb (i_1.p.name i_1.n) ++ ByteArray.mk #[(32 : UInt8)] ++ sb (digF i_2) ++ ByteArray.mk #[(32 : UInt8), (97 : UInt8), (116 : UInt8), (32 : UInt8)] ++ sb (digF i_3) ++ ByteArray.mk #[(32 : UInt8), (105 : UInt8), (100 : UInt8), (32 : UInt8)] ++ sb (digF i_4) ++ (ByteArray.mk #[(32 : UInt8), (108 : UInt8), (101 : UInt8), (97 : UInt8), (115 : UInt8), (116 : UInt8), (32 : UInt8)] ++ sb (digF i_5)) ++ ByteArray.mk #[(32 : UInt8), (110 : UInt8), (111 : UInt8), (119 : UInt8)]).size + (ByteArray.mk #[(32 : UInt8), (108 : UInt8), (97 : UInt8), (98 : UInt8), (101 : UInt8), (108 : UInt8), (32 : UInt8)] ++ sb i.c.label).size) : Int) ≤ IntKind.i64.max ∧ ∃ (o : Unit), sb (sepL ((nwW i.p i.c).ws ++ oWords (nwO i.c))) = ByteArray.mk #[(115 : UInt8), (101 : UInt8), (108 : UInt8), (108 : UInt8)] ++ ByteArray.mk #[(32 : UInt8)] ++ sb (i_1.p.name i_1.n) ++ ByteArray.mk #[(32 : UInt8)] ++ sb (digF i_2) ++ ByteArray.mk #[(32 : UInt8), (97 : UInt8), (116 : UInt8), (32 : UInt8)] ++ sb (digF i_3) ++ ByteArray.mk #[(32 : UInt8), (105 : UInt8), (100 : UInt8), (32 : UInt8)] ++ sb (digF i_4) ++ (ByteArray.mk #[(32 : UInt8), (108 : UInt8), (101 : UInt8), (97 : UInt8), (115 : UInt8), (116 : UInt8), (32 : UInt8)] ++ sb (digF i_5)) ++ ByteArray.mk #[(32 : UInt8), (110 : UInt8), (111 : UInt8), (119 : UInt8)] ++ (ByteArray.mk #[(32 : UInt8), (108 : UInt8), (97 : UInt8), (98 : UInt8), (101 : UInt8), (108 : UInt8), (32 : UInt8)] ++ sb i.c.label) ∧ True) (∃ (o : Unit), sb (sepL ((nwW i.p i.c).ws ++ oWords (nwO i.c))) = ByteArray.mk #[(115 : UInt8), (101 : UInt8), (108 : UInt8), (108 : UInt8)] ++ ByteArray.mk #[(32 : UInt8)] ++ sb (i_1.p.name i_1.n) ++ ByteArray.mk #[(32 : UInt8)] ++ sb (digF i_2) ++ ByteArray.mk #[(32 : UInt8), (97 : UInt8), (116 : UInt8), (32 : UInt8)] ++ sb (digF i_3) ++ ByteArray.mk #[(32 : UInt8), (105 : UInt8), (100 : UInt8), (32 : UInt8)] ++ sb (digF i_4) ++ (ByteArray.mk #[(32 : UInt8), (108 : UInt8), (101 : UInt8), (97 : UInt8), (115 : UInt8), (116 : UInt8), (32 : UInt8)] ++ sb (digF i_5)) ++ ByteArray.mk #[(32 : UInt8), (110 : UInt8), (111 : UInt8), (119 : UInt8)] ∧ True)) (cnd (i.c.time == (3 : Int)) ((↑((ByteArray.mk #[(115 : UInt8), (101 : UInt8), (108 : UInt8), (108 : UInt8)] ++ ByteArray.mk #[(32 : UInt8)] ++ sb (i_1.p.name i_1.n) ++ ByteArray.mk #[(32 : UInt8)] ++ sb (digF i_2) ++ ByteArray.mk #[(32 : UInt8), (97 : UInt8), (116 : UInt8), (32 : UInt8)] ++ sb (digF i_3) ++ ByteArray.mk #[(32 : UInt8), (105 : UInt8), (100 : UInt8), (32 : UInt8)] ++ sb (digF i_4) ++ (ByteArray.mk #[(32 : UInt8), (108 : UInt8), (101 : UInt8), (97 : UInt8), (115 : UInt8), (116 : UInt8), (32 : UInt8)] ++ sb (digF i_5))).size + (ByteArray.mk #[(32 : UInt8), (119 : UInt8), (104 : UInt8), (111 : UInt8), (108 : UInt8), (101 : UInt8)]).size) : Int) ≤ IntKind.i64.max ∧ cnd (!(sb i.c.label).toList == (ByteArray.mk #[]).toList) ((↑((ByteArray.mk #[(32 : UInt8), (108 : UInt8), (97 : UInt8), (98 : UInt8), (101 : UInt8), (108 : UInt8), (32 : UInt8)]).size + (sb i.c.label).size) : Int) ≤ IntKind.i64.max ∧ (↑((ByteArray.mk #[(115 : UInt8), (101 : UInt8), (108 : UInt8), (108 : UInt8)] ++ ByteArray.mk #[(32 : UInt8)] ++ sb (i_1.p.name i_1.n) ++ ByteArray.mk #[(32 : UInt8)] ++ sb (digF i_2) ++ ByteArray.mk #[(32 : UInt8), (97 : UInt8), (116 : UInt8), (32 : UInt8)] ++ sb (digF i_3) ++ ByteArray.mk #[(32 : UInt8), (105 : UInt8), (100 : UInt8), (32 : UInt8)] ++ sb (digF i_4) ++ (ByteArray.mk #[(32 : UInt8), (108 : UInt8), (101 : UInt8), (97 : UInt8), (115 : UInt8), (116 : UInt8), (32 : UInt8)] ++ sb (digF i_5)) ++ ByteArray.mk #[(32 : UInt8), (119 : UInt8), (104 : UInt8), (111 : UInt8), (108 : UInt8), (101 : UInt8)]).size + (ByteArray.mk #[(32 : UInt8), (108 : UInt8), (97 : UInt8), (98 : UInt8), (101 : UInt8), (108 : UInt8), (32 : UInt8)] ++ sb i.c.label).size) : Int) ≤ IntKind.i64.max ∧ ∃ (o : Unit), sb (sepL ((nwW i.p i.c).ws ++ oWords (nwO i.c))) = ByteArray.mk #[(115 : UInt8), (101 : UInt8), (108 : UInt8), (108 : UInt8)] ++ ByteArray.mk #[(32 : UInt8)] ++ sb (i_1.p.name i_1.n) ++ ByteArray.mk #[(32 : UInt8)] ++ sb (digF i_2) ++ ByteArray.mk #[(32 : UInt8), (97 : UInt8), (116 : UInt8), (32 : UInt8)] ++ sb (digF i_3) ++ ByteArray.mk #[(32 : UInt8), (105 : UInt8), (100 : UInt8), (32 : UInt8)] ++ sb (digF i_4) ++ (ByteArray.mk #[(32 : UInt8), (108 : UInt8), (101 : UInt8), (97 : UInt8), (115 : UInt8), (116 : UInt8), (32 : UInt8)] ++ sb (digF i_5)) ++ ByteArray.mk #[(32 : UInt8), (119 : UInt8), (104 : UInt8), (111 : UInt8), (108 : UInt8), (101 : UInt8)] ++ (ByteArray.mk #[(32 : UInt8), (108 : UInt8), (97 : UInt8), (98 : UInt8), (101 : UInt8), (108 : UInt8), (32 : UInt8)] ++ sb i.c.label) ∧ True) (∃ (o : Unit), sb (sepL ((nwW i.p i.c).ws ++ oWords (nwO i.c))) = ByteArray.mk #[(115 : UInt8), (101 : UInt8), (108 : UInt8), (108 : UInt8)] ++ ByteArray.mk #[(32 : UInt8)] ++ sb (i_1.p.name i_1.n) ++ ByteArray.mk #[(32 : UInt8)] ++ sb (digF i_2) ++ ByteArray.mk #[(32 : UInt8), (97 : UInt8), (116 : UInt8), (32 : UInt8)] ++ sb (digF i_3) ++ ByteArray.mk #[(32 : UInt8), (105 : UInt8), (100 : UInt8), (32 : UInt8)] ++ sb (digF i_4) ++ (ByteArray.mk #[(32 : UInt8), (108 : UInt8), (101 : UInt8), (97 : UInt8), (115 : UInt8), (116 : UInt8), (32 : UInt8)] ++ sb (digF i_5)) ++ ByteArray.mk #[(32 : UInt8), (119 : UInt8), (104 : UInt8), (111 : UInt8), (108 : UInt8), (101 : UInt8)] ∧ True)) (cnd (!(sb i.c.label).toList == (ByteArray.mk #[]).toList) ((↑((ByteArray.mk #[(32 : UInt8), (108 : UInt8), (97 : UInt8), (98 : UInt8), (101 : UInt8), (108 : UInt8), (32 : UInt8)]).size + (sb i.c.label).size) : Int) ≤ IntKind.i64.max ∧ (↑((ByteArray.mk #[(115 : UInt8), (101 : UInt8), (108 : UInt8), (108 : UInt8)] ++ ByteArray.mk #[(32 : UInt8)] ++ sb (i_1.p.name i_1.n) ++ ByteArray.mk #[(32 : UInt8)] ++ sb (digF i_2) ++ ByteArray.mk #[(32 : UInt8), (97 : UInt8), (116 : UInt8), (32 : UInt8)] ++ sb (digF i_3) ++ ByteArray.mk #[(32 : UInt8), (105 : UInt8), (100 : UInt8), (32 : UInt8)] ++ sb (digF i_4) ++ (ByteArray.mk #[(32 : UInt8), (108 : UInt8), (101 : UInt8), (97 : UInt8), (115 : UInt8), (116 : UInt8), (32 : UInt8)] ++ sb (digF i_5))).size + (ByteArray.mk #[(32 : UInt8), (108 : UInt8), (97 : UInt8), (98 : UInt8), (101 : UInt8), (108 : UInt8), (32 : UInt8)] ++ sb i.c.label).size) : Int) ≤ IntKind.i64.max ∧ ∃ (o : Unit), sb (sepL ((nwW i.p i.c).ws ++ oWords (nwO i.c))) = ByteArray.mk #[(115 : UInt8), (101 : UInt8), (108 : UInt8), (108 : UInt8)] ++ ByteArray.mk #[(32 : UInt8)] ++ sb (i_1.p.name i_1.n) ++ ByteArray.mk #[(32 : UInt8)] ++ sb (digF i_2) ++ ByteArray.mk #[(32 : UInt8), (97 : UInt8), (116 : UInt8), (32 : UInt8)] ++ sb (digF i_3) ++ ByteArray.mk #[(32 : UInt8), (105 : UInt8), (100 : UInt8), (32 : UInt8)] ++ sb (digF i_4) ++ (ByteArray.mk #[(32 : UInt8), (108 : UInt8), (101 : UInt8), (97 : UInt8), (115 : UInt8), (116 : UInt8), (32 : UInt8)] ++ sb (digF i_5)) ++ (ByteArray.mk #[(32 : UInt8), (108 : UInt8), (97 : UInt8), (98 : UInt8), (101 : UInt8), (108 : UInt8), (32 : UInt8)] ++ sb i.c.label) ∧ True) (∃ (o : Unit), sb (sepL ((nwW i.p i.c).ws ++ oWords (nwO i.c))) = ByteArray.mk #[(115 : UInt8), (101 : UInt8), (108 : UInt8), (108 : UInt8)] ++ ByteArray.mk #[(32 : UInt8)] ++ sb (i_1.p.name i_1.n) ++ ByteArray.mk #[(32 : UInt8)] ++ sb (digF i_2) ++ ByteArray.mk #[(32 : UInt8), (97 : UInt8), (116 : UInt8), (32 : UInt8)] ++ sb (digF i_3) ++ ByteArray.mk #[(32 : UInt8), (105 : UInt8), (100 : UInt8), (32 : UInt8)] ++ sb (digF i_4) ++ (ByteArray.mk #[(32 : UInt8), (108 : UInt8), (101 : UInt8), (97 : UInt8), (115 : UInt8), (116 : UInt8), (32 : UInt8)] ++ sb (digF i_5)) ∧ True)))) (cnd (i.c.time == (2 : Int)) ((↑((ByteArray.mk #[(115 : UInt8), (101 : UInt8), (108 : UInt8), (108 : UInt8)] ++ ByteArray.mk #[(32 : UInt8)] ++ sb (i_1.p.name i_1.n) ++ ByteArray.mk #[(32 : UInt8)] ++ sb (digF i_2) ++ ByteArray.mk #[(32 : UInt8), (97 : UInt8), (116 : UInt8), (32 : UInt8)] ++ sb (digF i_3) ++ ByteArray.mk #[(32 : UInt8), (105 : UInt8), (100 : UInt8), (32 : UInt8)] ++ sb (digF i_4)).size + (ByteArray.mk #[(32 : UInt8), (110 : UInt8), (111 : UInt8), (119 : UInt8)]).size) : Int) ≤ IntKind.i64.max ∧ cnd (!(sb i.c.label).toList == (ByteArray.mk #[]).toList) ((↑((ByteArray.mk #[(32 : UInt8), (108 : UInt8), (97 : UInt8), (98 : UInt8), (101 : UInt8), (108 : UInt8), (32 : UInt8)]).size + (sb i.c.label).size) : Int) ≤ IntKind.i64.max ∧ (↑((ByteArray.mk #[(115 : UInt8), (101 : UInt8), (108 : UInt8), (108 : UInt8)] ++ ByteArray.mk #[(32 : UInt8)] ++ sb (i_1.p.name i_1.n) ++ ByteArray.mk #[(32 : UInt8)] ++ sb (digF i_2) ++ ByteArray.mk #[(32 : UInt8), (97 : UInt8), (116 : UInt8), (32 : UInt8)] ++ sb (digF i_3) ++ ByteArray.mk #[(32 : UInt8), (105 : UInt8), (100 : UInt8), (32 : UInt8)] ++ sb (digF i_4) ++ ByteArray.mk #[(32 : UInt8), (110 : UInt8), (111 : UInt8), (119 : UInt8)]).size + (ByteArray.mk #[(32 : UInt8), (108 : UInt8), (97 : UInt8), (98 : UInt8), (101 : UInt8), (108 : UInt8), (32 : UInt8)] ++ sb i.c.label).size) : Int) ≤ IntKind.i64.max ∧ ∃ (o : Unit), sb (sepL ((nwW i.p i.c).ws ++ oWords (nwO i.c))) = ByteArray.mk #[(115 : UInt8), (101 : UInt8), (108 : UInt8), (108 : UInt8)] ++ ByteArray.mk #[(32 : UInt8)] ++ sb (i_1.p.name i_1.n) ++ ByteArray.mk #[(32 : UInt8)] ++ sb (digF i_2) ++ ByteArray.mk #[(32 : UInt8), (97 : UInt8), (116 : UInt8), (32 : UInt8)] ++ sb (digF i_3) ++ ByteArray.mk #[(32 : UInt8), (105 : UInt8), (100 : UInt8), (32 : UInt8)] ++ sb (digF i_4) ++ ByteArray.mk #[(32 : UInt8), (110 : UInt8), (111 : UInt8), (119 : UInt8)] ++ (ByteArray.mk #[(32 : UInt8), (108 : UInt8), (97 : UInt8), (98 : UInt8), (101 : UInt8), (108 : UInt8), (32 : UInt8)] ++ sb i.c.label) ∧ True) (∃ (o : Unit), sb (sepL ((nwW i.p i.c).ws ++ oWords (nwO i.c))) = ByteArray.mk #[(115 : UInt8), (101 : UInt8), (108 : UInt8), (108 : UInt8)] ++ ByteArray.mk #[(32 : UInt8)] ++ sb (i_1.p.name i_1.n) ++ ByteArray.mk #[(32 : UInt8)] ++ sb (digF i_2) ++ ByteArray.mk #[(32 : UInt8), (97 : UInt8), (116 : UInt8), (32 : UInt8)] ++ sb (digF i_3) ++ ByteArray.mk #[(32 : UInt8), (105 : UInt8), (100 : UInt8), (32 : UInt8)] ++ sb (digF i_4) ++ ByteArray.mk #[(32 : UInt8), (110 : UInt8), (111 : UInt8), (119 : UInt8)] ∧ True)) (cnd (i.c.time == (3 : Int)) ((↑((ByteArray.mk #[(115 : UInt8), (101 : UInt8), (108 : UInt8), (108 : UInt8)] ++ ByteArray.mk #[(32 : UInt8)] ++ sb (i_1.p.name i_1.n) ++ ByteArray.mk #[(32 : UInt8)] ++ sb (digF i_2) ++ ByteArray.mk #[(32 : UInt8), (97 : UInt8), (116 : UInt8), (32 : UInt8)] ++ sb (digF i_3) ++ ByteArray.mk #[(32 : UInt8), (105 : UInt8), (100 : UInt8), (32 : UInt8)] ++ sb (digF i_4)).size + (ByteArray.mk #[(32 : UInt8), (119 : UInt8), (104 : UInt8), (111 : UInt8), (108 : UInt8), (101 : UInt8)]).size) : Int) ≤ IntKind.i64.max ∧ cnd (!(sb i.c.label).toList == (ByteArray.mk #[]).toList) ((↑((ByteArray.mk #[(32 : UInt8), (108 : UInt8), (97 : UInt8), (98 : UInt8), (101 : UInt8), (108 : UInt8), (32 : UInt8)]).size + (sb i.c.label).size) : Int) ≤ IntKind.i64.max ∧ (↑((ByteArray.mk #[(115 : UInt8), (101 : UInt8), (108 : UInt8), (108 : UInt8)] ++ ByteArray.mk #[(32 : UInt8)] ++ sb (i_1.p.name i_1.n) ++ ByteArray.mk #[(32 : UInt8)] ++ sb (digF i_2) ++ ByteArray.mk #[(32 : UInt8), (97 : UInt8), (116 : UInt8), (32 : UInt8)] ++ sb (digF i_3) ++ ByteArray.mk #[(32 : UInt8), (105 : UInt8), (100 : UInt8), (32 : UInt8)] ++ sb (digF i_4) ++ ByteArray.mk #[(32 : UInt8), (119 : UInt8), (104 : UInt8), (111 : UInt8), (108 : UInt8), (101 : UInt8)]).size + (ByteArray.mk #[(32 : UInt8), (108 : UInt8), (97 : UInt8), (98 : UInt8), (101 : UInt8), (108 : UInt8), (32 : UInt8)] ++ sb i.c.label).size) : Int) ≤ IntKind.i64.max ∧ ∃ (o : Unit), sb (sepL ((nwW i.p i.c).ws ++ oWords (nwO i.c))) = ByteArray.mk #[(115 : UInt8), (101 : UInt8), (108 : UInt8), (108 : UInt8)] ++ ByteArray.mk #[(32 : UInt8)] ++ sb (i_1.p.name i_1.n) ++ ByteArray.mk #[(32 : UInt8)] ++ sb (digF i_2) ++ ByteArray.mk #[(32 : UInt8), (97 : UInt8), (116 : UInt8), (32 : UInt8)] ++ sb (digF i_3) ++ ByteArray.mk #[(32 : UInt8), (105 : UInt8), (100 : UInt8), (32 : UInt8)] ++ sb (digF i_4) ++ ByteArray.mk #[(32 : UInt8), (119 : UInt8), (104 : UInt8), (111 : UInt8), (108 : UInt8), (101 : UInt8)] ++ (ByteArray.mk #[(32 : UInt8), (108 : UInt8), (97 : UInt8), (98 : UInt8), (101 : UInt8), (108 : UInt8), (32 : UInt8)] ++ sb i.c.label) ∧ True) (∃ (o : Unit), sb (sepL ((nwW i.p i.c).ws ++ oWords (nwO i.c))) = ByteArray.mk #[(115 : UInt8), (101 : UInt8), (108 : UInt8), (108 : UInt8)] ++ ByteArray.mk #[(32 : UInt8)] ++ sb (i_1.p.name i_1.n) ++ ByteArray.mk #[(32 : UInt8)] ++ sb (digF i_2) ++ ByteArray.mk #[(32 : UInt8), (97 : UInt8), (116 : UInt8), (32 : UInt8)] ++ sb (digF i_3) ++ ByteArray.mk #[(32 : UInt8), (105 : UInt8), (100 : UInt8), (32 : UInt8)] ++ sb (digF i_4) ++ ByteArray.mk #[(32 : UInt8), (119 : UInt8), (104 : UInt8), (111 : UInt8), (108 : UInt8), (101 : UInt8)] ∧ True)) (cnd (!(sb i.c.label).toList == (ByteArray.mk #[]).toList) ((↑((ByteArray.mk #[(32 : UInt8), (108 : UInt8), (97 : UInt8), (98 : UInt8), (101 : UInt8), (108 : UInt8), (32 : UInt8)]).size + (sb i.c.label).size) : Int) ≤ IntKind.i64.max ∧ (↑((ByteArray.mk #[(115 : UInt8), (101 : UInt8), (108 : UInt8), (108 : UInt8)] ++ ByteArray.mk #[(32 : UInt8)] ++ sb (i_1.p.name i_1.n) ++ ByteArray.mk #[(32 : UInt8)] ++ sb (digF i_2) ++ ByteArray.mk #[(32 : UInt8), (97 : UInt8), (116 : UInt8), (32 : UInt8)] ++ sb (digF i_3) ++ ByteArray.mk #[(32 : UInt8), (105 : UInt8), (100 : UInt8), (32 : UInt8)] ++ sb (digF i_4)).size + (ByteArray.mk #[(32 : UInt8), (108 : UInt8), (97 : UInt8), (98 : UInt8), (101 : UInt8), (108 : UInt8), (32 : UInt8)] ++ sb i.c.label).size) : Int) ≤ IntKind.i64.max ∧ ∃ (o : Unit), sb (sepL ((nwW i.p i.c).ws ++ oWords (nwO i.c))) = ByteArray.mk #[(115 : UInt8), (101 : UInt8), (108 : UInt8), (108 : UInt8)] ++ ByteArray.mk #[(32 : UInt8)] ++ sb (i_1.p.name i_1.n) ++ ByteArray.mk #[(32 : UInt8)] ++ sb (digF i_2) ++ ByteArray.mk #[(32 : UInt8), (97 : UInt8), (116 : UInt8), (32 : UInt8)] ++ sb (digF i_3) ++ ByteArray.mk #[(32 : UInt8), (105 : UInt8), (100 : UInt8), (32 : UInt8)] ++ sb (digF i_4) ++ (ByteArray.mk #[(32 : UInt8), (108 : UInt8), (97 : UInt8), (98 : UInt8), (101 : UInt8), (108 : UInt8), (32 : UInt8)] ++ sb i.c.label) ∧ True) (∃ (o : Unit), sb (sepL ((nwW i.p i.c).ws ++ oWords (nwO i.c))) = ByteArray.mk #[(115 : UInt8), (101 : UInt8), (108 : UInt8), (108 : UInt8)] ++ ByteArray.mk #[(32 : UInt8)] ++ sb (i_1.p.name i_1.n) ++ ByteArray.mk #[(32 : UInt8)] ++ sb (digF i_2) ++ ByteArray.mk #[(32 : UInt8), (97 : UInt8), (116 : UInt8), (32 : UInt8)] ++ sb (digF i_3) ++ ByteArray.mk #[(32 : UInt8), (105 : UInt8), (100 : UInt8), (32 : UInt8)] ++ sb (digF i_4) ∧ True))))) ((↑((ByteArray.mk #[(98 : UInt8), (117 : UInt8), (121 : UInt8)]).size + (ByteArray.mk #[(32 : UInt8)]).size) : Int) ≤ IntKind.i64.max ∧ ∃ (i_1 : LegI), sb i_1.p.code = sb i.p.code ∧ iE i_1.p.months = iE i.p.months ∧ i_1.p.tick = i.p.tick ∧ i_1.p.low = i.p.low ∧ i_1.p.high = i.p.high ∧ i_1.p.wide = i.p.wide ∧ i_1.p.rule = i.p.rule ∧ i_1.p.top = i.p.top ∧ i_1.p.least = i.p.least ∧ i_1.p.part = i.p.part ∧ iE i_1.p.settle = iE i.p.settle ∧ i_1.n = i.c.inst ∧ (i_1.p.code.length ≤ (1099511627776 : Nat) ∧ i_1.p.months.length ≤ (1099511627776 : Nat) ∧ i_1.p.settle.length ≤ (1099511627776 : Nat)) ∧ ∀ (o : Unit), True → i.c.id = i.c.id ∧ i.c.price = i.c.price ∧ i.c.qty = i.c.qty ∧ (↑((ByteArray.mk #[(98 : UInt8), (117 : UInt8), (121 : UInt8)] ++ ByteArray.mk #[(32 : UInt8)]).size + (sb (i_1.p.name i_1.n)).size) : Int) ≤ IntKind.i64.max ∧ (↑((ByteArray.mk #[(98 : UInt8), (117 : UInt8), (121 : UInt8)] ++ ByteArray.mk #[(32 : UInt8)] ++ sb (i_1.p.name i_1.n)).size + (ByteArray.mk #[(32 : UInt8)]).size) : Int) ≤ IntKind.i64.max ∧ ∃ (i_2 : Int), i_2 = i.c.qty ∧ ((-9223372036854775808 : Int) ≤ i_2 ∧ i_2 ≤ (9223372036854775807 : Int)) ∧ ∀ (o : Unit), True → i.c.id = i.c.id ∧ i.c.price = i.c.price ∧ (↑((ByteArray.mk #[(98 : UInt8), (117 : UInt8), (121 : UInt8)] ++ ByteArray.mk #[(32 : UInt8)] ++ sb (i_1.p.name i_1.n) ++ ByteArray.mk #[(32 : UInt8)]).size + (sb (digF i_2)).size) : Int) ≤ IntKind.i64.max ∧ (↑((ByteArray.mk #[(98 : UInt8), (117 : UInt8), (121 : UInt8)] ++ ByteArray.mk #[(32 : UInt8)] ++ sb (i_1.p.name i_1.n) ++ ByteArray.mk #[(32 : UInt8)] ++ sb (digF i_2)).size + (ByteArray.mk #[(32 : UInt8), (97 : UInt8), (116 : UInt8), (32 : UInt8)]).size) : Int) ≤ IntKind.i64.max ∧ ∃ (i_3 : Int), i_3 = i.c.price ∧ ((-9223372036854775808 : Int) ≤ i_3 ∧ i_3 ≤ (9223372036854775807 : Int)) ∧ ∀ (o : Unit), True → i.c.id = i.c.id ∧ (↑((ByteArray.mk #[(98 : UInt8), (117 : UInt8), (121 : UInt8)] ++ ByteArray.mk #[(32 : UInt8)] ++ sb (i_1.p.name i_1.n) ++ ByteArray.mk #[(32 : UInt8)] ++ sb (digF i_2) ++ ByteArray.mk #[(32 : UInt8), (97 : UInt8), (116 : UInt8), (32 : UInt8)]).size + (sb (digF i_3)).size) : Int) ≤ IntKind.i64.max ∧ (↑((ByteArray.mk #[(98 : UInt8), (117 : UInt8), (121 : UInt8)] ++ ByteArray.mk #[(32 : UInt8)] ++ sb (i_1.p.name i_1.n) ++ ByteArray.mk #[(32 : UInt8)] ++ sb (digF i_2) ++ ByteArray.mk #[(32 : UInt8), (97 : UInt8), (116 : UInt8), (32 : UInt8)] ++ sb (digF i_3)).size + (ByteArray.mk #[(32 : UInt8), (105 : UInt8), (100 : UInt8), (32 : UInt8)]).size) : Int) ≤ IntKind.i64.max ∧ ∃ (i_4 : Int), i_4 = i.c.id ∧ ((-9223372036854775808 : Int) ≤ i_4 ∧ i_4 ≤ (9223372036854775807 : Int)) ∧ ∀ (o : Unit), True → (↑((ByteArray.mk #[(98 : UInt8), (117 : UInt8), (121 : UInt8)] ++ ByteArray.mk #[(32 : UInt8)] ++ sb (i_1.p.name i_1.n) ++ ByteArray.mk #[(32 : UInt8)] ++ sb (digF i_2) ++ ByteArray.mk #[(32 : UInt8), (97 : UInt8), (116 : UInt8), (32 : UInt8)] ++ sb (digF i_3) ++ ByteArray.mk #[(32 : UInt8), (105 : UInt8), (100 : UInt8), (32 : UInt8)]).size + (sb (digF i_4)).size) : Int) ≤ IntKind.i64.max ∧ cnd (i.c.least != (0 : Int)) (∃ (i_5 : Int), i_5 = i.c.least ∧ ((-9223372036854775808 : Int) ≤ i_5 ∧ i_5 ≤ (9223372036854775807 : Int)) ∧ ∀ (o : Unit), True → (↑((ByteArray.mk #[(32 : UInt8), (108 : UInt8), (101 : UInt8), (97 : UInt8), (115 : UInt8), (116 : UInt8), (32 : UInt8)]).size + (sb (digF i_5)).size) : Int) ≤ IntKind.i64.max ∧ (↑((ByteArray.mk #[(98 : UInt8), (117 : UInt8), (121 : UInt8)] ++ ByteArray.mk #[(32 : UInt8)] ++ sb (i_1.p.name i_1.n) ++ ByteArray.mk #[(32 : UInt8)] ++ sb (digF i_2) ++ ByteArray.mk #[(32 : UInt8), (97 : UInt8), (116 : UInt8), (32 : UInt8)] ++ sb (digF i_3) ++ ByteArray.mk #[(32 : UInt8), (105 : UInt8), (100 : UInt8), (32 : UInt8)] ++ sb (digF i_4)).size + (ByteArray.mk #[(32 : UInt8), (108 : UInt8), (101 : UInt8), (97 : UInt8), (115 : UInt8), (116 : UInt8), (32 : UInt8)] ++ sb (digF i_5)).size) : Int) ≤ IntKind.i64.max ∧ cnd (i.c.time == (2 : Int)) ((↑((ByteArray.mk #[(98 : UInt8), (117 : UInt8), (121 : UInt8)] ++ ByteArray.mk #[(32 : UInt8)] ++ sb (i_1.p.name i_1.n) ++ ByteArray.mk #[(32 : UInt8)] ++ sb (digF i_2) ++ ByteArray.mk #[(32 : UInt8), (97 : UInt8), (116 : UInt8), (32 : UInt8)] ++ sb (digF i_3) ++ ByteArray.mk #[(32 : UInt8), (105 : UInt8), (100 : UInt8), (32 : UInt8)] ++ sb (digF i_4) ++ (ByteArray.mk #[(32 : UInt8), (108 : UInt8), (101 : UInt8), (97 : UInt8), (115 : UInt8), (116 : UInt8), (32 : UInt8)] ++ sb (digF i_5))).size + (ByteArray.mk #[(32 : UInt8), (110 : UInt8), (111 : UInt8), (119 : UInt8)]).size) : Int) ≤ IntKind.i64.max ∧ cnd (!(sb i.c.label).toList == (ByteArray.mk #[]).toList) ((↑((ByteArray.mk #[(32 : UInt8), (108 : UInt8), (97 : UInt8), (98 : UInt8), (101 : UInt8), (108 : UInt8), (32 : UInt8)]).size + (sb i.c.label).size) : Int) ≤ IntKind.i64.max ∧ (↑((ByteArray.mk #[(98 : UInt8), (117 : UInt8), (121 : UInt8)] ++ ByteArray.mk #[(32 : UInt8)] ++ sb (i_1.p.name i_1.n) ++ ByteArray.mk #[(32 : UInt8)] ++ sb (digF i_2) ++ ByteArray.mk #[(32 : UInt8), (97 : UInt8), (116 : UInt8), (32 : UInt8)] ++ sb (digF i_3) ++ ByteArray.mk #[(32 : UInt8), (105 : UInt8), (100 : UInt8), (32 : UInt8)] ++ sb (digF i_4) ++ (ByteArray.mk #[(32 : UInt8), (108 : UInt8), (101 : UInt8), (97 : UInt8), (115 : UInt8), (116 : UInt8), (32 : UInt8)] ++ sb (digF i_5)) ++ ByteArray.mk #[(32 : UInt8), (110 : UInt8), (111 : UInt8), (119 : UInt8)]).size + (ByteArray.mk #[(32 : UInt8), (108 : UInt8), (97 : UInt8), (98 : UInt8), (101 : UInt8), (108 : UInt8), (32 : UInt8)] ++ sb i.c.label).size) : Int) ≤ IntKind.i64.max ∧ ∃ (o : Unit), sb (sepL ((nwW i.p i.c).ws ++ oWords (nwO i.c))) = ByteArray.mk #[(98 : UInt8), (117 : UInt8), (121 : UInt8)] ++ ByteArray.mk #[(32 : UInt8)] ++ sb (i_1.p.name i_1.n) ++ ByteArray.mk #[(32 : UInt8)] ++ sb (digF i_2) ++ ByteArray.mk #[(32 : UInt8), (97 : UInt8), (116 : UInt8), (32 : UInt8)] ++ sb (digF i_3) ++ ByteArray.mk #[(32 : UInt8), (105 : UInt8), (100 : UInt8), (32 : UInt8)] ++ sb (digF i_4) ++ (ByteArray.mk #[(32 : UInt8), (108 : UInt8), (101 : UInt8), (97 : UInt8), (115 : UInt8), (116 : UInt8), (32 : UInt8)] ++ sb (digF i_5)) ++ ByteArray.mk #[(32 : UInt8), (110 : UInt8), (111 : UInt8), (119 : UInt8)] ++ (ByteArray.mk #[(32 : UInt8), (108 : UInt8), (97 : UInt8), (98 : UInt8), (101 : UInt8), (108 : UInt8), (32 : UInt8)] ++ sb i.c.label) ∧ True) (∃ (o : Unit), sb (sepL ((nwW i.p i.c).ws ++ oWords (nwO i.c))) = ByteArray.mk #[(98 : UInt8), (117 : UInt8), (121 : UInt8)] ++ ByteArray.mk #[(32 : UInt8)] ++ sb (i_1.p.name i_1.n) ++ ByteArray.mk #[(32 : UInt8)] ++ sb (digF i_2) ++ ByteArray.mk #[(32 : UInt8), (97 : UInt8), (116 : UInt8), (32 : UInt8)] ++ sb (digF i_3) ++ ByteArray.mk #[(32 : UInt8), (105 : UInt8), (100 : UInt8), (32 : UInt8)] ++ sb (digF i_4) ++ (ByteArray.mk #[(32 : UInt8), (108 : UInt8), (101 : UInt8), (97 : UInt8), (115 : UInt8), (116 : UInt8), (32 : UInt8)] ++ sb (digF i_5)) ++ ByteArray.mk #[(32 : UInt8), (110 : UInt8), (111 : UInt8), (119 : UInt8)] ∧ True)) (cnd (i.c.time == (3 : Int)) ((↑((ByteArray.mk #[(98 : UInt8), (117 : UInt8), (121 : UInt8)] ++ ByteArray.mk #[(32 : UInt8)] ++ sb (i_1.p.name i_1.n) ++ ByteArray.mk #[(32 : UInt8)] ++ sb (digF i_2) ++ ByteArray.mk #[(32 : UInt8), (97 : UInt8), (116 : UInt8), (32 : UInt8)] ++ sb (digF i_3) ++ ByteArray.mk #[(32 : UInt8), (105 : UInt8), (100 : UInt8), (32 : UInt8)] ++ sb (digF i_4) ++ (ByteArray.mk #[(32 : UInt8), (108 : UInt8), (101 : UInt8), (97 : UInt8), (115 : UInt8), (116 : UInt8), (32 : UInt8)] ++ sb (digF i_5))).size + (ByteArray.mk #[(32 : UInt8), (119 : UInt8), (104 : UInt8), (111 : UInt8), (108 : UInt8), (101 : UInt8)]).size) : Int) ≤ IntKind.i64.max ∧ cnd (!(sb i.c.label).toList == (ByteArray.mk #[]).toList) ((↑((ByteArray.mk #[(32 : UInt8), (108 : UInt8), (97 : UInt8), (98 : UInt8), (101 : UInt8), (108 : UInt8), (32 : UInt8)]).size + (sb i.c.label).size) : Int) ≤ IntKind.i64.max ∧ (↑((ByteArray.mk #[(98 : UInt8), (117 : UInt8), (121 : UInt8)] ++ ByteArray.mk #[(32 : UInt8)] ++ sb (i_1.p.name i_1.n) ++ ByteArray.mk #[(32 : UInt8)] ++ sb (digF i_2) ++ ByteArray.mk #[(32 : UInt8), (97 : UInt8), (116 : UInt8), (32 : UInt8)] ++ sb (digF i_3) ++ ByteArray.mk #[(32 : UInt8), (105 : UInt8), (100 : UInt8), (32 : UInt8)] ++ sb (digF i_4) ++ (ByteArray.mk #[(32 : UInt8), (108 : UInt8), (101 : UInt8), (97 : UInt8), (115 : UInt8), (116 : UInt8), (32 : UInt8)] ++ sb (digF i_5)) ++ ByteArray.mk #[(32 : UInt8), (119 : UInt8), (104 : UInt8), (111 : UInt8), (108 : UInt8), (101 : UInt8)]).size + (ByteArray.mk #[(32 : UInt8), (108 : UInt8), (97 : UInt8), (98 : UInt8), (101 : UInt8), (108 : UInt8), (32 : UInt8)] ++ sb i.c.label).size) : Int) ≤ IntKind.i64.max ∧ ∃ (o : Unit), sb (sepL ((nwW i.p i.c).ws ++ oWords (nwO i.c))) = ByteArray.mk #[(98 : UInt8), (117 : UInt8), (121 : UInt8)] ++ ByteArray.mk #[(32 : UInt8)] ++ sb (i_1.p.name i_1.n) ++ ByteArray.mk #[(32 : UInt8)] ++ sb (digF i_2) ++ ByteArray.mk #[(32 : UInt8), (97 : UInt8), (116 : UInt8), (32 : UInt8)] ++ sb (digF i_3) ++ ByteArray.mk #[(32 : UInt8), (105 : UInt8), (100 : UInt8), (32 : UInt8)] ++ sb (digF i_4) ++ (ByteArray.mk #[(32 : UInt8), (108 : UInt8), (101 : UInt8), (97 : UInt8), (115 : UInt8), (116 : UInt8), (32 : UInt8)] ++ sb (digF i_5)) ++ ByteArray.mk #[(32 : UInt8), (119 : UInt8), (104 : UInt8), (111 : UInt8), (108 : UInt8), (101 : UInt8)] ++ (ByteArray.mk #[(32 : UInt8), (108 : UInt8), (97 : UInt8), (98 : UInt8), (101 : UInt8), (108 : UInt8), (32 : UInt8)] ++ sb i.c.label) ∧ True) (∃ (o : Unit), sb (sepL ((nwW i.p i.c).ws ++ oWords (nwO i.c))) = ByteArray.mk #[(98 : UInt8), (117 : UInt8), (121 : UInt8)] ++ ByteArray.mk #[(32 : UInt8)] ++ sb (i_1.p.name i_1.n) ++ ByteArray.mk #[(32 : UInt8)] ++ sb (digF i_2) ++ ByteArray.mk #[(32 : UInt8), (97 : UInt8), (116 : UInt8), (32 : UInt8)] ++ sb (digF i_3) ++ ByteArray.mk #[(32 : UInt8), (105 : UInt8), (100 : UInt8), (32 : UInt8)] ++ sb (digF i_4) ++ (ByteArray.mk #[(32 : UInt8), (108 : UInt8), (101 : UInt8), (97 : UInt8), (115 : UInt8), (116 : UInt8), (32 : UInt8)] ++ sb (digF i_5)) ++ ByteArray.mk #[(32 : UInt8), (119 : UInt8), (104 : UInt8), (111 : UInt8), (108 : UInt8), (101 : UInt8)] ∧ True)) (cnd (!(sb i.c.label).toList == (ByteArray.mk #[]).toList) ((↑((ByteArray.mk #[(32 : UInt8), (108 : UInt8), (97 : UInt8), (98 : UInt8), (101 : UInt8), (108 : UInt8), (32 : UInt8)]).size + (sb i.c.label).size) : Int) ≤ IntKind.i64.max ∧ (↑((ByteArray.mk #[(98 : UInt8), (117 : UInt8), (121 : UInt8)] ++ ByteArray.mk #[(32 : UInt8)] ++ sb (i_1.p.name i_1.n) ++ ByteArray.mk #[(32 : UInt8)] ++ sb (digF i_2) ++ ByteArray.mk #[(32 : UInt8), (97 : UInt8), (116 : UInt8), (32 : UInt8)] ++ sb (digF i_3) ++ ByteArray.mk #[(32 : UInt8), (105 : UInt8), (100 : UInt8), (32 : UInt8)] ++ sb (digF i_4) ++ (ByteArray.mk #[(32 : UInt8), (108 : UInt8), (101 : UInt8), (97 : UInt8), (115 : UInt8), (116 : UInt8), (32 : UInt8)] ++ sb (digF i_5))).size + (ByteArray.mk #[(32 : UInt8), (108 : UInt8), (97 : UInt8), (98 : UInt8), (101 : UInt8), (108 : UInt8), (32 : UInt8)] ++ sb i.c.label).size) : Int) ≤ IntKind.i64.max ∧ ∃ (o : Unit), sb (sepL ((nwW i.p i.c).ws ++ oWords (nwO i.c))) = ByteArray.mk #[(98 : UInt8), (117 : UInt8), (121 : UInt8)] ++ ByteArray.mk #[(32 : UInt8)] ++ sb (i_1.p.name i_1.n) ++ ByteArray.mk #[(32 : UInt8)] ++ sb (digF i_2) ++ ByteArray.mk #[(32 : UInt8), (97 : UInt8), (116 : UInt8), (32 : UInt8)] ++ sb (digF i_3) ++ ByteArray.mk #[(32 : UInt8), (105 : UInt8), (100 : UInt8), (32 : UInt8)] ++ sb (digF i_4) ++ (ByteArray.mk #[(32 : UInt8), (108 : UInt8), (101 : UInt8), (97 : UInt8), (115 : UInt8), (116 : UInt8), (32 : UInt8)] ++ sb (digF i_5)) ++ (ByteArray.mk #[(32 : UInt8), (108 : UInt8), (97 : UInt8), (98 : UInt8), (101 : UInt8), (108 : UInt8), (32 : UInt8)] ++ sb i.c.label) ∧ True) (∃ (o : Unit), sb (sepL ((nwW i.p i.c).ws ++ oWords (nwO i.c))) = ByteArray.mk #[(98 : UInt8), (117 : UInt8), (121 : UInt8)] ++ ByteArray.mk #[(32 : UInt8)] ++ sb (i_1.p.name i_1.n) ++ ByteArray.mk #[(32 : UInt8)] ++ sb (digF i_2) ++ ByteArray.mk #[(32 : UInt8), (97 : UInt8), (116 : UInt8), (32 : UInt8)] ++ sb (digF i_3) ++ ByteArray.mk #[(32 : UInt8), (105 : UInt8), (100 : UInt8), (32 : UInt8)] ++ sb (digF i_4) ++ (ByteArray.mk #[(32 : UInt8), (108 : UInt8), (101 : UInt8), (97 : UInt8), (115 : UInt8), (116 : UInt8), (32 : UInt8)] ++ sb (digF i_5)) ∧ True)))) (cnd (i.c.time == (2 : Int)) ((↑((ByteArray.mk #[(98 : UInt8), (117 : UInt8), (121 : UInt8)] ++ ByteArray.mk #[(32 : UInt8)] ++ sb (i_1.p.name i_1.n) ++ ByteArray.mk #[(32 : UInt8)] ++ sb (digF i_2) ++ ByteArray.mk #[(32 : UInt8), (97 : UInt8), (116 : UInt8), (32 : UInt8)] ++ sb (digF i_3) ++ ByteArray.mk #[(32 : UInt8), (105 : UInt8), (100 : UInt8), (32 : UInt8)] ++ sb (digF i_4)).size + (ByteArray.mk #[(32 : UInt8), (110 : UInt8), (111 : UInt8), (119 : UInt8)]).size) : Int) ≤ IntKind.i64.max ∧ cnd (!(sb i.c.label).toList == (ByteArray.mk #[]).toList) ((↑((ByteArray.mk #[(32 : UInt8), (108 : UInt8), (97 : UInt8), (98 : UInt8), (101 : UInt8), (108 : UInt8), (32 : UInt8)]).size + (sb i.c.label).size) : Int) ≤ IntKind.i64.max ∧ (↑((ByteArray.mk #[(98 : UInt8), (117 : UInt8), (121 : UInt8)] ++ ByteArray.mk #[(32 : UInt8)] ++ sb (i_1.p.name i_1.n) ++ ByteArray.mk #[(32 : UInt8)] ++ sb (digF i_2) ++ ByteArray.mk #[(32 : UInt8), (97 : UInt8), (116 : UInt8), (32 : UInt8)] ++ sb (digF i_3) ++ ByteArray.mk #[(32 : UInt8), (105 : UInt8), (100 : UInt8), (32 : UInt8)] ++ sb (digF i_4) ++ ByteArray.mk #[(32 : UInt8), (110 : UInt8), (111 : UInt8), (119 : UInt8)]).size + (ByteArray.mk #[(32 : UInt8), (108 : UInt8), (97 : UInt8), (98 : UInt8), (101 : UInt8), (108 : UInt8), (32 : UInt8)] ++ sb i.c.label).size) : Int) ≤ IntKind.i64.max ∧ ∃ (o : Unit), sb (sepL ((nwW i.p i.c).ws ++ oWords (nwO i.c))) = ByteArray.mk #[(98 : UInt8), (117 : UInt8), (121 : UInt8)] ++ ByteArray.mk #[(32 : UInt8)] ++ sb (i_1.p.name i_1.n) ++ ByteArray.mk #[(32 : UInt8)] ++ sb (digF i_2) ++ ByteArray.mk #[(32 : UInt8), (97 : UInt8), (116 : UInt8), (32 : UInt8)] ++ sb (digF i_3) ++ ByteArray.mk #[(32 : UInt8), (105 : UInt8), (100 : UInt8), (32 : UInt8)] ++ sb (digF i_4) ++ ByteArray.mk #[(32 : UInt8), (110 : UInt8), (111 : UInt8), (119 : UInt8)] ++ (ByteArray.mk #[(32 : UInt8), (108 : UInt8), (97 : UInt8), (98 : UInt8), (101 : UInt8), (108 : UInt8), (32 : UInt8)] ++ sb i.c.label) ∧ True) (∃ (o : Unit), sb (sepL ((nwW i.p i.c).ws ++ oWords (nwO i.c))) = ByteArray.mk #[(98 : UInt8), (117 : UInt8), (121 : UInt8)] ++ ByteArray.mk #[(32 : UInt8)] ++ sb (i_1.p.name i_1.n) ++ ByteArray.mk #[(32 : UInt8)] ++ sb (digF i_2) ++ ByteArray.mk #[(32 : UInt8), (97 : UInt8), (116 : UInt8), (32 : UInt8)] ++ sb (digF i_3) ++ ByteArray.mk #[(32 : UInt8), (105 : UInt8), (100 : UInt8), (32 : UInt8)] ++ sb (digF i_4) ++ ByteArray.mk #[(32 : UInt8), (110 : UInt8), (111 : UInt8), (119 : UInt8)] ∧ True)) (cnd (i.c.time == (3 : Int)) ((↑((ByteArray.mk #[(98 : UInt8), (117 : UInt8), (121 : UInt8)] ++ ByteArray.mk #[(32 : UInt8)] ++ sb (i_1.p.name i_1.n) ++ ByteArray.mk #[(32 : UInt8)] ++ sb (digF i_2) ++ ByteArray.mk #[(32 : UInt8), (97 : UInt8), (116 : UInt8), (32 : UInt8)] ++ sb (digF i_3) ++ ByteArray.mk #[(32 : UInt8), (105 : UInt8), (100 : UInt8), (32 : UInt8)] ++ sb (digF i_4)).size + (ByteArray.mk #[(32 : UInt8), (119 : UInt8), (104 : UInt8), (111 : UInt8), (108 : UInt8), (101 : UInt8)]).size) : Int) ≤ IntKind.i64.max ∧ cnd (!(sb i.c.label).toList == (ByteArray.mk #[]).toList) ((↑((ByteArray.mk #[(32 : UInt8), (108 : UInt8), (97 : UInt8), (98 : UInt8), (101 : UInt8), (108 : UInt8), (32 : UInt8)]).size + (sb i.c.label).size) : Int) ≤ IntKind.i64.max ∧ (↑((ByteArray.mk #[(98 : UInt8), (117 : UInt8), (121 : UInt8)] ++ ByteArray.mk #[(32 : UInt8)] ++ sb (i_1.p.name i_1.n) ++ ByteArray.mk #[(32 : UInt8)] ++ sb (digF i_2) ++ ByteArray.mk #[(32 : UInt8), (97 : UInt8), (116 : UInt8), (32 : UInt8)] ++ sb (digF i_3) ++ ByteArray.mk #[(32 : UInt8), (105 : UInt8), (100 : UInt8), (32 : UInt8)] ++ sb (digF i_4) ++ ByteArray.mk #[(32 : UInt8), (119 : UInt8), (104 : UInt8), (111 : UInt8), (108 : UInt8), (101 : UInt8)]).size + (ByteArray.mk #[(32 : UInt8), (108 : UInt8), (97 : UInt8), (98 : UInt8), (101 : UInt8), (108 : UInt8), (32 : UInt8)] ++ sb i.c.label).size) : Int) ≤ IntKind.i64.max ∧ ∃ (o : Unit), sb (sepL ((nwW i.p i.c).ws ++ oWords (nwO i.c))) = ByteArray.mk #[(98 : UInt8), (117 : UInt8), (121 : UInt8)] ++ ByteArray.mk #[(32 : UInt8)] ++ sb (i_1.p.name i_1.n) ++ ByteArray.mk #[(32 : UInt8)] ++ sb (digF i_2) ++ ByteArray.mk #[(32 : UInt8), (97 : UInt8), (116 : UInt8), (32 : UInt8)] ++ sb (digF i_3) ++ ByteArray.mk #[(32 : UInt8), (105 : UInt8), (100 : UInt8), (32 : UInt8)] ++ sb (digF i_4) ++ ByteArray.mk #[(32 : UInt8), (119 : UInt8), (104 : UInt8), (111 : UInt8), (108 : UInt8), (101 : UInt8)] ++ (ByteArray.mk #[(32 : UInt8), (108 : UInt8), (97 : UInt8), (98 : UInt8), (101 : UInt8), (108 : UInt8), (32 : UInt8)] ++ sb i.c.label) ∧ True) (∃ (o : Unit), sb (sepL ((nwW i.p i.c).ws ++ oWords (nwO i.c))) = ByteArray.mk #[(98 : UInt8), (117 : UInt8), (121 : UInt8)] ++ ByteArray.mk #[(32 : UInt8)] ++ sb (i_1.p.name i_1.n) ++ ByteArray.mk #[(32 : UInt8)] ++ sb (digF i_2) ++ ByteArray.mk #[(32 : UInt8), (97 : UInt8), (116 : UInt8), (32 : UInt8)] ++ sb (digF i_3) ++ ByteArray.mk #[(32 : UInt8), (105 : UInt8), (100 : UInt8), (32 : UInt8)] ++ sb (digF i_4) ++ ByteArray.mk #[(32 : UInt8), (119 : UInt8), (104 : UInt8), (111 : UInt8), (108 : UInt8), (101 : UInt8)] ∧ True)) (cnd (!(sb i.c.label).toList == (ByteArray.mk #[]).toList) ((↑((ByteArray.mk #[(32 : UInt8), (108 : UInt8), (97 : UInt8), (98 : UInt8), (101 : UInt8), (108 : UInt8), (32 : UInt8)]).size + (sb i.c.label).size) : Int) ≤ IntKind.i64.max ∧ (↑((ByteArray.mk #[(98 : UInt8), (117 : UInt8), (121 : UInt8)] ++ ByteArray.mk #[(32 : UInt8)] ++ sb (i_1.p.name i_1.n) ++ ByteArray.mk #[(32 : UInt8)] ++ sb (digF i_2) ++ ByteArray.mk #[(32 : UInt8), (97 : UInt8), (116 : UInt8), (32 : UInt8)] ++ sb (digF i_3) ++ ByteArray.mk #[(32 : UInt8), (105 : UInt8), (100 : UInt8), (32 : UInt8)] ++ sb (digF i_4)).size + (ByteArray.mk #[(32 : UInt8), (108 : UInt8), (97 : UInt8), (98 : UInt8), (101 : UInt8), (108 : UInt8), (32 : UInt8)] ++ sb i.c.label).size) : Int) ≤ IntKind.i64.max ∧ ∃ (o : Unit), sb (sepL ((nwW i.p i.c).ws ++ oWords (nwO i.c))) = ByteArray.mk #[(98 : UInt8), (117 : UInt8), (121 : UInt8)] ++ ByteArray.mk #[(32 : UInt8)] ++ sb (i_1.p.name i_1.n) ++ ByteArray.mk #[(32 : UInt8)] ++ sb (digF i_2) ++ ByteArray.mk #[(32 : UInt8), (97 : UInt8), (116 : UInt8), (32 : UInt8)] ++ sb (digF i_3) ++ ByteArray.mk #[(32 : UInt8), (105 : UInt8), (100 : UInt8), (32 : UInt8)] ++ sb (digF i_4) ++ (ByteArray.mk #[(32 : UInt8), (108 : UInt8), (97 : UInt8), (98 : UInt8), (101 : UInt8), (108 : UInt8), (32 : UInt8)] ++ sb i.c.label) ∧ True) (∃ (o : Unit), sb (sepL ((nwW i.p i.c).ws ++ oWords (nwO i.c))) = ByteArray.mk #[(98 : UInt8), (117 : UInt8), (121 : UInt8)] ++ ByteArray.mk #[(32 : UInt8)] ++ sb (i_1.p.name i_1.n) ++ ByteArray.mk #[(32 : UInt8)] ++ sb (digF i_2) ++ ByteArray.mk #[(32 : UInt8), (97 : UInt8), (116 : UInt8), (32 : UInt8)] ++ sb (digF i_3) ++ ByteArray.mk #[(32 : UInt8), (105 : UInt8), (100 : UInt8), (32 : UInt8)] ++ sb (digF i_4) ∧ True)))))
theorem eqprnt (i : PcI) : Vprnt i = walk Tryd.prog ([(42, nameC), (27, digC)]) 0 ([]) ([]) [] Tryd.f26 (Tryd.f26.body.getD .skip) (prntC.pat i) (prntC.pre i) (prntC.alts i) := by kernel_rfl

theorem byprnt (hG : GOk Tryd.prog ([(42, nameC), (27, digC)])) (h : ∀ (i : PcI), prntC.cnd i → Vprnt i) : prntC.ok Tryd.prog 26 := ok_of_walk mixed ([(42, nameC), (27, digC)]) hG 0 (fun (i : PcI) => []) (fun (i : PcI) => []) [] Tryd.func26 (by kernel_rfl) (by kernel_rfl) (by kernel_rfl) (fun _ => by kernel_rfl) (fun (i : PcI) hc => Eq.mp (eqprnt i) (h i hc))

def Vprint (i : PcI) : Prop :=
  ∃ (i_1 : Cmd), i_1.kind = i.c.kind ∧ i_1.id = i.c.id ∧ i_1.inst = i.c.inst ∧ i_1.side = i.c.side ∧ i_1.price = i.c.price ∧ i_1.qty = i.c.qty ∧ i_1.least = i.c.least ∧ i_1.time = i.c.time ∧ sb i_1.label = sb i.c.label ∧ i_1.label.length ≤ (1099511627776 : Nat) ∧ ∀ (o : Unit), True → cnd (i_1.right != (0 : Int)) (∃ (o : Unit), sb (printF i.p i.c) = ByteArray.mk #[] ∧ True) (cnd (i.c.kind == (1 : Int)) (∃ (i_2 : PcI), sb i_2.p.code = sb i.p.code ∧ iE i_2.p.months = iE i.p.months ∧ i_2.p.tick = i.p.tick ∧ i_2.p.low = i.p.low ∧ i_2.p.high = i.p.high ∧ i_2.p.wide = i.p.wide ∧ i_2.p.rule = i.p.rule ∧ i_2.p.top = i.p.top ∧ i_2.p.least = i.p.least ∧ i_2.p.part = i.p.part ∧ iE i_2.p.settle = iE i.p.settle ∧ i_2.c.kind = i.c.kind ∧ i_2.c.id = i.c.id ∧ i_2.c.inst = i.c.inst ∧ i_2.c.side = i.c.side ∧ i_2.c.price = i.c.price ∧ i_2.c.qty = i.c.qty ∧ i_2.c.least = i.c.least ∧ i_2.c.time = i.c.time ∧ sb i_2.c.label = sb i.c.label ∧ ((i_2.p.code.length ≤ (1099511627776 : Nat) ∧ i_2.p.months.length ≤ (1099511627776 : Nat) ∧ i_2.p.settle.length ≤ (1099511627776 : Nat)) ∧ i_2.p.code.length ≤ (1000 : Nat) ∧ (((-9223372036854775808 : Int) ≤ i_2.c.kind ∧ i_2.c.kind ≤ (9223372036854775807 : Int)) ∧ ((-9223372036854775808 : Int) ≤ i_2.c.id ∧ i_2.c.id ≤ (9223372036854775807 : Int)) ∧ ((-9223372036854775808 : Int) ≤ i_2.c.inst ∧ i_2.c.inst ≤ (9223372036854775807 : Int)) ∧ ((-9223372036854775808 : Int) ≤ i_2.c.side ∧ i_2.c.side ≤ (9223372036854775807 : Int)) ∧ ((-9223372036854775808 : Int) ≤ i_2.c.price ∧ i_2.c.price ≤ (9223372036854775807 : Int)) ∧ ((-9223372036854775808 : Int) ≤ i_2.c.qty ∧ i_2.c.qty ≤ (9223372036854775807 : Int)) ∧ ((-9223372036854775808 : Int) ≤ i_2.c.least ∧ i_2.c.least ≤ (9223372036854775807 : Int)) ∧ (-9223372036854775808 : Int) ≤ i_2.c.time ∧ i_2.c.time ≤ (9223372036854775807 : Int)) ∧ i_2.c.label.length ≤ (1000 : Nat)) ∧ ∀ (o : Unit), True → ∃ (i_3 : FndI), sb i_3.p.code = sb i.p.code ∧ iE i_3.p.months = iE i.p.months ∧ i_3.p.tick = i.p.tick ∧ i_3.p.low = i.p.low ∧ i_3.p.high = i.p.high ∧ i_3.p.wide = i.p.wide ∧ i_3.p.rule = i.p.rule ∧ i_3.p.top = i.p.top ∧ i_3.p.least = i.p.least ∧ i_3.p.part = i.p.part ∧ iE i_3.p.settle = iE i.p.settle ∧ sb i_3.s = sb (sepL ((nwW i_2.p i_2.c).ws ++ oWords (nwO i_2.c))) ∧ ((i_3.p.code.length ≤ (1099511627776 : Nat) ∧ i_3.p.months.length ≤ (1099511627776 : Nat) ∧ i_3.p.settle.length ≤ (1099511627776 : Nat)) ∧ i_3.s.length ≤ (1048576 : Nat)) ∧ ∀ (o : Unit), True → cnd ((parseF i_3.p i_3.s).snd.fst != (0 : Int)) (∃ (o : Unit), sb (printF i.p i.c) = ByteArray.mk #[] ∧ True) (∃ (i_4 : Cmd), i_4.kind = i.c.kind ∧ i_4.id = i.c.id ∧ i_4.inst = i.c.inst ∧ i_4.side = i.c.side ∧ i_4.price = i.c.price ∧ i_4.qty = i.c.qty ∧ i_4.least = i.c.least ∧ i_4.time = i.c.time ∧ sb i_4.label = sb i.c.label ∧ True ∧ ∀ (o : Unit), True → ((parseF i_3.p i_3.s).fst.kind = (parseF i_3.p i_3.s).fst.kind ∧ (parseF i_3.p i_3.s).fst.id = (parseF i_3.p i_3.s).fst.id ∧ (parseF i_3.p i_3.s).fst.inst = (parseF i_3.p i_3.s).fst.inst ∧ (parseF i_3.p i_3.s).fst.side = (parseF i_3.p i_3.s).fst.side ∧ (parseF i_3.p i_3.s).fst.price = (parseF i_3.p i_3.s).fst.price ∧ (parseF i_3.p i_3.s).fst.qty = (parseF i_3.p i_3.s).fst.qty ∧ (parseF i_3.p i_3.s).fst.least = (parseF i_3.p i_3.s).fst.least ∧ (parseF i_3.p i_3.s).fst.time = (parseF i_3.p i_3.s).fst.time ∧ sb (parseF i_3.p i_3.s).fst.label = sb (parseF i_3.p i_3.s).fst.label ∧ True) ∧ cnd (!((parseF i_3.p i_3.s).fst.kind == i_4.ask.kind && ((parseF i_3.p i_3.s).fst.id == i_4.ask.id && ((parseF i_3.p i_3.s).fst.inst == i_4.ask.inst && ((parseF i_3.p i_3.s).fst.side == i_4.ask.side && ((parseF i_3.p i_3.s).fst.price == i_4.ask.price && ((parseF i_3.p i_3.s).fst.qty == i_4.ask.qty && ((parseF i_3.p i_3.s).fst.least == i_4.ask.least && ((parseF i_3.p i_3.s).fst.time == i_4.ask.time && (sb (parseF i_3.p i_3.s).fst.label == sb i_4.ask.label && true)))))))))) (∃ (o : Unit), sb (printF i.p i.c) = ByteArray.mk #[] ∧ True) (∃ (o : Unit), sb (printF i.p i.c) = sb (sepL ((nwW i_2.p i_2.c).ws ++ oWords (nwO i_2.c))) ∧ True))) (cnd (i.c.kind == (2 : Int)) (∃ (i_2 : Int), i_2 = i.c.id ∧ ((-9223372036854775808 : Int) ≤ i_2 ∧ i_2 ≤ (9223372036854775807 : Int)) ∧ ∀ (o : Unit), True → (↑((ByteArray.mk #[(99 : UInt8), (97 : UInt8), (110 : UInt8), (99 : UInt8), (101 : UInt8), (108 : UInt8), (32 : UInt8)]).size + (sb (digF i_2)).size) : Int) ≤ IntKind.i64.max ∧ ∃ (i_3 : FndI), sb i_3.p.code = sb i.p.code ∧ iE i_3.p.months = iE i.p.months ∧ i_3.p.tick = i.p.tick ∧ i_3.p.low = i.p.low ∧ i_3.p.high = i.p.high ∧ i_3.p.wide = i.p.wide ∧ i_3.p.rule = i.p.rule ∧ i_3.p.top = i.p.top ∧ i_3.p.least = i.p.least ∧ i_3.p.part = i.p.part ∧ iE i_3.p.settle = iE i.p.settle ∧ sb i_3.s = ByteArray.mk #[(99 : UInt8), (97 : UInt8), (110 : UInt8), (99 : UInt8), (101 : UInt8), (108 : UInt8), (32 : UInt8)] ++ sb (digF i_2) ∧ ((i_3.p.code.length ≤ (1099511627776 : Nat) ∧ i_3.p.months.length ≤ (1099511627776 : Nat) ∧ i_3.p.settle.length ≤ (1099511627776 : Nat)) ∧ i_3.s.length ≤ (1048576 : Nat)) ∧ ∀ (o : Unit), True → cnd ((parseF i_3.p i_3.s).snd.fst != (0 : Int)) (∃ (o : Unit), sb (printF i.p i.c) = ByteArray.mk #[] ∧ True) (∃ (i_4 : Cmd), i_4.kind = i.c.kind ∧ i_4.id = i.c.id ∧ i_4.inst = i.c.inst ∧ i_4.side = i.c.side ∧ i_4.price = i.c.price ∧ i_4.qty = i.c.qty ∧ i_4.least = i.c.least ∧ i_4.time = i.c.time ∧ sb i_4.label = sb i.c.label ∧ True ∧ ∀ (o : Unit), True → ((parseF i_3.p i_3.s).fst.kind = (parseF i_3.p i_3.s).fst.kind ∧ (parseF i_3.p i_3.s).fst.id = (parseF i_3.p i_3.s).fst.id ∧ (parseF i_3.p i_3.s).fst.inst = (parseF i_3.p i_3.s).fst.inst ∧ (parseF i_3.p i_3.s).fst.side = (parseF i_3.p i_3.s).fst.side ∧ (parseF i_3.p i_3.s).fst.price = (parseF i_3.p i_3.s).fst.price ∧ (parseF i_3.p i_3.s).fst.qty = (parseF i_3.p i_3.s).fst.qty ∧ (parseF i_3.p i_3.s).fst.least = (parseF i_3.p i_3.s).fst.least ∧ (parseF i_3.p i_3.s).fst.time = (parseF i_3.p i_3.s).fst.time ∧ sb (parseF i_3.p i_3.s).fst.label = sb (parseF i_3.p i_3.s).fst.label ∧ True) ∧ cnd (!((parseF i_3.p i_3.s).fst.kind == i_4.ask.kind && ((parseF i_3.p i_3.s).fst.id == i_4.ask.id && ((parseF i_3.p i_3.s).fst.inst == i_4.ask.inst && ((parseF i_3.p i_3.s).fst.side == i_4.ask.side && ((parseF i_3.p i_3.s).fst.price == i_4.ask.price && ((parseF i_3.p i_3.s).fst.qty == i_4.ask.qty && ((parseF i_3.p i_3.s).fst.least == i_4.ask.least && ((parseF i_3.p i_3.s).fst.time == i_4.ask.time && (sb (parseF i_3.p i_3.s).fst.label == sb i_4.ask.label && true)))))))))) (∃ (o : Unit), sb (printF i.p i.c) = ByteArray.mk #[] ∧ True) (∃ (o : Unit), sb (printF i.p i.c) = ByteArray.mk #[(99 : UInt8), (97 : UInt8), (110 : UInt8), (99 : UInt8), (101 : UInt8), (108 : UInt8), (32 : UInt8)] ++ sb (digF i_2) ∧ True))) (cnd (i.c.kind == (3 : Int)) (∃ (i_2 : Int), i_2 = i.c.id ∧ ((-9223372036854775808 : Int) ≤ i_2 ∧ i_2 ≤ (9223372036854775807 : Int)) ∧ ∀ (o : Unit), True → i.c.qty = i.c.qty ∧ (↑((ByteArray.mk #[(99 : UInt8), (117 : UInt8), (116 : UInt8), (32 : UInt8)]).size + (sb (digF i_2)).size) : Int) ≤ IntKind.i64.max ∧ (↑((ByteArray.mk #[(99 : UInt8), (117 : UInt8), (116 : UInt8), (32 : UInt8)] ++ sb (digF i_2)).size + (ByteArray.mk #[(32 : UInt8)]).size) : Int) ≤ IntKind.i64.max ∧ ∃ (i_3 : Int), i_3 = i.c.qty ∧ ((-9223372036854775808 : Int) ≤ i_3 ∧ i_3 ≤ (9223372036854775807 : Int)) ∧ ∀ (o : Unit), True → (↑((ByteArray.mk #[(99 : UInt8), (117 : UInt8), (116 : UInt8), (32 : UInt8)] ++ sb (digF i_2) ++ ByteArray.mk #[(32 : UInt8)]).size + (sb (digF i_3)).size) : Int) ≤ IntKind.i64.max ∧ ∃ (i_4 : FndI), sb i_4.p.code = sb i.p.code ∧ iE i_4.p.months = iE i.p.months ∧ i_4.p.tick = i.p.tick ∧ i_4.p.low = i.p.low ∧ i_4.p.high = i.p.high ∧ i_4.p.wide = i.p.wide ∧ i_4.p.rule = i.p.rule ∧ i_4.p.top = i.p.top ∧ i_4.p.least = i.p.least ∧ i_4.p.part = i.p.part ∧ iE i_4.p.settle = iE i.p.settle ∧ sb i_4.s = ByteArray.mk #[(99 : UInt8), (117 : UInt8), (116 : UInt8), (32 : UInt8)] ++ sb (digF i_2) ++ ByteArray.mk #[(32 : UInt8)] ++ sb (digF i_3) ∧ ((i_4.p.code.length ≤ (1099511627776 : Nat) ∧ i_4.p.months.length ≤ (1099511627776 : Nat) ∧ i_4.p.settle.length ≤ (1099511627776 : Nat)) ∧ i_4.s.length ≤ (1048576 : Nat)) ∧ ∀ (o : Unit), True → cnd ((parseF i_4.p i_4.s).snd.fst != (0 : Int)) (∃ (o : Unit), sb (printF i.p i.c) = ByteArray.mk #[] ∧ True) (∃ (i_5 : Cmd), i_5.kind = i.c.kind ∧ i_5.id = i.c.id ∧ i_5.inst = i.c.inst ∧ i_5.side = i.c.side ∧ i_5.price = i.c.price ∧ i_5.qty = i.c.qty ∧ i_5.least = i.c.least ∧ i_5.time = i.c.time ∧ sb i_5.label = sb i.c.label ∧ True ∧ ∀ (o : Unit), True → ((parseF i_4.p i_4.s).fst.kind = (parseF i_4.p i_4.s).fst.kind ∧ (parseF i_4.p i_4.s).fst.id = (parseF i_4.p i_4.s).fst.id ∧ (parseF i_4.p i_4.s).fst.inst = (parseF i_4.p i_4.s).fst.inst ∧ (parseF i_4.p i_4.s).fst.side = (parseF i_4.p i_4.s).fst.side ∧ (parseF i_4.p i_4.s).fst.price = (parseF i_4.p i_4.s).fst.price ∧ (parseF i_4.p i_4.s).fst.qty = (parseF i_4.p i_4.s).fst.qty ∧ (parseF i_4.p i_4.s).fst.least = (parseF i_4.p i_4.s).fst.least ∧ (parseF i_4.p i_4.s).fst.time = (parseF i_4.p i_4.s).fst.time ∧ sb (parseF i_4.p i_4.s).fst.label = sb (parseF i_4.p i_4.s).fst.label ∧ True) ∧ cnd (!((parseF i_4.p i_4.s).fst.kind == i_5.ask.kind && ((parseF i_4.p i_4.s).fst.id == i_5.ask.id && ((parseF i_4.p i_4.s).fst.inst == i_5.ask.inst && ((parseF i_4.p i_4.s).fst.side == i_5.ask.side && ((parseF i_4.p i_4.s).fst.price == i_5.ask.price && ((parseF i_4.p i_4.s).fst.qty == i_5.ask.qty && ((parseF i_4.p i_4.s).fst.least == i_5.ask.least && ((parseF i_4.p i_4.s).fst.time == i_5.ask.time && (sb (parseF i_4.p i_4.s).fst.label == sb i_5.ask.label && true)))))))))) (∃ (o : Unit), sb (printF i.p i.c) = ByteArray.mk #[] ∧ True) (∃ (o : Unit), sb (printF i.p i.c) = ByteArray.mk #[(99 : UInt8), (117 : UInt8), (116 : UInt8), (32 : UInt8)] ++ sb (digF i_2) ++ ByteArray.mk #[(32 : UInt8)] ++ sb (digF i_3) ∧ True))) (∃ (i_2 : Int), i_2 = i.c.id ∧ ((-9223372036854775808 : Int) ≤ i_2 ∧ i_2 ≤ (9223372036854775807 : Int)) ∧ ∀ (o : Unit), True → i.c.qty = i.c.qty ∧ i.c.price = i.c.price ∧ (↑((ByteArray.mk #[(99 : UInt8), (104 : UInt8), (97 : UInt8), (110 : UInt8), (103 : UInt8), (101 : UInt8), (32 : UInt8)]).size + (sb (digF i_2)).size) : Int) ≤ IntKind.i64.max ∧ (↑((ByteArray.mk #[(99 : UInt8), (104 : UInt8), (97 : UInt8), (110 : UInt8), (103 : UInt8), (101 : UInt8), (32 : UInt8)] ++ sb (digF i_2)).size + (ByteArray.mk #[(32 : UInt8)]).size) : Int) ≤ IntKind.i64.max ∧ ∃ (i_3 : Int), i_3 = i.c.price ∧ ((-9223372036854775808 : Int) ≤ i_3 ∧ i_3 ≤ (9223372036854775807 : Int)) ∧ ∀ (o : Unit), True → i.c.qty = i.c.qty ∧ (↑((ByteArray.mk #[(99 : UInt8), (104 : UInt8), (97 : UInt8), (110 : UInt8), (103 : UInt8), (101 : UInt8), (32 : UInt8)] ++ sb (digF i_2) ++ ByteArray.mk #[(32 : UInt8)]).size + (sb (digF i_3)).size) : Int) ≤ IntKind.i64.max ∧ (↑((ByteArray.mk #[(99 : UInt8), (104 : UInt8), (97 : UInt8), (110 : UInt8), (103 : UInt8), (101 : UInt8), (32 : UInt8)] ++ sb (digF i_2) ++ ByteArray.mk #[(32 : UInt8)] ++ sb (digF i_3)).size + (ByteArray.mk #[(32 : UInt8)]).size) : Int) ≤ IntKind.i64.max ∧ ∃ (i_4 : Int), i_4 = i.c.qty ∧ ((-9223372036854775808 : Int) ≤ i_4 ∧ i_4 ≤ (9223372036854775807 : Int)) ∧ ∀ (o : Unit), True → (↑((ByteArray.mk #[(99 : UInt8), (104 : UInt8), (97 : UInt8), (110 : UInt8), (103 : UInt8), (101 : UInt8), (32 : UInt8)] ++ sb (digF i_2) ++ ByteArray.mk #[(32 : UInt8)] ++ sb (digF i_3) ++ ByteArray.mk #[(32 : UInt8)]).size + (sb (digF i_4)).size) : Int) ≤ IntKind.i64.max ∧ ∃ (i_5 : FndI), sb i_5.p.code = sb i.p.code ∧ iE i_5.p.months = iE i.p.months ∧ i_5.p.tick = i.p.tick ∧ i_5.p.low = i.p.low ∧ i_5.p.high = i.p.high ∧ i_5.p.wide = i.p.wide ∧ i_5.p.rule = i.p.rule ∧ i_5.p.top = i.p.top ∧ i_5.p.least = i.p.least ∧ i_5.p.part = i.p.part ∧ iE i_5.p.settle = iE i.p.settle ∧ sb i_5.s = ByteArray.mk #[(99 : UInt8), (104 : UInt8), (97 : UInt8), (110 : UInt8), (103 : UInt8), (101 : UInt8), (32 : UInt8)] ++ sb (digF i_2) ++ ByteArray.mk #[(32 : UInt8)] ++ sb (digF i_3) ++ ByteArray.mk #[(32 : UInt8)] ++ sb (digF i_4) ∧ ((i_5.p.code.length ≤ (1099511627776 : Nat) ∧ i_5.p.months.length ≤ (1099511627776 : Nat) ∧ i_5.p.settle.length ≤ (1099511627776 : Nat)) ∧ i_5.s.length ≤ (1048576 : Nat)) ∧ ∀ (o : Unit), True → cnd ((parseF i_5.p i_5.s).snd.fst != (0 : Int)) (∃ (o : Unit), sb (printF i.p i.c) = ByteArray.mk #[] ∧ True) (∃ (i_6 : Cmd), i_6.kind = i.c.kind ∧ i_6.id = i.c.id ∧ i_6.inst = i.c.inst ∧ i_6.side = i.c.side ∧ i_6.price = i.c.price ∧ i_6.qty = i.c.qty ∧ i_6.least = i.c.least ∧ i_6.time = i.c.time ∧ sb i_6.label = sb i.c.label ∧ True ∧ ∀ (o : Unit), True → ((parseF i_5.p i_5.s).fst.kind = (parseF i_5.p i_5.s).fst.kind ∧ (parseF i_5.p i_5.s).fst.id = (parseF i_5.p i_5.s).fst.id ∧ (parseF i_5.p i_5.s).fst.inst = (parseF i_5.p i_5.s).fst.inst ∧ (parseF i_5.p i_5.s).fst.side = (parseF i_5.p i_5.s).fst.side ∧ (parseF i_5.p i_5.s).fst.price = (parseF i_5.p i_5.s).fst.price ∧ (parseF i_5.p i_5.s).fst.qty = (parseF i_5.p i_5.s).fst.qty ∧ (parseF i_5.p i_5.s).fst.least = (parseF i_5.p i_5.s).fst.least ∧ (parseF i_5.p i_5.s).fst.time = (parseF i_5.p i_5.s).fst.time ∧ sb (parseF i_5.p i_5.s).fst.label = sb (parseF i_5.p i_5.s).fst.label ∧ True) ∧ cnd (!((parseF i_5.p i_5.s).fst.kind == i_6.ask.kind && ((parseF i_5.p i_5.s).fst.id == i_6.ask.id && ((parseF i_5.p i_5.s).fst.inst == i_6.ask.inst && ((parseF i_5.p i_5.s).fst.side == i_6.ask.side && ((parseF i_5.p i_5.s).fst.price == i_6.ask.price && ((parseF i_5.p i_5.s).fst.qty == i_6.ask.qty && ((parseF i_5.p i_5.s).fst.least == i_6.ask.least && ((parseF i_5.p i_5.s).fst.time == i_6.ask.time && (sb (parseF i_5.p i_5.s).fst.label == sb i_6.ask.label && true)))))))))) (∃ (o : Unit), sb (printF i.p i.c) = ByteArray.mk #[] ∧ True) (∃ (o : Unit), sb (printF i.p i.c) = ByteArray.mk #[(99 : UInt8), (104 : UInt8), (97 : UInt8), (110 : UInt8), (103 : UInt8), (101 : UInt8), (32 : UInt8)] ++ sb (digF i_2) ++ ByteArray.mk #[(32 : UInt8)] ++ sb (digF i_3) ++ ByteArray.mk #[(32 : UInt8)] ++ sb (digF i_4) ∧ True))))))
theorem eqprint (i : PcI) : Vprint i = walk Tryd.prog ([(25, rightC), (26, prntC), (27, digC), (19, parseC), (28, askC)]) 0 ([]) ([]) [] Tryd.f16 (Tryd.f16.body.getD .skip) (printC.pat i) (printC.pre i) (printC.alts i) := by kernel_rfl

theorem byprint (hG : GOk Tryd.prog ([(25, rightC), (26, prntC), (27, digC), (19, parseC), (28, askC)])) (h : ∀ (i : PcI), printC.cnd i → Vprint i) : printC.ok Tryd.prog 16 := ok_of_walk mixed ([(25, rightC), (26, prntC), (27, digC), (19, parseC), (28, askC)]) hG 0 (fun (i : PcI) => []) (fun (i : PcI) => []) [] Tryd.func16 (by kernel_rfl) (by kernel_rfl) (by kernel_rfl) (fun _ => by kernel_rfl) (fun (i : PcI) hc => Eq.mp (eqprint i) (h i hc))

end Sx

