/- Texts of ours, one behind the other: a walk that the kernel reckons, and contracts of functions. No condition. -/
import Derived.Laws.Externs
import Derived.Test.YtmkgajpdangkaaaM5
namespace Sx
set_option linter.unusedVariables false
set_option maxRecDepth 100000
open Go Cv Go.Proofs
def pN (s : List UInt8) : Prop :=
  ∃ (i0 : Nat × Nat),(↑i0.snd : Int) = 0∧sb s = sb s∧i0.fst = 0∧∃ (I : Nat × Nat→Prop),∃ (μ : Nat × Nat→Nat),I i0∧∀ (i : Nat × Nat),I i→cnd (i.fst.blt (sb s).size) (∃ (i0 : Bool),∃ (I_1 : Bool→Prop),cnd (decide ((↑(Utf8.decode (sb s) i.fst).fst : Int) ≥ 65)) (cnd (decide ((↑(Utf8.decode (sb s) i.fst).fst : Int) ≤ 90)) (∃ (i' : Bool),i' = !true∧I_1 i'∧Sx.AObj.iter (sb s) (i.fst + (Utf8.decode (sb s) i.fst).snd) = Sx.AObj.iter (sb s) (i.fst + (Utf8.decode (sb s) i.fst).snd)) (cnd (decide ((↑(Utf8.decode (sb s) i.fst).fst : Int) ≥ 913)) (cnd (decide ((↑(Utf8.decode (sb s) i.fst).fst : Int) ≤ 937)) (∃ (i' : Bool),i' = !(↑(Utf8.decode (sb s) i.fst).fst : Int) != 930∧I_1 i'∧Sx.AObj.iter (sb s) (i.fst + (Utf8.decode (sb s) i.fst).snd) = Sx.AObj.iter (sb s) (i.fst + (Utf8.decode (sb s) i.fst).snd)) (∃ (i' : Bool),i' = !false∧I_1 i'∧Sx.AObj.iter (sb s) (i.fst + (Utf8.decode (sb s) i.fst).snd) = Sx.AObj.iter (sb s) (i.fst + (Utf8.decode (sb s) i.fst).snd))) (∃ (i' : Bool),i' = !false∧I_1 i'∧Sx.AObj.iter (sb s) (i.fst + (Utf8.decode (sb s) i.fst).snd) = Sx.AObj.iter (sb s) (i.fst + (Utf8.decode (sb s) i.fst).snd)))) (cnd (decide ((↑(Utf8.decode (sb s) i.fst).fst : Int) ≥ 913)) (cnd (decide ((↑(Utf8.decode (sb s) i.fst).fst : Int) ≤ 937)) (∃ (i' : Bool),i' = !(↑(Utf8.decode (sb s) i.fst).fst : Int) != 930∧I_1 i'∧Sx.AObj.iter (sb s) (i.fst + (Utf8.decode (sb s) i.fst).snd) = Sx.AObj.iter (sb s) (i.fst + (Utf8.decode (sb s) i.fst).snd)) (∃ (i' : Bool),i' = !false∧I_1 i'∧Sx.AObj.iter (sb s) (i.fst + (Utf8.decode (sb s) i.fst).snd) = Sx.AObj.iter (sb s) (i.fst + (Utf8.decode (sb s) i.fst).snd))) (∃ (i' : Bool),i' = !false∧I_1 i'∧Sx.AObj.iter (sb s) (i.fst + (Utf8.decode (sb s) i.fst).snd) = Sx.AObj.iter (sb s) (i.fst + (Utf8.decode (sb s) i.fst).snd)))∧∀ (i_1 : Bool),I_1 i_1→cnd i_1 (∃ (o : Unit),qO s = false∧True) (∃ (i' : Nat × Nat),(↑i'.snd : Int) = IntKind.i64.wrap ((↑i.snd : Int) + 1)∧sb s = sb s∧i'.fst = i.fst + (Utf8.decode (sb s) i.fst).snd∧I i'∧μ i' < μ i∧True)) (cnd (decide ((↑i.snd : Int) ≥ 1)) (∃ (o : Unit),qO s = decide ((↑i.snd : Int) ≤ 4)∧True) (∃ (o : Unit),qO s = false∧True))
theorem zUo (s : List UInt8) : pN s = walk Try.prog ([]) 0 (zKx) (zNf s) [] Try.f55 (Try.f55.body.getD .skip) (r3prodC.pat s) (r3prodC.pre s) (r3prodC.alts s) := by kernel_rfl
theorem zVp (hG : GOk Try.prog ([])) (h : ∀ (s : List UInt8),r3prodC.cnd s → pN s) : r3prodC.ok Try.prog 55 := zE mixed ([]) hG 0 (fun (s : List UInt8) => zKx) (fun (s : List UInt8) => zNf s) [] Try.func55 (by kernel_rfl) (by kernel_rfl) (by kernel_rfl) (fun _ => by kernel_rfl) (fun (s : List UInt8) hc => Eq.mp (zUo s) (h s hc))
@[reducible] def zL (p : Prd) : AObj := Sx.AObj.cells [V.d (D.v (Value.string (sb p.code))),V.own (0 : Nat),V.d (D.v (.int .i64 p.tick)),V.d (D.v (.int .i64 p.low)),V.d (D.v (.int .i64 p.high)),V.d (D.v (.int .i64 p.wide)),V.d (D.v (.int .i64 p.rule)),V.d (D.v (.int .i64 p.top)),V.d (D.v (.int .i64 p.least)),V.d (D.v (.int .i64 p.part)),V.own ((0 : Nat) + (1 : Nat))] (25 : Nat)
@[reducible] def cR (p : Prd) (i : Nat) (o : Unit) (I : Nat→Prop) (μ : Nat→Nat) (I_1 : Bool→Prop) : Prop := ∀ (i_1 : Bool),I_1 i_1→cnd i_1 (∃ (o : Unit),p.check = 1∧True) (∃ (i' : Nat),(↑i' : Int) = IntKind.i64.wrap ((↑i : Int) + 1)∧I i'∧μ i' < μ i∧zL p = zL p∧AObj.fro 1 (iE p.settle) = AObj.fro 1 (iE p.settle)∧AObj.fro 1 (iE p.months) = AObj.fro 1 (iE p.months))
def aB (p : Prd) : Prop :=
  ∃ (i : List UInt8),sb i = sb p.code∧i.length ≤ 1099511627776∧∀ (o : Unit),True→cnd (!qO i) (∃ (o : Unit),p.check = 12∧True) (∃ (i0 : Bool),∃ (I : Bool→Prop),cnd (decide ((↑(iE p.months).length : Int) < 2)) (∃ (i' : Bool),i' = true∧I i'∧zL p = zL p∧AObj.fro 1 (iE p.settle) = AObj.fro 1 (iE p.settle)∧AObj.fro 1 (iE p.months) = AObj.fro 1 (iE p.months)) (∃ (i' : Bool),i' = decide ((↑(iE p.months).length : Int) > 6)∧I i'∧zL p = zL p∧AObj.fro 1 (iE p.settle) = AObj.fro 1 (iE p.settle)∧AObj.fro 1 (iE p.months) = AObj.fro 1 (iE p.months))∧∀ (i : Bool),I i→cnd i (∃ (o : Unit),p.check = 1∧True) (∃ (i0 : Nat),(↑i0 : Int) = 0∧∃ (I : Nat→Prop),∃ (μ : Nat→Nat),I i0∧∀ (i : Nat),I i→cnd (decide ((↑i : Int) < (↑(iE p.months).length : Int))) (∃ (i0 : Bool),∃ (I_1 : Bool→Prop),((0 ≤ (↑i : Int)∧(↑i : Int) < (↑(iE p.months).length : Int))∧∃ (n : Int),zG (iE p.months) (↑i : Int).toNat 0 1 = some [D.v (.int .i64 n)]∧cnd (decide (n < 0)) (∃ (i' : Bool),i' = true∧I_1 i'∧zL p = zL p∧AObj.fro 1 (iE p.settle) = AObj.fro 1 (iE p.settle)∧AObj.fro 1 (iE p.months) = AObj.fro 1 (iE p.months)) ((0 ≤ (↑i : Int)∧(↑i : Int) < (↑(iE p.months).length : Int))∧∃ (n : Int),zG (iE p.months) (↑i : Int).toNat 0 1 = some [D.v (.int .i64 n)]∧cnd (decide (n > 1199)) (∃ (i' : Bool),i' = true∧I_1 i'∧zL p = zL p∧AObj.fro 1 (iE p.settle) = AObj.fro 1 (iE p.settle)∧AObj.fro 1 (iE p.months) = AObj.fro 1 (iE p.months)) (cnd (decide ((↑i : Int) > 0)) ((0 ≤ IntKind.i64.wrap ((↑i : Int) - 1)∧IntKind.i64.wrap ((↑i : Int) - 1) < (↑(iE p.months).length : Int))∧∃ (n : Int),zG (iE p.months) (IntKind.i64.wrap ((↑i : Int) - 1)).toNat 0 1 = some [D.v (.int .i64 n)]∧(0 ≤ (↑i : Int)∧(↑i : Int) < (↑(iE p.months).length : Int))∧∃ (n_1 : Int),zG (iE p.months) (↑i : Int).toNat 0 1 = some [D.v (.int .i64 n_1)]∧∃ (i' : Bool),i' = decide (n ≥ n_1)∧I_1 i'∧zL p = zL p∧AObj.fro 1 (iE p.settle) = AObj.fro 1 (iE p.settle)∧AObj.fro 1 (iE p.months) = AObj.fro 1 (iE p.months)) (∃ (i' : Bool),i' = false∧I_1 i'∧zL p = zL p∧AObj.fro 1 (iE p.settle) = AObj.fro 1 (iE p.settle)∧AObj.fro 1 (iE p.months) = AObj.fro 1 (iE p.months)))))∧cR p i o I μ I_1) (∃ (i0 : Bool),∃ (I : Bool→Prop),cnd (decide (p.tick < 1)) (∃ (i' : Bool),i' = true∧I i'∧zL p = zL p∧AObj.fro 1 (iE p.settle) = AObj.fro 1 (iE p.settle)∧AObj.fro 1 (iE p.months) = AObj.fro 1 (iE p.months)) (cnd (decide (p.tick > 1000)) (∃ (i' : Bool),i' = true∧I i'∧zL p = zL p∧AObj.fro 1 (iE p.settle) = AObj.fro 1 (iE p.settle)∧AObj.fro 1 (iE p.months) = AObj.fro 1 (iE p.months)) (IntKind.i64 = IntKind.i64∧p.tick ≠ 0∧cnd (p.low.tmod p.tick != 0) (∃ (i' : Bool),i' = true∧I i'∧zL p = zL p∧AObj.fro 1 (iE p.settle) = AObj.fro 1 (iE p.settle)∧AObj.fro 1 (iE p.months) = AObj.fro 1 (iE p.months)) (IntKind.i64 = IntKind.i64∧p.tick ≠ 0∧cnd (p.high.tmod p.tick != 0) (∃ (i' : Bool),i' = true∧I i'∧zL p = zL p∧AObj.fro 1 (iE p.settle) = AObj.fro 1 (iE p.settle)∧AObj.fro 1 (iE p.months) = AObj.fro 1 (iE p.months)) (IntKind.i64 = IntKind.i64∧p.tick ≠ 0∧∃ (i' : Bool),i' = (p.wide.tmod p.tick != 0)∧I i'∧zL p = zL p∧AObj.fro 1 (iE p.settle) = AObj.fro 1 (iE p.settle)∧AObj.fro 1 (iE p.months) = AObj.fro 1 (iE p.months)))))∧∀ (i : Bool),I i→cnd i (∃ (o : Unit),p.check = 22∧True) (∃ (i0 : Nat),(↑i0 : Int) = 0∧∃ (I : Nat→Prop),∃ (μ : Nat→Nat),I i0∧∀ (i : Nat),I i→cnd (decide ((↑i : Int) < (↑(iE p.settle).length : Int))) ((0 ≤ (↑i : Int)∧(↑i : Int) < (↑(iE p.settle).length : Int))∧∃ (n : Int),zG (iE p.settle) (↑i : Int).toNat 0 1 = some [D.v (.int .i64 n)]∧IntKind.i64 = IntKind.i64∧p.tick ≠ 0∧cnd (n.tmod p.tick != 0) (∃ (o : Unit),p.check = 22∧True) (∃ (i' : Nat),(↑i' : Int) = IntKind.i64.wrap ((↑i : Int) + 1)∧I i'∧μ i' < μ i∧zL p = zL p∧AObj.fro 1 (iE p.settle) = AObj.fro 1 (iE p.settle)∧AObj.fro 1 (iE p.months) = AObj.fro 1 (iE p.months))) (∃ (i0 : Bool),∃ (I : Bool→Prop),cnd (decide (p.low < (-1000000))) (∃ (i' : Bool),i' = true∧I i'∧zL p = zL p∧AObj.fro 1 (iE p.settle) = AObj.fro 1 (iE p.settle)∧AObj.fro 1 (iE p.months) = AObj.fro 1 (iE p.months)) (cnd (decide (p.low ≥ p.high)) (∃ (i' : Bool),i' = true∧I i'∧zL p = zL p∧AObj.fro 1 (iE p.settle) = AObj.fro 1 (iE p.settle)∧AObj.fro 1 (iE p.months) = AObj.fro 1 (iE p.months)) (cnd (decide (p.high > 1000000)) (∃ (i' : Bool),i' = true∧I i'∧zL p = zL p∧AObj.fro 1 (iE p.settle) = AObj.fro 1 (iE p.settle)∧AObj.fro 1 (iE p.months) = AObj.fro 1 (iE p.months)) (cnd (decide (p.wide < 0)) (∃ (i' : Bool),i' = true∧I i'∧zL p = zL p∧AObj.fro 1 (iE p.settle) = AObj.fro 1 (iE p.settle)∧AObj.fro 1 (iE p.months) = AObj.fro 1 (iE p.months)) (∃ (i' : Bool),i' = decide (p.wide > IntKind.i64.wrap (p.high - p.low))∧I i'∧zL p = zL p∧AObj.fro 1 (iE p.settle) = AObj.fro 1 (iE p.settle)∧AObj.fro 1 (iE p.months) = AObj.fro 1 (iE p.months)))))∧∀ (i : Bool),I i→cnd i (∃ (o : Unit),p.check = 23∧True) (cnd ((↑(iE p.settle).length : Int) != (↑(iE p.months).length : Int)) (∃ (o : Unit),p.check = 1∧True) (∃ (i0 : Nat),(↑i0 : Int) = 0∧∃ (I : Nat→Prop),∃ (μ : Nat→Nat),I i0∧∀ (i : Nat),I i→cnd (decide ((↑i : Int) < (↑(iE p.settle).length : Int))) (∃ (i0 : Bool),∃ (I_1 : Bool→Prop),((0 ≤ (↑i : Int)∧(↑i : Int) < (↑(iE p.settle).length : Int))∧∃ (n : Int),zG (iE p.settle) (↑i : Int).toNat 0 1 = some [D.v (.int .i64 n)]∧cnd (decide (n < p.low)) (∃ (i' : Bool),i' = true∧I_1 i'∧zL p = zL p∧AObj.fro 1 (iE p.settle) = AObj.fro 1 (iE p.settle)∧AObj.fro 1 (iE p.months) = AObj.fro 1 (iE p.months)) ((0 ≤ (↑i : Int)∧(↑i : Int) < (↑(iE p.settle).length : Int))∧∃ (n : Int),zG (iE p.settle) (↑i : Int).toNat 0 1 = some [D.v (.int .i64 n)]∧∃ (i' : Bool),i' = decide (n > p.high)∧I_1 i'∧zL p = zL p∧AObj.fro 1 (iE p.settle) = AObj.fro 1 (iE p.settle)∧AObj.fro 1 (iE p.months) = AObj.fro 1 (iE p.months)))∧cR p i o I μ I_1) (∃ (i0 : Bool),∃ (I : Bool→Prop),cnd (decide (p.rule < 1)) (∃ (i' : Bool),i' = true∧I i'∧zL p = zL p∧AObj.fro 1 (iE p.settle) = AObj.fro 1 (iE p.settle)∧AObj.fro 1 (iE p.months) = AObj.fro 1 (iE p.months)) (∃ (i' : Bool),i' = decide (p.rule > 3)∧I i'∧zL p = zL p∧AObj.fro 1 (iE p.settle) = AObj.fro 1 (iE p.settle)∧AObj.fro 1 (iE p.months) = AObj.fro 1 (iE p.months))∧∀ (i : Bool),I i→cnd i (∃ (o : Unit),p.check = 31∧True) (∃ (i0 : Bool),∃ (I : Bool→Prop),cnd (decide (p.top < 0)) (∃ (i' : Bool),i' = true∧I i'∧zL p = zL p∧AObj.fro 1 (iE p.settle) = AObj.fro 1 (iE p.settle)∧AObj.fro 1 (iE p.months) = AObj.fro 1 (iE p.months)) (cnd (decide (p.top > 1000000)) (∃ (i' : Bool),i' = true∧I i'∧zL p = zL p∧AObj.fro 1 (iE p.settle) = AObj.fro 1 (iE p.settle)∧AObj.fro 1 (iE p.months) = AObj.fro 1 (iE p.months)) (cnd (decide (p.least < 1)) (∃ (i' : Bool),i' = true∧I i'∧zL p = zL p∧AObj.fro 1 (iE p.settle) = AObj.fro 1 (iE p.settle)∧AObj.fro 1 (iE p.months) = AObj.fro 1 (iE p.months)) (cnd (decide (p.least > 1000)) (∃ (i' : Bool),i' = true∧I i'∧zL p = zL p∧AObj.fro 1 (iE p.settle) = AObj.fro 1 (iE p.settle)∧AObj.fro 1 (iE p.months) = AObj.fro 1 (iE p.months)) (cnd (decide (p.part < 0)) (∃ (i' : Bool),i' = true∧I i'∧zL p = zL p∧AObj.fro 1 (iE p.settle) = AObj.fro 1 (iE p.settle)∧AObj.fro 1 (iE p.months) = AObj.fro 1 (iE p.months)) (∃ (i' : Bool),i' = decide (p.part > 100)∧I i'∧zL p = zL p∧AObj.fro 1 (iE p.settle) = AObj.fro 1 (iE p.settle)∧AObj.fro 1 (iE p.months) = AObj.fro 1 (iE p.months))))))∧∀ (i : Bool),I i→cnd i (∃ (o : Unit),p.check = 24∧True) (∃ (o : Unit),p.check = 0∧True))))))))))
theorem zOu (p : Prd) : aB p = walk Try.prog ([(55,r3prodC)]) 0 (zHc) (zGx) [] Try.f30 (Try.f30.body.getD .skip) (r5checkC.pat p) (r5checkC.pre p) (r5checkC.alts p) := by kernel_rfl
theorem zPu (hG : GOk Try.prog ([(55,r3prodC)])) (h : ∀ (p : Prd),r5checkC.cnd p → aB p) : r5checkC.ok Try.prog 30 := zE mixed ([(55,r3prodC)]) hG 0 (fun (p : Prd) => zHc) (fun (p : Prd) => zGx) [] Try.func30 (by kernel_rfl) (by kernel_rfl) (by kernel_rfl) (fun _ => by kernel_rfl) (fun (p : Prd) hc => Eq.mp (zOu p) (h p hc))
def bM (p : Prd) : Prop :=
  ∃ (i : Prd),sb i.code = sb p.code∧iE i.months = iE p.months∧i.tick = p.tick∧i.low = p.low∧i.high = p.high∧i.wide = p.wide∧i.rule = p.rule∧i.top = p.top∧i.least = p.least∧i.part = p.part∧iE i.settle = iE p.settle∧(i.code.length ≤ 1099511627776∧i.months.length ≤ 1099511627776∧i.settle.length ≤ 1099511627776)∧∀ (o : Unit),True→cnd (i.check != 0) (∃ (o : Unit),(↑p.count : Int) = 0∧True) (IntKind.i64 = IntKind.i64∧(2 : Int) ≠ (0 : Int)∧∃ (o : Unit),(↑p.count : Int) = IntKind.i64.wrap ((↑(iE p.months).length : Int) + IntKind.i64.wrap ((IntKind.i64.wrap ((↑(iE p.months).length : Int) * IntKind.i64.wrap ((↑(iE p.months).length : Int) - 1))).tdiv 2))∧True)
theorem zPj (p : Prd) : bM p = walk Try.prog ([(30,r5checkC)]) 0 ([]) ([]) [] Try.f12 (Try.f12.body.getD .skip) (r5countC.pat p) (r5countC.pre p) (r5countC.alts p) := by kernel_rfl
theorem zQd (hG : GOk Try.prog ([(30,r5checkC)])) (h : ∀ (p : Prd),r5countC.cnd p → bM p) : r5countC.ok Try.prog 12 := zE mixed ([(30,r5checkC)]) hG 0 (fun (p : Prd) => []) (fun (p : Prd) => []) [] Try.func12 (by kernel_rfl) (by kernel_rfl) (by kernel_rfl) (fun _ => by kernel_rfl) (fun (p : Prd) hc => Eq.mp (zPj p) (h p hc))
@[reducible] def dN (i : j8) : AObj := Sx.AObj.cells [V.d (D.v (Value.string (sb i.p.code))),V.own (0 : Nat),V.d (D.v (.int .i64 i.p.tick)),V.d (D.v (.int .i64 i.p.low)),V.d (D.v (.int .i64 i.p.high)),V.d (D.v (.int .i64 i.p.wide)),V.d (D.v (.int .i64 i.p.rule)),V.d (D.v (.int .i64 i.p.top)),V.d (D.v (.int .i64 i.p.least)),V.d (D.v (.int .i64 i.p.part)),V.own ((0 : Nat) + (1 : Nat))] (25 : Nat)
def pK (i : j8) : Prop :=
  ∃ (i_1 : Prd),sb i_1.code = sb i.p.code∧iE i_1.months = iE i.p.months∧i_1.tick = i.p.tick∧i_1.low = i.p.low∧i_1.high = i.p.high∧i_1.wide = i.p.wide∧i_1.rule = i.p.rule∧i_1.top = i.p.top∧i_1.least = i.p.least∧i_1.part = i.p.part∧iE i_1.settle = iE i.p.settle∧(i_1.code.length ≤ 1099511627776∧i_1.months.length ≤ 1099511627776∧i_1.settle.length ≤ 1099511627776)∧∀ (o : Unit),True→cnd (i_1.check != 0) (∃ (o : Unit),(i.p.legs i.n).fst = 0∧(i.p.legs i.n).snd.fst = 0∧(i.p.legs i.n).snd.snd = false∧True) (cnd (decide (i.n < 0)) (∃ (o : Unit),(i.p.legs i.n).fst = 0∧(i.p.legs i.n).snd.fst = 0∧(i.p.legs i.n).snd.snd = false∧True) (cnd (decide (i.n < (↑(iE i.p.months).length : Int))) (∃ (o : Unit),(i.p.legs i.n).fst = i.n∧(i.p.legs i.n).snd.fst = i.n∧(i.p.legs i.n).snd.snd = false∧True) (∃ (i0 : Nat),(↑(zZ i.p.months.length i0) : Int) = (↑(iE i.p.months).length : Int)∧(↑i0 : Int) = 0∧∃ (I : Nat→Prop),∃ (μ : Nat→Nat),I i0∧∀ (i_2 : Nat),I i_2→cnd (decide ((↑i_2 : Int) < (↑(iE i.p.months).length : Int))) (∃ (i0 : Nat × Nat),(↑(zZ i.p.months.length i0.fst + i0.snd) : Int) = (↑(zZ i.p.months.length i_2) : Int)∧(↑i0.fst : Int) = (↑i_2 : Int)∧(↑(i0.fst + 1 + i0.snd) : Int) = IntKind.i64.wrap ((↑i_2 : Int) + 1)∧∃ (I_1 : Nat × Nat→Prop),∃ (μ_1 : Nat × Nat→Nat),I_1 i0∧∀ (i_3 : Nat × Nat),I_1 i_3→cnd (decide ((↑(i_3.fst + 1 + i_3.snd) : Int) < (↑(iE i.p.months).length : Int))) (cnd ((↑(zZ i.p.months.length i_3.fst + i_3.snd) : Int) == i.n) (∃ (o : Unit),(i.p.legs i.n).fst = (↑i_3.fst : Int)∧(i.p.legs i.n).snd.fst = (↑(i_3.fst + 1 + i_3.snd) : Int)∧(i.p.legs i.n).snd.snd = true∧True) (∃ (i' : Nat × Nat),(↑(zZ i.p.months.length i'.fst + i'.snd) : Int) = IntKind.i64.wrap ((↑(zZ i.p.months.length i_3.fst + i_3.snd) : Int) + 1)∧(↑i'.fst : Int) = (↑i_3.fst : Int)∧(↑(i'.fst + 1 + i'.snd) : Int) = IntKind.i64.wrap ((↑(i_3.fst + 1 + i_3.snd) : Int) + 1)∧I_1 i'∧μ_1 i' < μ_1 i_3∧dN i = dN i∧AObj.fro 1 (iE i.p.settle) = AObj.fro 1 (iE i.p.settle)∧AObj.fro 1 (iE i.p.months) = AObj.fro 1 (iE i.p.months))) (∃ (i' : Nat),(↑(zZ i.p.months.length i') : Int) = (↑(zZ i.p.months.length i_3.fst + i_3.snd) : Int)∧(↑i' : Int) = IntKind.i64.wrap ((↑i_3.fst : Int) + 1)∧I i'∧μ i' < μ i_2∧dN i = dN i∧AObj.fro 1 (iE i.p.settle) = AObj.fro 1 (iE i.p.settle)∧AObj.fro 1 (iE i.p.months) = AObj.fro 1 (iE i.p.months))) (∃ (o : Unit),(i.p.legs i.n).fst = 0∧(i.p.legs i.n).snd.fst = 0∧(i.p.legs i.n).snd.snd = false∧True))))
theorem zTp (i : j8) : pK i = walk Try.prog ([(30,r5checkC)]) 0 ([]) (zNg i) [] Try.f20 (Try.f20.body.getD .skip) (r5legsC.pat i) (r5legsC.pre i) (r5legsC.alts i) := by kernel_rfl
theorem zVu (hG : GOk Try.prog ([(30,r5checkC)])) (h : ∀ (i : j8),r5legsC.cnd i → pK i) : r5legsC.ok Try.prog 20 := zE mixed ([(30,r5checkC)]) hG 0 (fun (i : j8) => []) (fun (i : j8) => zNg i) [] Try.func20 (by kernel_rfl) (by kernel_rfl) (by kernel_rfl) (fun _ => by kernel_rfl) (fun (i : j8) hc => Eq.mp (zTp i) (h i hc))
@[reducible] def uG  : AObj := Sx.AObj.cells (Sx.V.agg [V.d (D.v (Value.string (ByteArray.mk #[]))),V.d (D.v (Value.slice none (0 : Nat) (0 : Nat))),V.d (D.v (.int .i64 0)),V.d (D.v (.int .i64 0)),V.d (D.v (.int .i64 0)),V.d (D.v (.int .i64 0)),V.d (D.v (.int .i64 0)),V.d (D.v (.int .i64 0)),V.d (D.v (.int .i64 0)),V.d (D.v (.int .i64 0)),V.d (D.v (Value.slice none (0 : Nat) (0 : Nat)))]).cl (25 : Nat)
@[reducible] def uN (x : Prd) : AObj := Sx.AObj.cells [V.d (D.v (Value.string (sb x.code))),V.own (0 : Nat),V.d (D.v (.int .i64 x.tick)),V.d (D.v (.int .i64 x.low)),V.d (D.v (.int .i64 x.high)),V.d (D.v (.int .i64 x.wide)),V.d (D.v (.int .i64 x.rule)),V.d (D.v (.int .i64 x.top)),V.d (D.v (.int .i64 x.least)),V.d (D.v (.int .i64 x.part)),V.own ((0 : Nat) + (1 : Nat))] (25 : Nat)
@[reducible] def tR (x : Prd) (i : WiI) (o : Unit) (i_1 : WiI) (I : Unit→Prop) : Prop := ∃ (i_2 : WiI),i_2.n = x.top∧i_2.lo = 0∧i_2.hi = 9∧(((-9223372036854775808) ≤ i_2.n∧i_2.n ≤ 9223372036854775807)∧(-1000000) ≤ i_2.lo∧i_2.lo ≤ i_2.hi∧i_2.hi ≤ 1000000)∧∀ (o : Unit),True→x.part = x.part∧x.least = x.least∧∃ (i_3 : WiI),i_3.n = x.least∧i_3.lo = 0∧i_3.hi = 4∧(((-9223372036854775808) ≤ i_3.n∧i_3.n ≤ 9223372036854775807)∧(-1000000) ≤ i_3.lo∧i_3.lo ≤ i_3.hi∧i_3.hi ≤ 1000000)∧∀ (o : Unit),True→x.part = x.part∧∃ (i_4 : WiI),i_4.n = x.part∧i_4.lo = 0∧i_4.hi = 100∧(((-9223372036854775808) ≤ i_4.n∧i_4.n ≤ 9223372036854775807)∧(-1000000) ≤ i_4.lo∧i_4.lo ≤ i_4.hi∧i_4.hi ≤ 1000000)∧∀ (o : Unit),True→∃ (i' : Unit),sb [(206 : UInt8),(169 : UInt8)] = ByteArray.mk #[(206 : UInt8),(169 : UInt8)]∧True∧yB x = IntKind.i64.wrap (1 + zD i_1.n i_1.lo i_1.hi)∧(-20) * yB x = IntKind.i64.wrap ((-20) * IntKind.i64.wrap (1 + zD i_1.n i_1.lo i_1.hi))∧100 * yB x = IntKind.i64.wrap (100 * IntKind.i64.wrap (1 + zD i_1.n i_1.lo i_1.hi))∧(0 : Int) = (0 : Int)∧1 + zD x.rule 0 2 = IntKind.i64.wrap (1 + zD i.n i.lo i.hi)∧zD x.top 0 9 = zD i_2.n i_2.lo i_2.hi∧1 + zD x.least 0 4 = IntKind.i64.wrap (1 + zD i_3.n i_3.lo i_3.hi)∧zD x.part 0 100 = zD i_4.n i_4.lo i_4.hi∧True∧I i'∧uG = uG∧uN x = uN x∧AObj.fro 1 (iE x.settle) = AObj.fro 1 (iE x.settle)∧AObj.fro 1 (iE x.months) = AObj.fro 1 (iE x.months)
@[reducible] def cX (x : Prd) (i : WiI) (o : Unit) (i_1 : WiI) (I : Unit→Prop) (i_2 : WiI) (i_3 : WiI) : Prop := ∃ (i_4 : WiI),i_4.n = x.part∧i_4.lo = 0∧i_4.hi = 100∧(((-9223372036854775808) ≤ i_4.n∧i_4.n ≤ 9223372036854775807)∧(-1000000) ≤ i_4.lo∧i_4.lo ≤ i_4.hi∧i_4.hi ≤ 1000000)∧∀ (o : Unit),True→∃ (i' : Unit),sb [(206 : UInt8),(169 : UInt8)] = ByteArray.mk #[(206 : UInt8),(169 : UInt8)]∧True∧yB x = IntKind.i64.wrap (1 + zD i_1.n i_1.lo i_1.hi)∧(-20) * yB x = IntKind.i64.wrap ((-20) * IntKind.i64.wrap (1 + zD i_1.n i_1.lo i_1.hi))∧100 * yB x = IntKind.i64.wrap (100 * IntKind.i64.wrap (1 + zD i_1.n i_1.lo i_1.hi))∧(0 : Int) = (0 : Int)∧1 + zD x.rule 0 2 = IntKind.i64.wrap (1 + zD i.n i.lo i.hi)∧zD x.top 0 9 = zD i_2.n i_2.lo i_2.hi∧1 + zD x.least 0 4 = IntKind.i64.wrap (1 + zD i_3.n i_3.lo i_3.hi)∧zD x.part 0 100 = zD i_4.n i_4.lo i_4.hi∧True∧I i'∧uG = uG∧uN x = uN x∧AObj.fro 1 (iE x.settle) = AObj.fro 1 (iE x.settle)∧AObj.fro 1 (iE x.months) = AObj.fro 1 (iE x.months)
def zCu (x : Prd) : Prop :=
  ∃ (i : WiI),i.n = (↑(iE x.months).length : Int)∧i.lo = 0∧i.hi = 3∧(((-9223372036854775808) ≤ i.n∧i.n ≤ 9223372036854775807)∧(-1000000) ≤ i.lo∧i.lo ≤ i.hi∧i.hi ≤ 1000000)∧∀ (o : Unit),True→∃ (i_1 : WiI),i_1.n = x.tick∧i_1.lo = 0∧i_1.hi = 9∧(((-9223372036854775808) ≤ i_1.n∧i_1.n ≤ 9223372036854775807)∧(-1000000) ≤ i_1.lo∧i_1.lo ≤ i_1.hi∧i_1.hi ≤ 1000000)∧∀ (o : Unit),True→∃ (i0 : Unit),∃ (I : Unit→Prop),((∃ (i : WiI),i.n = x.rule∧i.lo = 0∧i.hi = 2∧(((-9223372036854775808) ≤ i.n∧i.n ≤ 9223372036854775807)∧(-1000000) ≤ i.lo∧i.lo ≤ i.hi∧i.hi ≤ 1000000)∧∀ (o : Unit),True→x.part = x.part∧x.least = x.least∧x.top = x.top∧(∃ (i_2 : WiI),i_2.n = x.top∧i_2.lo = 0∧i_2.hi = 9∧(((-9223372036854775808) ≤ i_2.n∧i_2.n ≤ 9223372036854775807)∧(-1000000) ≤ i_2.lo∧i_2.lo ≤ i_2.hi∧i_2.hi ≤ 1000000)∧∀ (o : Unit),True→x.part = x.part∧x.least = x.least∧(∃ (i_3 : WiI),i_3.n = x.least∧i_3.lo = 0∧i_3.hi = 4∧(((-9223372036854775808) ≤ i_3.n∧i_3.n ≤ 9223372036854775807)∧(-1000000) ≤ i_3.lo∧i_3.lo ≤ i_3.hi∧i_3.hi ≤ 1000000)∧∀ (o : Unit),True→x.part = x.part∧(cX x i o i_1 I i_2 i_3)∧x.part = x.part∧cX x i o i_1 I i_2 i_3)∧x.part = x.part∧x.least = x.least∧∃ (i_3 : WiI),i_3.n = x.least∧i_3.lo = 0∧i_3.hi = 4∧(((-9223372036854775808) ≤ i_3.n∧i_3.n ≤ 9223372036854775807)∧(-1000000) ≤ i_3.lo∧i_3.lo ≤ i_3.hi∧i_3.hi ≤ 1000000)∧∀ (o : Unit),True→x.part = x.part∧cX x i o i_1 I i_2 i_3)∧x.part = x.part∧x.least = x.least∧x.top = x.top∧tR x i o i_1 I)∧x.part = x.part∧x.least = x.least∧x.top = x.top∧x.rule = x.rule∧∃ (i : WiI),i.n = x.rule∧i.lo = 0∧i.hi = 2∧(((-9223372036854775808) ≤ i.n∧i.n ≤ 9223372036854775807)∧(-1000000) ≤ i.lo∧i.lo ≤ i.hi∧i.hi ≤ 1000000)∧∀ (o : Unit),True→x.part = x.part∧x.least = x.least∧x.top = x.top∧tR x i o i_1 I)∧∀ (i_2 : Unit),I i_2→∃ (i_3 : WiI),i_3.n = x.wide∧i_3.lo = 0∧i_3.hi = 60∧(((-9223372036854775808) ≤ i_3.n∧i_3.n ≤ 9223372036854775807)∧(-1000000) ≤ i_3.lo∧i_3.lo ≤ i_3.hi∧i_3.hi ≤ 1000000)∧∀ (o : Unit),True→∃ (i0 : Nat),(↑i0 : Int) = 0∧sb [(206 : UInt8),(169 : UInt8)] = sb [(206 : UInt8),(169 : UInt8)]∧yB x = yB x∧(-20) * yB x = (-20) * yB x∧100 * yB x = 100 * yB x∧yB x * (5 + zD x.wide 0 60) = IntKind.i64.wrap (IntKind.i64.wrap (1 + zD i_1.n i_1.lo i_1.hi) * IntKind.i64.wrap (5 + zD i_3.n i_3.lo i_3.hi))∧1 + zD x.rule 0 (2 : Int) = (1 : Int) + zD x.rule 0 2∧zD x.top 0 9 = zD x.top 0 (9 : Int)∧(1 : Int) + zD x.least 0 (4 : Int) = (1 : Int) + zD x.least 0 4∧zD x.part 0 100 = zD x.part 0 100∧iE (qD i0) = []∧iE (xS (yB x) i0) = []∧∃ (I : Nat→Prop),∃ (μ : Nat→Nat),I i0∧∀ (i_4 : Nat),I i_4→cnd (decide ((↑i_4 : Int) < IntKind.i64.wrap (2 + zD i.n i.lo i.hi))) (((iE (qD i_4)).length + 1) * (8 : Nat) ≤ (70368744177664 : Nat)∧((iE (xS (yB x) i_4)).length + 1) * (8 : Nat) ≤ (70368744177664 : Nat)∧∃ (i' : Nat),(↑i' : Int) = IntKind.i64.wrap ((↑i_4 : Int) + 1)∧sb [(206 : UInt8),(169 : UInt8)] = sb [(206 : UInt8),(169 : UInt8)]∧yB x = yB x∧(-20) * yB x = (-20) * yB x∧100 * yB x = 100 * yB x∧yB x * (5 + zD x.wide 0 60) = yB x * (5 + zD x.wide 0 60)∧1 + zD x.rule 0 (2 : Int) = (1 : Int) + zD x.rule 0 2∧zD x.top 0 9 = zD x.top 0 (9 : Int)∧(1 : Int) + zD x.least 0 (4 : Int) = (1 : Int) + zD x.least 0 4∧zD x.part 0 100 = zD x.part 0 100∧iE (qD i') = iE (qD i_4) ++ [[D.v (.int .i64 (IntKind.i64.wrap (IntKind.i64.wrap (10 * (↑i_4 : Int)) + 3)))]]∧iE (xS (yB x) i') = iE (xS (yB x) i_4) ++ [[D.v (.int .i64 (IntKind.i64.wrap (IntKind.i64.wrap (1 + zD i_1.n i_1.lo i_1.hi) * IntKind.i64.wrap (10 + (↑i_4 : Int)))))]]∧I i'∧μ i' < μ i_4∧uG = uG∧uN x = uN x∧AObj.fro 1 (iE x.settle) = AObj.fro 1 (iE x.settle)∧AObj.fro 1 (iE x.months) = AObj.fro 1 (iE x.months)) (∃ (o : Unit),sb [(206 : UInt8),(169 : UInt8)] = sb [(206 : UInt8),(169 : UInt8)]∧iE (qD (kN x).toNat) = iE (qD i_4)∧yB x = yB x∧(-20) * yB x = (-20) * yB x∧100 * yB x = 100 * yB x∧yB x * (5 + zD x.wide 0 60) = yB x * (5 + zD x.wide 0 60)∧1 + zD x.rule 0 (2 : Int) = (1 : Int) + zD x.rule 0 2∧zD x.top 0 9 = zD x.top 0 (9 : Int)∧(1 : Int) + zD x.least 0 (4 : Int) = (1 : Int) + zD x.least 0 4∧zD x.part 0 100 = zD x.part 0 100∧iE (xS (yB x) (kN x).toNat) = iE (xS (yB x) i_4)∧True)
theorem z2g (x : Prd) : zCu x = walk Try.prog ([(15,withinC)]) 0 (zWw x) (zUl x) [] Try.f6 (Try.f6.body.getD .skip) (kprodC.pat x) (kprodC.pre x) (kprodC.alts x) := by kernel_rfl
theorem z0w (hG : GOk Try.prog ([(15,withinC)])) (h : ∀ (x : Prd),kprodC.cnd x → zCu x) : kprodC.ok Try.prog 6 := zE mixed ([(15,withinC)]) hG 0 (fun (x : Prd) => zWw x) (fun (x : Prd) => zUl x) [] Try.func6 (by kernel_rfl) (by kernel_rfl) (by kernel_rfl) (fun _ => by kernel_rfl) (fun (x : Prd) hc => Eq.mp (z2g x) (h x hc))
set_option linter.unusedSimpArgs false
open Go Cv Go.Proofs
theorem zYb (s : List UInt8) (h : r3prodC.cnd s) : pN s := by
  have h : s.length ≤ 1099511627776 := h
  have hr := lU s
  unfold pN
  refine ⟨(0,0),rfl,rfl,rfl,fun x => x.1 ≤ s.length ∧ x.2 + (j7 s x.1).length = (jA s).length ∧ (jA s).all jB = ((j7 s x.1).all fun y => jB y.2),fun x => s.length - x.1,⟨by omega,by rw [jA,List.length_map]; simp,by rw [jA,List.all_map]; rfl⟩,?_⟩
  rintro ⟨p,n⟩ ⟨h1,h2,h3⟩
  dsimp only at h1 h2 h3 ⊢
  refine Cv.cnd.mk (fun hp => ?_) (fun hp => ?_)
  · have hp : p < s.length := by simpa [Nat.blt_eq] using hp
    have hw := uS s hp
    rw [jR hp,List.length_cons] at h2
    rw [jR hp,List.all_cons] at h3
    generalize hc : (Utf8.decode (sb s) p).1 = c at h2 h3 ⊢
    generalize hww : (Utf8.decode (sb s) p).2 = w at h2 h3 hw ⊢
    dsimp only at h3
    have g0 : ∀ b : Bool,(b = true → jB c = true) → (b = false → jB c = false) → b = jB c := fun b e1 e2 => by cases b <;> simp_all
    refine ⟨true,fun b => b = !jB c,?_,fun b hb => ?_⟩
    · refine zT (fun c1 => zT (fun c2 => ⟨_,rfl,?_,by (repeat' (first|exact trivial|exact rfl|apply And.intro))⟩) (fun c2 => zT (fun c3 => zT (fun c4 => ⟨_,rfl,?_,by (repeat' (first|exact trivial|exact rfl|apply And.intro))⟩) (fun c4 => ⟨_,rfl,?_,by (repeat' (first|exact trivial|exact rfl|apply And.intro))⟩)) (fun c3 => ⟨_,rfl,?_,by (repeat' (first|exact trivial|exact rfl|apply And.intro))⟩))) (fun c1 => zT (fun c3 => zT (fun c4 => ⟨_,rfl,?_,by (repeat' (first|exact trivial|exact rfl|apply And.intro))⟩) (fun c4 => ⟨_,rfl,?_,by (repeat' (first|exact trivial|exact rfl|apply And.intro))⟩)) (fun c3 => ⟨_,rfl,?_,by (repeat' (first|exact trivial|exact rfl|apply And.intro))⟩))
      all_goals congr 1
      all_goals refine g0 _ (fun e => ?_) (fun e => ?_)
      all_goals first | (simp [jB] at *; done) | (simp [jB] at *; omega)
    · subst hb
      refine Cv.cnd.mk (fun e => ⟨(),?_,trivial⟩) (fun e => ⟨(p + w,n + 1),?_,rfl,rfl,⟨hw.2,by (first | omega | (dsimp only; omega)),?_⟩,by (first | omega | (dsimp only; omega)),trivial⟩)
      · have e : jB c = false := by simpa using e
        rw [qO,h3,e]; rfl
      · rw [w64 (by omega)]; rfl
      · have e : jB c = true := by simpa using e
        rw [h3,e]; rfl
  · have hp : s.length ≤ p := by have := zWa hp; simpa using this
    rw [vK hp] at h2 h3
    have h3 : (jA s).all jB = true := h3
    have hn : n = (jA s).length := by simpa using h2
    have hne : (s = []) ↔ (jA s).length = 0 := by
      constructor
      · intro e; subst e; rfl
      · intro e
        cases s with
        | nil => rfl
        | cons b l =>
          rw [jA,List.length_map,jR (by simp)] at e
          simp at e
    refine zT (fun c => ⟨(),?_,trivial⟩) (fun c => ⟨(),?_,trivial⟩)
    · have : ¬ s = [] := by rw [hne]; omega
      rw [qO,h3,decide_eq_true this,hn]
      simp only [Bool.true_and]
      congr 1
      simp only [eq_iff_iff]; omega
    · have : s = [] := by rw [hne]; omega
      rw [qO,this]; rfl
theorem zPq : r3prodC.ok Try.prog 55 := zVp gok0 zYb
theorem gN : ∀ (l : List Int) (a : Int),l.foldl min a ≤ a ∧ ∀ x ∈ l,l.foldl min a ≤ x
  | [],a => ⟨Int.le_refl _,by simp⟩
  | b :: l,a => by
    obtain ⟨h1,h2⟩ := gN l (min a b)
    rw [List.foldl_cons]
    refine ⟨by omega,fun x hx => ?_⟩
    rcases List.mem_cons.1 hx with rfl | hx
    · omega
    · exact h2 x hx
theorem gJ : ∀ (l : List Int) (a : Int),a ≤ l.foldl max a ∧ ∀ x ∈ l,x ≤ l.foldl max a
  | [],a => ⟨Int.le_refl _,by simp⟩
  | b :: l,a => by
    obtain ⟨h1,h2⟩ := gJ l (max a b)
    rw [List.foldl_cons]
    refine ⟨by omega,fun x hx => ?_⟩
    rcases List.mem_cons.1 hx with rfl | hx
    · omega
    · exact h2 x hx
theorem dS : ∀ (l : List Int) (a : Int),l.foldl min a = a ∨ l.foldl min a ∈ l
  | [],a => .inl rfl
  | b :: l,a => by
    rw [List.foldl_cons]
    rcases dS l (min a b) with h | h
    · rcases Int.le_total a b with e | e
      · left; rw [h]; omega
      · right; rw [h,show min a b = b by omega]; exact List.mem_cons_self
    · exact .inr (List.mem_cons_of_mem _ h)
theorem dU : ∀ (l : List Int) (a : Int),l.foldl max a = a ∨ l.foldl max a ∈ l
  | [],a => .inl rfl
  | b :: l,a => by
    rw [List.foldl_cons]
    rcases dU l (max a b) with h | h
    · rcases Int.le_total a b with e | e
      · right; rw [h,show max a b = b by omega]; exact List.mem_cons_self
      · left; rw [h]; omega
    · exact .inr (List.mem_cons_of_mem _ h)
theorem z0z {l : List Int} {x : Int} (h : x ∈ l) : hD l ≤ x := by
  cases l with
  | nil => cases h
  | cons a l =>
    rw [hD,List.tail_cons,List.headD_cons]
    rcases List.mem_cons.1 h with rfl | h
    · exact (gN l x).1
    · exact (gN l a).2 x h
theorem zXx {l : List Int} {x : Int} (h : x ∈ l) : x ≤ gR l := by
  cases l with
  | nil => cases h
  | cons a l =>
    rw [gR,List.tail_cons,List.headD_cons]
    rcases List.mem_cons.1 h with rfl | h
    · exact (gJ l x).1
    · exact (gJ l a).2 x h
theorem zEv {l : List Int} (h : l ≠ []) : hD l ∈ l := by
  cases l with
  | nil => exact absurd rfl h
  | cons a l =>
    rw [hD,List.tail_cons,List.headD_cons]
    rcases dS l a with h | h
    · rw [h]; exact List.mem_cons_self
    · exact List.mem_cons_of_mem _ h
theorem zGi {l : List Int} (h : l ≠ []) : gR l ∈ l := by
  cases l with
  | nil => exact absurd rfl h
  | cons a l =>
    rw [gR,List.tail_cons,List.headD_cons]
    rcases dU l a with h | h
    · rw [h]; exact List.mem_cons_self
    · exact List.mem_cons_of_mem _ h
theorem zWj (p : Prd) (h : r5checkC.cnd p) : aB p := by
  obtain ⟨h1,h2,h3⟩ : p.small := h
  unfold aB cR
  simp only [yU]
  refine ⟨p.code,rfl,h1,fun _ _ => Cv.cnd.mk (fun c1 => ⟨(),by rw [Prd.check,if_pos c1],trivial⟩) fun c1 => ?_⟩
  have c1 : qO p.code = true := by simpa using c1
  have e1 : p.check = if !yT p.months then 1 else if !xI p then 22 else if xJ p then 23 else if yW p then 1 else if xR p then 31 else if xC p then 24 else 0 := by
    rw [Prd.check,if_neg (by simp [c1])]
  refine ⟨true,fun b => b = (decide (p.months.length < 2) || decide (p.months.length > 6)),zT (fun c => ⟨true,rfl,?_,by (repeat' (first|exact trivial|exact rfl|apply And.intro))⟩) (fun c => ⟨_,rfl,?_,by (repeat' (first|exact trivial|exact rfl|apply And.intro))⟩),fun b hb => ?_⟩
  · rw [decide_eq_true (show p.months.length < 2 by omega)]; rfl
  · rw [decide_eq_false (show ¬ p.months.length < 2 by omega),Bool.false_or]
    congr 1; simp only [eq_iff_iff]; omega
  subst hb
  refine Cv.cnd.mk (fun c2 => ?_) (fun c2 => ?_)
  · have : yT p.months = false := by
      simp only [Bool.or_eq_true,decide_eq_true_eq] at c2
      rw [yT]
      rcases c2 with c2 | c2
      · rw [decide_eq_false (show ¬ 2 ≤ p.months.length by omega)]; simp
      · rw [decide_eq_false (show ¬ p.months.length ≤ 6 by omega)]; simp
    exact ⟨(),by rw [e1,if_pos (by rw [this]; rfl)],trivial⟩
  have c2 : 2 ≤ p.months.length ∧ p.months.length ≤ 6 := by
    simp only [Bool.or_eq_false_iff,decide_eq_false_iff_not] at c2; omega
  have em : yT p.months = (List.range p.months.length).all (xM p.months) := by
    rw [yT,decide_eq_true c2.1,decide_eq_true c2.2]; simp
  refine ⟨0,rfl,fun j => j ≤ p.months.length ∧ ∀ k < j,xM p.months k = true,fun j => p.months.length - j,⟨by omega,fun k hk => by omega⟩,?_⟩
  rintro j ⟨g1,g2⟩
  refine zT (fun hj => ?_) (fun hj => ?_)
  · obtain ⟨m,hm⟩ := z9 (l := p.months) (i := j) (by omega)
    have hmj : p.months.getD j 0 = m := zU hm
    refine ⟨true,fun b => b = !xM p.months j,⟨⟨by omega,by omega⟩,m,elI hm,zT (fun c => ⟨true,rfl,?_,by (repeat' (first|exact trivial|exact rfl|apply And.intro))⟩) (fun c => ⟨⟨by omega,by omega⟩,m,elI hm,zT (fun d => ⟨true,rfl,?_,by (repeat' (first|exact trivial|exact rfl|apply And.intro))⟩) (fun d => zT (fun e => ?_) (fun e => ⟨false,rfl,?_,by (repeat' (first|exact trivial|exact rfl|apply And.intro))⟩))⟩)⟩,fun b hb => ?_⟩
    · rw [xM,hmj,decide_eq_false (show ¬ 0 ≤ m by omega)]; rfl
    · rw [xM,hmj,decide_eq_false (show ¬ m ≤ 1199 by omega)]; simp
    · obtain ⟨m',hm'⟩ := z9 (l := p.months) (i := j - 1) (by omega)
      rw [w64 (by omega),show ((j : Int) - 1).toNat = j - 1 by omega]
      refine ⟨⟨by omega,by omega⟩,m',elI hm',⟨by omega,by omega⟩,m,elI hm,_,rfl,?_,by (repeat' (first|exact trivial|exact rfl|apply And.intro))⟩
      rw [xM,hmj,zU hm',decide_eq_true (show 0 ≤ m by omega),decide_eq_true (show m ≤ 1199 by omega),decide_eq_false (show ¬ j = 0 by omega)]
      simp only [Bool.true_and,Bool.false_or]
      by_cases hlt : m' < m
      · rw [decide_eq_true hlt,decide_eq_false (by omega)]; rfl
      · rw [decide_eq_false hlt,decide_eq_true (by omega)]; rfl
    · rw [xM,hmj,decide_eq_true (show 0 ≤ m by omega),decide_eq_true (show m ≤ 1199 by omega),decide_eq_true (show j = 0 by omega)]; rfl
    · subst hb
      refine Cv.cnd.mk (fun c => ⟨(),?_,trivial⟩) (fun c => ⟨j + 1,by rw [w64 (by omega)]; rfl,⟨by omega,fun k hk => ?_⟩,by (first | omega | (dsimp only; omega)),by (repeat' (first|exact trivial|exact rfl|apply And.intro))⟩)
      · have c : xM p.months j = false := by simpa using c
        rw [e1,if_pos (by rw [em,zAj (k := j) (by omega) c]; rfl)]
      · have c : xM p.months j = true := by simpa using c
        rcases Nat.lt_or_ge k j with h | h
        · exact g2 k h
        · obtain rfl : k = j := by omega
          exact c
  have em : yT p.months = true := by rw [em]; exact zGd fun k hk => g2 k (by omega)
  have e2 : p.check = if !xI p then 22 else if xJ p then 23 else if yW p then 1 else if xR p then 31 else if xC p then 24 else 0 := by
    rw [e1,if_neg (by simp [em])]
  have et : xI p = ((decide (1 ≤ p.tick) && decide (p.tick ≤ 1000) && !xL p.tick p.low && !xL p.tick p.high && !xL p.tick p.wide) && !p.settle.any (xL p.tick)) := rfl
  refine ⟨true,fun b => b = !(decide (1 ≤ p.tick) && decide (p.tick ≤ 1000) && !xL p.tick p.low && !xL p.tick p.high && !xL p.tick p.wide),zT (fun d1 => ⟨true,rfl,?_,by (repeat' (first|exact trivial|exact rfl|apply And.intro))⟩) (fun d1 => zT (fun d2 => ⟨true,rfl,?_,by (repeat' (first|exact trivial|exact rfl|apply And.intro))⟩) (fun d2 => ⟨trivial,by omega,Cv.cnd.mk (fun d3 => ⟨true,rfl,?_,by (repeat' (first|exact trivial|exact rfl|apply And.intro))⟩) (fun d3 => ⟨trivial,by omega,Cv.cnd.mk (fun d4 => ⟨true,rfl,?_,by (repeat' (first|exact trivial|exact rfl|apply And.intro))⟩) (fun d4 => ⟨trivial,by omega,_,rfl,?_,by (repeat' (first|exact trivial|exact rfl|apply And.intro))⟩)⟩)⟩)),fun b hb => ?_⟩
  · rw [decide_eq_false (show ¬ 1 ≤ p.tick by omega)]; rfl
  · rw [decide_eq_false (show ¬ p.tick ≤ 1000 by omega)]; simp
  · have d3 : xL p.tick p.low = true := d3
    rw [d3]; simp
  · have d4 : xL p.tick p.high = true := d4
    rw [d4]; simp
  · have d3 : xL p.tick p.low = false := d3
    have d4 : xL p.tick p.high = false := d4
    rw [d3,d4,decide_eq_true (show 1 ≤ p.tick by omega),decide_eq_true (show p.tick ≤ 1000 by omega)]
    show xL p.tick p.wide = _
    simp
  subst hb
  refine Cv.cnd.mk (fun c3 => ?_) (fun c3 => ?_)
  · have c3 : (decide (1 ≤ p.tick) && decide (p.tick ≤ 1000) && !xL p.tick p.low && !xL p.tick p.high && !xL p.tick p.wide) = false := by
      rw [Bool.not_eq_true'] at c3
      exact c3
    exact ⟨(),by rw [e2,if_pos (by rw [et,c3]; rfl)],trivial⟩
  have c3 : (decide (1 ≤ p.tick) && decide (p.tick ≤ 1000) && !xL p.tick p.low && !xL p.tick p.high && !xL p.tick p.wide) = true := by simpa using c3
  have ht1 : 1 ≤ p.tick := by
    simp only [Bool.and_eq_true,decide_eq_true_eq] at c3; exact c3.1.1.1.1
  rw [c3,Bool.true_and] at et
  refine ⟨0,rfl,fun j => j ≤ p.settle.length ∧ ∀ k < j,∀ x,p.settle[k]? = some x → xL p.tick x = false,fun j => p.settle.length - j,⟨by omega,fun k hk => by omega⟩,?_⟩
  rintro j ⟨g1,g2⟩
  refine zT (fun hj => ?_) (fun hj => ?_)
  · obtain ⟨m,hm⟩ := z9 (l := p.settle) (i := j) (by omega)
    refine ⟨⟨by omega,by omega⟩,m,elI hm,trivial,by omega,Cv.cnd.mk (fun c => ⟨(),?_,trivial⟩) (fun c => ⟨j + 1,by rw [w64 (by omega)]; rfl,⟨by omega,fun k hk x hx => ?_⟩,by (first | omega | (dsimp only; omega)),by (repeat' (first|exact trivial|exact rfl|apply And.intro))⟩)⟩
    · have c : xL p.tick m = true := c
      have : p.settle.any (xL p.tick) = true := by rw [List.any_eq_true]; exact ⟨m,List.mem_of_getElem? hm,c⟩
      rw [e2,if_pos (by rw [et,this]; rfl)]
    · rcases Nat.lt_or_ge k j with h | h
      · exact g2 k h x hx
      · obtain rfl : k = j := by omega
        rw [hm] at hx; cases hx; exact c
  have et : xI p = true := by
    rw [et]
    have : p.settle.any (xL p.tick) = false := by
      rw [List.any_eq_false]
      intro x hx
      obtain ⟨k,hk⟩ := List.getElem?_of_mem hx
      rw [g2 k (by have := (List.getElem?_eq_some_iff.1 hk).1; omega) x hk]; simp
    rw [this]; rfl
  have e3 : p.check = if xJ p then 23 else if yW p then 1 else if xR p then 31 else if xC p then 24 else 0 := by
    rw [e2,if_neg (by simp [et])]
  refine ⟨true,fun b => b = xJ p,zT (fun d1 => ⟨true,rfl,?_,by (repeat' (first|exact trivial|exact rfl|apply And.intro))⟩) (fun d1 => zT (fun d2 => ⟨true,rfl,?_,by (repeat' (first|exact trivial|exact rfl|apply And.intro))⟩) (fun d2 => zT (fun d3 => ⟨true,rfl,?_,by (repeat' (first|exact trivial|exact rfl|apply And.intro))⟩) (fun d3 => zT (fun d4 => ⟨true,rfl,?_,by (repeat' (first|exact trivial|exact rfl|apply And.intro))⟩) (fun d4 => ⟨_,rfl,?_,by (repeat' (first|exact trivial|exact rfl|apply And.intro))⟩)))),fun b hb => ?_⟩
  · simp [xJ,d1]
  · simp [xJ,d2]
  · simp [xJ,d3]
  · simp [xJ,d4]
  · rw [w64 (by omega)]; simp [xJ,d1,d2,d3,d4]
  subst hb
  refine Cv.cnd.mk (fun c4 => ⟨(),by rw [e3,if_pos c4],trivial⟩) (fun c4 => ?_)
  have e4 : p.check = if yW p then 1 else if xR p then 31 else if xC p then 24 else 0 := by
    rw [e3,if_neg (by simp [c4])]
  refine Cv.cnd.mk (fun d6 => ⟨(),?_,trivial⟩) (fun d6 => ?_)
  · have d6 : ¬ (p.settle.length : Int) = p.months.length := by simpa using d6
    rw [e4,if_pos (by simp [yW]; omega)]
  have d6 : p.settle.length = p.months.length := by
    have : (p.settle.length : Int) = p.months.length := by simpa using d6
    omega
  have hne : p.settle ≠ [] := by intro e; rw [e] at d6; simp at d6; omega
  refine ⟨0,rfl,fun j => j ≤ p.settle.length ∧ ∀ k < j,∀ x,p.settle[k]? = some x → p.low ≤ x ∧ x ≤ p.high,fun j => p.settle.length - j,⟨by omega,fun k hk => by omega⟩,?_⟩
  rintro j ⟨g3,g4⟩
  refine zT (fun hj => ?_) (fun hj => ?_)
  · obtain ⟨m,hm⟩ := z9 (l := p.settle) (i := j) (by omega)
    have hmm := List.mem_of_getElem? hm
    refine ⟨true,fun b => b = (decide (m < p.low) || decide (m > p.high)),⟨⟨by omega,by omega⟩,m,elI hm,zT (fun c => ⟨true,rfl,?_,by (repeat' (first|exact trivial|exact rfl|apply And.intro))⟩) (fun c => ⟨⟨by omega,by omega⟩,m,elI hm,_,rfl,?_,by (repeat' (first|exact trivial|exact rfl|apply And.intro))⟩)⟩,fun b hb => ?_⟩
    · rw [decide_eq_true c]; rfl
    · rw [decide_eq_false c,Bool.false_or]
    · subst hb
      refine Cv.cnd.mk (fun c => ⟨(),?_,trivial⟩) (fun c => ⟨j + 1,by rw [w64 (by omega)]; rfl,⟨by omega,fun k hk x hx => ?_⟩,by (first | omega | (dsimp only; omega)),by (repeat' (first|exact trivial|exact rfl|apply And.intro))⟩)
      · have l1 := z0z hmm
        have l2 := zXx hmm
        rw [e4,if_pos (by
          simp only [Bool.or_eq_true,decide_eq_true_eq] at c
          simp only [yW,Bool.or_eq_true,decide_eq_true_eq]
          rcases c with c | c
          · left; right; omega
          · right; omega)]
      · rcases Nat.lt_or_ge k j with h | h
        · exact g4 k h x hx
        · obtain rfl : k = j := by omega
          rw [hm] at hx; cases hx
          simp only [Bool.or_eq_false_iff,decide_eq_false_iff_not] at c
          omega
  have hset : yW p = false := by
    have all : ∀ x ∈ p.settle,p.low ≤ x ∧ x ≤ p.high := fun x hx => by
      obtain ⟨k,hk⟩ := List.getElem?_of_mem hx
      exact g4 k (by have := (List.getElem?_eq_some_iff.1 hk).1; omega) x hk
    have a1 := all _ (zEv hne)
    have a2 := all _ (zGi hne)
    simp only [yW,Bool.or_eq_false_iff,decide_eq_false_iff_not]
    omega
  have e5 : p.check = if xR p then 31 else if xC p then 24 else 0 := by
    rw [e4,if_neg (by simp [hset])]
  refine ⟨true,fun b => b = xR p,zT (fun d1 => ⟨true,rfl,?_,by (repeat' (first|exact trivial|exact rfl|apply And.intro))⟩) (fun d1 => ⟨_,rfl,?_,by (repeat' (first|exact trivial|exact rfl|apply And.intro))⟩),fun b hb => ?_⟩
  · simp [xR,d1]
  · simp [xR,d1]
  subst hb
  refine Cv.cnd.mk (fun c6 => ⟨(),by rw [e5,if_pos c6],trivial⟩) (fun c6 => ?_)
  have e6 : p.check = if xC p then 24 else 0 := by rw [e5,if_neg (by simp [c6])]
  refine ⟨true,fun b => b = xC p,zT (fun d1 => ⟨true,rfl,?_,by (repeat' (first|exact trivial|exact rfl|apply And.intro))⟩) (fun d1 => zT (fun d2 => ⟨true,rfl,?_,by (repeat' (first|exact trivial|exact rfl|apply And.intro))⟩) (fun d2 => zT (fun d3 => ⟨true,rfl,?_,by (repeat' (first|exact trivial|exact rfl|apply And.intro))⟩) (fun d3 => zT (fun d4 => ⟨true,rfl,?_,by (repeat' (first|exact trivial|exact rfl|apply And.intro))⟩) (fun d4 => zT (fun d5 => ⟨true,rfl,?_,by (repeat' (first|exact trivial|exact rfl|apply And.intro))⟩) (fun d5 => ⟨_,rfl,?_,by (repeat' (first|exact trivial|exact rfl|apply And.intro))⟩))))),fun b hb => ?_⟩
  · simp [xC,d1]
  · simp [xC,d2]
  · simp [xC,d3]
  · simp [xC,d4]
  · simp [xC,d5]
  · simp [xC,d1,d2,d3,d4,d5]
  subst hb
  exact Cv.cnd.mk (fun c7 => ⟨(),by rw [e6,if_pos c7],trivial⟩) (fun c7 => ⟨(),by rw [e6,if_neg (by simp [c7])],trivial⟩)
theorem sN : r5checkC.ok Try.prog 30 := zPu (gokc zPq gok0) zWj
theorem dH {p : Prd} (h : p.check = 0) : p.count = p.months.length + p.months.length * (p.months.length - 1) / 2 := by rw [Prd.count,if_pos h]
theorem tU {p : Prd} (h : p.check ≠ 0) : p.count = 0 := by rw [Prd.count,if_neg h]
theorem zSa (p : Prd) (h : r5countC.cnd p) : bM p := by
  have hs : p.small := h
  unfold bM
  simp only [yU]
  refine ⟨p,rfl,rfl,rfl,rfl,rfl,rfl,rfl,rfl,rfl,rfl,rfl,hs,fun _ _ => Cv.cnd.mk (fun c => ⟨(),?_,trivial⟩) (fun c => ⟨trivial,by decide,(),?_,trivial⟩)⟩
  · rw [tU (by simpa using c)]; rfl
  · have c : p.check = 0 := by simpa using c
    have m6 := (xV c).m6
    have m2 := (xV c).m2
    rw [dH c]
    generalize p.months.length = n at *
    have : n = 2 ∨ n = 3 ∨ n = 4 ∨ n = 5 ∨ n = 6 := by omega
    rcases this with rfl | rfl | rfl | rfl | rfl <;> decide
theorem r5count_ok : r5countC.ok Try.prog 12 := zQd (gokc sN gok0) zSa
theorem zVy : ∀ n ≤ 6,∀ a < n,∀ b < n - 1 - a,xX n (zZ n a + b) n 0 = ((a : Int),((a + 1 + b : Nat) : Int),true) ∧ zZ n a + b < n + n * (n - 1) / 2 ∧ n ≤ zZ n a + b := by decide
theorem zOf : ∀ n ≤ 6,zZ n n = n + n * (n - 1) / 2 := by decide
theorem z2l {p : Prd} (h : p.check = 0) {a b : Nat} (ha : a < p.months.length) (hb : b < p.months.length - 1 - a) : p.legs ((zZ p.months.length a + b : Nat) : Int) = ((a : Int),((a + 1 + b : Nat) : Int),true) := by
  obtain ⟨h1,h2,h3⟩ := zVy _ (xV h).m6 a ha b hb
  rw [Prd.legs,if_neg (by rw [dH h]; omega),if_neg (by omega),Int.toNat_natCast]
  exact h1
theorem z0l (i : j8) (h : r5legsC.cnd i) : pK i := by
  have hs : i.p.small := h
  unfold pK
  simp only [yU]
  refine ⟨i.p,rfl,rfl,rfl,rfl,rfl,rfl,rfl,rfl,rfl,rfl,rfl,hs,fun _ _ => Cv.cnd.mk (fun c => ?_) (fun c => zT (fun c1 => ?_) (fun c1 => zT (fun c2 => ?_) (fun c2 => ?_)))⟩
  · rw [Prd.legs,if_pos (by rw [tU (by simpa using c)]; omega)]; (repeat' (first|exact rfl|exact trivial|assumption|apply And.intro|refine fun (_:Unit) (_:True)=>?_|refine Exists.intro () ?_|omega|(dsimp only;omega)))
  · rw [Prd.legs,if_pos (.inl c1)]; (repeat' (first|exact rfl|exact trivial|assumption|apply And.intro|refine fun (_:Unit) (_:True)=>?_|refine Exists.intro () ?_|omega|(dsimp only;omega)))
  · have c : i.p.check = 0 := by simpa using c
    rw [Prd.legs,if_neg (by rw [dH c]; omega),if_pos c2]; (repeat' (first|exact rfl|exact trivial|assumption|apply And.intro|refine fun (_:Unit) (_:True)=>?_|refine Exists.intro () ?_|omega|(dsimp only;omega)))
  · have c : i.p.check = 0 := by simpa using c
    have m6 := (xV c).m6
    obtain ⟨k,hk⟩ : ∃ k : Nat,i.n = k := ⟨i.n.toNat,by omega⟩
    have sp := fun (a b : Nat) ha hb => z2l (p := i.p) c (a := a) (b := b) ha hb
    have fe := zOf _ m6
    have out : i.p.count ≤ k → i.p.legs (k : Int) = (0,0,false) := fun e => by rw [Prd.legs,if_pos (by omega)]
    rw [dH c,← fe] at out
    rw [hk] at c2 ⊢
    generalize hn : i.p.months.length = n at *
    refine ⟨0,rfl,rfl,fun m => m ≤ n ∧ zZ n m ≤ k,fun m => n - m,⟨by omega,by show n ≤ k; omega⟩,?_⟩
    rintro m ⟨g1,g2⟩
    have hf := tC m6 g1
    refine zT (fun c4 => ?_) (fun c4 => ?_)
    · refine ⟨(m,0),rfl,rfl,by rw [w64 (by omega)]; simp,fun x => x.1 = m ∧ x.2 ≤ n - 1 - m ∧ zZ n m + x.2 ≤ k,fun x => n - 1 - m - x.2,⟨rfl,by (first | omega | (dsimp only; omega)),by (first | omega | (dsimp only; omega))⟩,?_⟩
      rintro ⟨a,b⟩ ⟨g3,g4,g5⟩
      dsimp only at g3 g4 g5 ⊢
      subst g3
      refine zT (fun c5 => Cv.cnd.mk (fun e => ?_) (fun e => ?_)) (fun c5 => ?_)
      · have e : ((zZ n a + b : Nat) : Int) = (k : Int) := by simpa using e
        have := sp a b (by omega) (by omega)
        rw [e] at this
        rw [this]; (repeat' (first|exact rfl|exact trivial|assumption|apply And.intro|refine fun (_:Unit) (_:True)=>?_|refine Exists.intro () ?_|omega|(dsimp only;omega)))
      · have e : ¬ ((zZ n a + b : Nat) : Int) = (k : Int) := by simpa using e
        refine ⟨(a,b + 1),?_,rfl,?_,⟨rfl,by (first | omega | (dsimp only; omega)),by (first | omega | (dsimp only; omega))⟩,by (first | omega | (dsimp only; omega)),by (repeat' (first|exact trivial|exact rfl|apply And.intro))⟩
        · rw [w64 (by omega)]; dsimp only; omega
        · rw [w64 (by omega)]; dsimp only; omega
      · refine ⟨a + 1,?_,by rw [w64 (by omega)]; rfl,⟨by omega,?_⟩,by (first | omega | (dsimp only; omega)),by (repeat' (first|exact trivial|exact rfl|apply And.intro))⟩
        · rw [zZ]; omega
        · rw [zZ]; omega
    · obtain rfl : m = n := by omega
      rw [out g2]; (repeat' (first|exact rfl|exact trivial|assumption|apply And.intro|refine fun (_:Unit) (_:True)=>?_|refine Exists.intro () ?_|omega|(dsimp only;omega)))
theorem zQu : r5legsC.ok Try.prog 20 := zVu (gokc sN gok0) z0l
theorem zHm (x : Prd) : 1 ≤ yB x ∧ yB x ≤ 10 := by
  have := yV (n := x.tick) (lo := 0) (hi := 9) (by omega)
  rw [yB]; omega
theorem zVr (x : Prd) : 2 ≤ kN x ∧ kN x ≤ 5 := by
  have := yV (n := (x.months.length : Int)) (lo := 0) (hi := 3) (by omega)
  rw [kN]; omega
theorem zCz {a b m n : Int} (ha : 0 ≤ a ∧ a ≤ m) (hb : 0 ≤ b ∧ b ≤ n) : 0 ≤ a * b ∧ a * b ≤ m * n := by
  refine ⟨Int.mul_nonneg ha.1 hb.1,?_⟩
  exact Int.le_trans (Int.mul_le_mul_of_nonneg_right ha.2 hb.1) (Int.mul_le_mul_of_nonneg_left hb.2 (by omega))
theorem zCs (j : Nat) : iE (qD (j + 1)) = iE (qD j) ++ [[D.v (.int .i64 (10 * (j : Int) + 3))]] := by
  rw [qD,List.range_succ,List.map_append,iE,List.map_append]; rfl
theorem zDa (t : Int) (j : Nat) : iE (xS t (j + 1)) = iE (xS t j) ++ [[D.v (.int .i64 (t * (10 + (j : Int))))]] := by
  rw [xS,List.range_succ,List.map_append,iE,List.map_append]; rfl
theorem fN (j : Nat) : (qD j).length = j := by simp [qD]
theorem v9 (t : Int) (j : Nat) : (xS t j).length = j := by simp [xS]
theorem z8h (x : Prd) (h : kprodC.cnd x) : zCu x := by
  obtain ⟨h1,h2,h3,h4,h5,h6,h7⟩ : x.raw := h
  have hw : -1000000 ≤ (0 : Int) := by decide
  have bt := yV (n := x.tick) (lo := 0) (hi := 9) (by omega)
  have bw := yV (n := x.wide) (lo := 0) (hi := 60) (by omega)
  have br := yV (n := x.rule) (lo := 0) (hi := 2) (by omega)
  have bl := yV (n := x.least) (lo := 0) (hi := 4) (by omega)
  have bn := yV (n := (x.months.length : Int)) (lo := 0) (hi := 3) (by omega)
  have kt := zHm x
  have kn := zVr x
  have w1 : IntKind.i64.wrap (1 + zD x.tick 0 9) = yB x := w64 (by omega)
  have w2 : IntKind.i64.wrap (-20 * IntKind.i64.wrap (1 + zD x.tick 0 9)) = -20 * yB x := by rw [w1]; exact w64 (by omega)
  have w3 : IntKind.i64.wrap (100 * IntKind.i64.wrap (1 + zD x.tick 0 9)) = 100 * yB x := by rw [w1]; exact w64 (by omega)
  have w4 : IntKind.i64.wrap (1 + zD x.rule 0 2) = 1 + zD x.rule 0 2 := w64 (by omega)
  have w5 : IntKind.i64.wrap (1 + zD x.least 0 4) = 1 + zD x.least 0 4 := w64 (by omega)
  have w6 : IntKind.i64.wrap (2 + zD x.months.length 0 3) = kN x := w64 (by omega)
  have mb := zCz (a := yB x) (b := 5 + zD x.wide 0 60) (m := 10) (n := 65) (by omega) (by omega)
  have w7 : IntKind.i64.wrap (IntKind.i64.wrap (1 + zD x.tick 0 9) * IntKind.i64.wrap (5 + zD x.wide 0 60)) = yB x * (5 + zD x.wide 0 60) := by
    rw [w1,w64 (x := 5 + zD x.wide 0 60) (by omega)]; exact w64 (by omega)
  unfold zCu tR cX
  simp only [yU]
  refine ⟨⟨x.months.length,0,3⟩,rfl,rfl,rfl,⟨⟨by dsimp only;omega,by dsimp only;omega⟩,by dsimp only;omega,by dsimp only;omega,by dsimp only;omega⟩,fun _ _ => ⟨⟨x.tick,0,9⟩,rfl,rfl,rfl,⟨h1,by dsimp only;omega,by dsimp only;omega,by dsimp only;omega⟩,fun _ _ => ?_⟩⟩
  dsimp only
  refine ⟨(),fun _ => True,?_,fun _ _ => ?_⟩
  · repeat' (first | exact trivial | exact rfl | exact w1.symm | exact w2.symm | exact w3.symm | exact w4.symm | exact w5.symm | apply And.intro | refine ⟨⟨x.rule,0,2⟩,rfl,rfl,rfl,⟨h3,by dsimp only;omega,by dsimp only;omega,by dsimp only;omega⟩,fun _ _ => ?_⟩ | refine ⟨⟨x.top,0,9⟩,rfl,rfl,rfl,⟨h4,by dsimp only;omega,by dsimp only;omega,by dsimp only;omega⟩,fun _ _ => ?_⟩ | refine ⟨⟨x.least,0,4⟩,rfl,rfl,rfl,⟨h5,by dsimp only;omega,by dsimp only;omega,by dsimp only;omega⟩,fun _ _ => ?_⟩ | refine ⟨⟨x.part,0,100⟩,rfl,rfl,rfl,⟨h6,by dsimp only;omega,by dsimp only;omega,by dsimp only;omega⟩,fun _ _ => ?_⟩ | refine ⟨(),?_⟩)
  · refine ⟨⟨x.wide,0,60⟩,rfl,rfl,rfl,⟨h2,by dsimp only;omega,by dsimp only;omega,by dsimp only;omega⟩,fun _ _ => ?_⟩
    dsimp only
    rw [w7,w6]
    refine ⟨0,by (first|exact rfl|exact trivial),by (first|exact rfl|exact trivial),by (first|exact rfl|exact trivial),by (first|exact rfl|exact trivial),by (first|exact rfl|exact trivial),by (first|exact rfl|exact trivial),by (first|exact rfl|exact trivial),by (first|exact rfl|exact trivial),by (first|exact rfl|exact trivial),by (first|exact rfl|exact trivial),by (first|exact rfl|exact trivial),by (first|exact rfl|exact trivial),fun j => j ≤ (kN x).toNat,fun j => (kN x).toNat - j,by omega,?_⟩
    intro j hj
    rw [fN,v9]
    refine zT (fun c => ⟨by omega,by omega,j + 1,by rw [w64 (by omega)]; rfl,by (first|exact rfl|exact trivial),by (first|exact rfl|exact trivial),by (first|exact rfl|exact trivial),by (first|exact rfl|exact trivial),by (first|exact rfl|exact trivial),by (first|exact rfl|exact trivial),by (first|exact rfl|exact trivial),by (first|exact rfl|exact trivial),by (first|exact rfl|exact trivial),?_,?_,by (first | omega | (dsimp only; omega)),by (first | omega | (dsimp only; omega)),by (repeat' (first|exact trivial|exact rfl|apply And.intro))⟩) (fun c => ⟨(),?_⟩)
    · rw [zCs,w64 (x := 10 * (j : Int)) (by omega),w64 (by omega)]
    · have mj := zCz (a := yB x) (b := 10 + (j : Int)) (m := 10) (n := 20) (by omega) (by omega)
      rw [zDa,w1,w64 (x := 10 + (j : Int)) (by omega),w64 (by omega)]
    · have e : (kN x).toNat = j := by omega
      rw [e]; (repeat' (first|exact trivial|exact rfl|apply And.intro))
theorem kprod_ok : kprodC.ok Try.prog 6 := z0w (gokc lB gok0) z8h
open Go Cv Go.Proofs
structure Cmd where
  kind : Int
  id : Int
  inst : Int
  side : Int
  price : Int
  qty : Int
  least : Int
  time : Int
  label : List UInt8
  deriving DecidableEq
@[reducible] def Cmd.cells (c : Cmd) : List V := [zF c.kind,zF c.id,zF c.inst,zF c.side,zF c.price,zF c.qty,zF c.least,zF c.time,sV c.label]
@[reducible] def Cmd.raw (c : Cmd) : Prop := yN c.kind ∧ yN c.id ∧ yN c.inst ∧ yN c.side ∧ yN c.price ∧ yN c.qty ∧ yN c.least ∧ yN c.time
structure TmI where
  p : Prd
  c : Cmd
  i : Int
structure AbI where
  x : Prd
  l : List Cmd
def Top.pr (t : Top) (s : Nat) : Int := if s = 0 then t.p1 else t.p2
def Top.hs (t : Top) (s : Nat) : Bool := if s = 0 then t.has1 else t.has2
structure B2 where
  a : Bool
  b : Bool
open Go Cv Go.Proofs
open Go Cv Go.Proofs
open Go Cv Go.Proofs
structure ShI where
  a : Int
  b : Int
  c : Int
def add64C : Con := con1 ShI (fun i => [cG i.a,cG i.b,cG i.c]) (fun _ => []) (fun i => 0 ≤ i.a ∧ 0 ≤ i.b ∧ 0 ≤ i.c ∧ i.c ≤ 1) (fun i => .tup [cG ((i.a + i.b + i.c) % 18446744073709551616),cG ((i.a + i.b + i.c) / 18446744073709551616)]) (fun _ => [])
theorem zOs {P : Program} {f : FuncId} {fn : Func} (hf : P.funcs[f]? = some fn) (hname : (fn.name == "runtime.NumGoroutine") = false) (hb : fn.body.isNone = true) (hn : Extern.findNext fn = none) (he : Extern.find fn = some add64Entry) : add64C.ok P f := by
  intro i hc k L E w ys R hv
  obtain ⟨h1,h2,h3,h4⟩ : 0 ≤ i.a ∧ 0 ≤ i.b ∧ 0 ≤ i.c ∧ i.c ≤ 1 := hc
  simp only [add64C,con1,VRL,VR,DR] at hv
  obtain ⟨_,_,rfl,⟨rfl,_⟩,_,_,rfl,⟨rfl,_⟩,_,_,rfl,⟨rfl,_⟩,rfl⟩ := hv
  unfold Does
  rw [run_callFunc_extern hf hname hb hn he,run_add64 i.a i.b i.c h1 h2 h3 h4]
  simp only [Result.andThen]
  refine ⟨_,List.mem_singleton.2 rfl,(),trivial,E,Ev.le.refl _,?_,R⟩
  simp only [add64C,con1,VR,VRL,DR]
  exact ⟨_,rfl,_,_,rfl,⟨rfl,rfl⟩,_,_,rfl,⟨rfl,rfl⟩,rfl⟩
theorem zRb : add64C.ok Try.prog 99 := zOs Try.func99 (by kernel_rfl) (by kernel_rfl) (by kernel_rfl) (by kernel_rfl)
structure M2 where
  a : Int
  b : Int
def mul64C : Con := con1 M2 (fun i => [cG i.a,cG i.b]) (fun _ => []) (fun i => 0 ≤ i.a ∧ i.a ≤ 2000000000 ∧ 0 ≤ i.b ∧ i.b ≤ 2000000000) (fun i => .tup [cG 0,cG (i.a * i.b)]) (fun _ => [])
def div64C : Con := con1 M2 (fun i => [cG 0,cG i.a,cG i.b]) (fun _ => []) (fun i => 0 ≤ i.a ∧ i.a ≤ 4000000000000000000 ∧ 1 ≤ i.b ∧ i.b ≤ 2000000000) (fun i => .tup [cG (i.a / i.b),cG (i.a % i.b)]) (fun _ => [])
def ishareC : Con := con1 ShI (fun i => [zF i.a,zF i.b,zF i.c]) (fun _ => []) (fun i => 0 ≤ i.a ∧ i.a ≤ 2000000000 ∧ 0 ≤ i.b ∧ i.b ≤ 2000000000 ∧ 1 ≤ i.c ∧ i.c ≤ 2000000000) (fun i => .tup [zF (i.a * i.b / i.c),yG true]) (fun _ => [])
def isumC : Con := con1 (List Int) (fun l => [iV l]) (fun _ => []) (fun l => l.length ≤ 1000 ∧ ∀ x ∈ l,0 ≤ x ∧ x ≤ 1000000) (fun l => .tup [zF l.sum,yG true]) (fun _ => [])
def z3f (l : List Int) : List SAnn := [{ ι := Nat,slots := fun j => [(4,cG (l.take j).sum),(5,zF 0),(11,zF j)],rows := fun _ => [] }]
structure LqI where
  l : List Int
  q : Int
def yI (l : List Int) (q : Int) : Bool := decide (l.length ≤ 250) && decide (0 ≤ q) && l.all (fun n => decide (1 ≤ n) && decide (n ≤ 1000000)) && decide (q ≤ l.sum)
def rightC : Con := con1 LqI (fun i => [iV i.l,zF i.q]) (fun _ => []) (fun i => i.l.length ≤ 1000000 ∧ yN i.q) (fun i => yG (yI i.l i.q)) (fun _ => [])
def zWg (i : LqI) : List SAnn := [{ ι := Nat,slots := fun j => [(5,zF (i.l.take j).sum),(17,zF j)],rows := fun _ => [] }]
def xW : List Int → Int → List Int
  | [],_ => []
  | n :: l,q => min n q :: xW l (q - min n q)
def jD (l : List Int) (q : Int) : List Int := if yI l q = true then xW l q else []
def fifoC : Con := con1 LqI (fun i => [iV i.l,zF i.q]) (fun _ => []) (fun i => i.l.length ≤ 1000000 ∧ yN i.q) (fun _ => .own 0) (fun i => [.own 2 1 (iE (jD i.l i.q))])
def z3u (i : LqI) : List SAnn := [{ ι := Nat,slots := fun j => [(5,.own 0),(1,zF (i.q - ((xW i.l i.q).take j).sum)),(15,zF j)],rows := fun j => [.own 2 1 (iE ((xW i.l i.q).take j))] }]
open Go Cv Go.Proofs
def zCd (i : M2) : Prop :=
  (0 : Int) ≤ (32 : Int)∧(0 : Int) ≤ (32 : Int)∧(0 : Int) ≤ (32 : Int)∧(0 : Int) ≤ (32 : Int)∧(0 : Int) ≤ (32 : Int)∧∃ (o : Unit),0 = IntKind.u64.wrap (IntKind.u64.wrap (IntKind.u64.wrap (uI IntKind.u64 i.a 32 * uI IntKind.u64 i.b 32) + uI IntKind.u64 (IntKind.u64.wrap (IntKind.u64.wrap (uI IntKind.u64 i.a 32 * cE IntKind.u64 i.b 4294967295) + uI IntKind.u64 (IntKind.u64.wrap (cE IntKind.u64 i.a 4294967295 * cE IntKind.u64 i.b 4294967295)) 32)) 32) + uI IntKind.u64 (IntKind.u64.wrap (cE IntKind.u64 (IntKind.u64.wrap (IntKind.u64.wrap (uI IntKind.u64 i.a 32 * cE IntKind.u64 i.b 4294967295) + uI IntKind.u64 (IntKind.u64.wrap (cE IntKind.u64 i.a 4294967295 * cE IntKind.u64 i.b 4294967295)) 32)) 4294967295 + IntKind.u64.wrap (cE IntKind.u64 i.a 4294967295 * uI IntKind.u64 i.b 32))) 32)∧i.a * i.b = IntKind.u64.wrap (i.a * i.b)∧True
theorem z0m (i : M2) : zCd i = walk Try.prog ([]) 0 ([]) ([]) [] Try.f77 (Try.f77.body.getD .skip) (mul64C.pat i) (mul64C.pre i) (mul64C.alts i) := by kernel_rfl
theorem zZu (hG : GOk Try.prog ([])) (h : ∀ (i : M2),mul64C.cnd i → zCd i) : mul64C.ok Try.prog 77 := zE mixed ([]) hG 0 (fun (i : M2) => []) (fun (i : M2) => []) [] Try.func77 (by kernel_rfl) (by kernel_rfl) (by kernel_rfl) (fun _ => by kernel_rfl) (fun (i : M2) hc => Eq.mp (z0m i) (h i hc))
def zAy (i : M2) : Prop :=
  cnd (i.b == 0) False (cnd (decide (i.b ≤ 0)) False (IntKind.u64 = IntKind.u64∧i.b ≠ 0∧IntKind.u64 = IntKind.u64∧i.b ≠ 0∧∃ (o : Unit),i.a / i.b = IntKind.u64.wrap (i.a.tdiv i.b)∧i.a % i.b = i.a.tmod i.b∧True))
theorem z0q (i : M2) : zAy i = walk Try.prog ([]) 0 ([]) ([]) [] Try.f78 (Try.f78.body.getD .skip) (div64C.pat i) (div64C.pre i) (div64C.alts i) := by kernel_rfl
theorem zZd (hG : GOk Try.prog ([])) (h : ∀ (i : M2),div64C.cnd i → zAy i) : div64C.ok Try.prog 78 := zE mixed ([]) hG 0 (fun (i : M2) => []) (fun (i : M2) => []) [] Try.func78 (by kernel_rfl) (by kernel_rfl) (by kernel_rfl) (fun _ => by kernel_rfl) (fun (i : M2) hc => Eq.mp (z0q i) (h i hc))
def nS (i : ShI) : Prop :=
  cnd (decide (i.a < 0)) (∃ (o : Unit),i.a * i.b / i.c = 0∧true = false∧True) (cnd (decide (i.b < 0)) (∃ (o : Unit),i.a * i.b / i.c = 0∧true = false∧True) (cnd (decide (i.c < 1)) (∃ (o : Unit),i.a * i.b / i.c = 0∧true = false∧True) (∃ (i_1 : M2),i_1.a = IntKind.u64.wrap i.a∧i_1.b = IntKind.u64.wrap i.b∧(0 ≤ i_1.a∧i_1.a ≤ (2000000000 : Int)∧(0 : Int) ≤ i_1.b∧i_1.b ≤ 2000000000)∧∀ (o : Unit),True→cnd (decide (0 ≥ IntKind.u64.wrap i.c)) (∃ (o : Unit),i.a * i.b / i.c = 0∧true = false∧True) (∃ (i_2 : M2),(0 : Int) = (0 : Int)∧i_2.a = i_1.a * i_1.b∧i_2.b = IntKind.u64.wrap i.c∧(0 ≤ i_2.a∧i_2.a ≤ (4000000000000000000 : Int)∧(1 : Int) ≤ i_2.b∧i_2.b ≤ 2000000000)∧∀ (o : Unit),True→cnd (decide (i_2.a / i_2.b > 9223372036854775807)) (∃ (o : Unit),i.a * i.b / i.c = 0∧true = false∧True) (∃ (o : Unit),i.a * i.b / i.c = IntKind.i64.wrap (i_2.a / i_2.b)∧true = true∧True)))))
theorem zTo (i : ShI) : nS i = walk Try.prog ([(77,mul64C),(78,div64C)]) 0 ([]) ([]) [] Try.f59 (Try.f59.body.getD .skip) (ishareC.pat i) (ishareC.pre i) (ishareC.alts i) := by kernel_rfl
theorem zRy (hG : GOk Try.prog ([(77,mul64C),(78,div64C)])) (h : ∀ (i : ShI),ishareC.cnd i → nS i) : ishareC.ok Try.prog 59 := zE mixed ([(77,mul64C),(78,div64C)]) hG 0 (fun (i : ShI) => []) (fun (i : ShI) => []) [] Try.func59 (by kernel_rfl) (by kernel_rfl) (by kernel_rfl) (fun _ => by kernel_rfl) (fun (i : ShI) hc => Eq.mp (zTo i) (h i hc))
def zLe (l : List Int) : Prop :=
  ∃ (i0 : Nat),(List.take i0 l).sum = (0 : Int)∧(0 : Int) = 0∧(↑i0 : Int) = 0∧∃ (I : Nat→Prop),∃ (μ : Nat→Nat),I i0∧∀ (i : Nat),I i→cnd (decide ((↑i : Int) < (↑(iE l).length : Int))) ((0 ≤ (↑i : Int)∧(↑i : Int) < (↑(iE l).length : Int))∧∃ (n : Int),zG (iE l) (↑i : Int).toNat 0 1 = some [D.v (.int .i64 n)]∧∃ (i_1 : ShI),i_1.a = (List.take i l).sum∧i_1.b = IntKind.u64.wrap n∧i_1.c = 0∧(0 ≤ i_1.a∧0 ≤ i_1.b∧0 ≤ i_1.c∧i_1.c ≤ 1)∧∀ (o : Unit),True→(0 : Int) ≤ (63 : Int)∧∃ (i' : Nat),(List.take i' l).sum = (i_1.a + i_1.b + i_1.c) % (18446744073709551616 : Int)∧(0 : Int) = IntKind.i64.wrap (0 + IntKind.i64.wrap (uI IntKind.i64 n 63 + IntKind.i64.wrap ((i_1.a + i_1.b + i_1.c) / (18446744073709551616 : Int))))∧(↑i' : Int) = IntKind.i64.wrap ((↑i : Int) + 1)∧I i'∧μ i' < μ i∧True) ((0 : Int) ≤ (63 : Int)∧cnd (0 != uI IntKind.i64 (IntKind.i64.wrap (List.take i l).sum) 63) (∃ (o : Unit),l.sum = 0∧true = false∧True) (∃ (o : Unit),l.sum = IntKind.i64.wrap (List.take i l).sum∧true = true∧True))
theorem z5z (l : List Int) : zLe l = walk Try.prog ([(99,add64C)]) 0 ([]) (z3f l) [] Try.f92 (Try.f92.body.getD .skip) (isumC.pat l) (isumC.pre l) (isumC.alts l) := by kernel_rfl
theorem z8a (hG : GOk Try.prog ([(99,add64C)])) (h : ∀ (l : List Int),isumC.cnd l → zLe l) : isumC.ok Try.prog 92 := zE mixed ([(99,add64C)]) hG 0 (fun (l : List Int) => []) (fun (l : List Int) => z3f l) [] Try.func92 (by kernel_rfl) (by kernel_rfl) (by kernel_rfl) (fun _ => by kernel_rfl) (fun (l : List Int) hc => Eq.mp (z5z l) (h l hc))
def zBd (i : LqI) : Prop :=
  cnd (decide ((↑(iE i.l).length : Int) > 250)) (∃ (o : Unit),yI i.l i.q = false∧True) (cnd (decide (i.q < 0)) (∃ (o : Unit),yI i.l i.q = false∧True) (∃ (i0 : Nat),(List.take i0 i.l).sum = 0∧(↑i0 : Int) = 0∧∃ (I : Nat→Prop),∃ (μ : Nat→Nat),I i0∧∀ (i_1 : Nat),I i_1→cnd (decide ((↑i_1 : Int) < (↑(iE i.l).length : Int))) ((0 ≤ (↑i_1 : Int)∧(↑i_1 : Int) < (↑(iE i.l).length : Int))∧∃ (n : Int),zG (iE i.l) (↑i_1 : Int).toNat 0 1 = some [D.v (.int .i64 n)]∧cnd (decide (n < 1)) (∃ (o : Unit),yI i.l i.q = false∧True) (cnd (decide (n > 1000000)) (∃ (o : Unit),yI i.l i.q = false∧True) (∃ (i' : Nat),(List.take i' i.l).sum = IntKind.i64.wrap ((List.take i_1 i.l).sum + n)∧(↑i' : Int) = IntKind.i64.wrap ((↑i_1 : Int) + 1)∧I i'∧μ i' < μ i_1∧True))) (∃ (o : Unit),yI i.l i.q = decide (i.q ≤ (List.take i_1 i.l).sum)∧True)))
theorem z0b (i : LqI) : zBd i = walk Try.prog ([]) 0 ([]) (zWg i) [] Try.f57 (Try.f57.body.getD .skip) (rightC.pat i) (rightC.pre i) (rightC.alts i) := by kernel_rfl
theorem zZb (hG : GOk Try.prog ([])) (h : ∀ (i : LqI),rightC.cnd i → zBd i) : rightC.ok Try.prog 57 := zE mixed ([]) hG 0 (fun (i : LqI) => []) (fun (i : LqI) => zWg i) [] Try.func57 (by kernel_rfl) (by kernel_rfl) (by kernel_rfl) (fun _ => by kernel_rfl) (fun (i : LqI) hc => Eq.mp (z0b i) (h i hc))
def zNi (i : LqI) : Prop :=
  ∃ (i_1 : LqI),iE i_1.l = iE i.l∧i_1.q = i.q∧(i_1.l.length ≤ (1000000 : Nat)∧(-9223372036854775808 : Int) ≤ i_1.q∧i_1.q ≤ 9223372036854775807)∧∀ (o : Unit),True→cnd (!yI i_1.l i_1.q) (∃ (o : Unit),iE (jD i.l i.q) = []∧True) (∃ (i0 : Nat),i.q - (List.take i0 (xW i.l i.q)).sum = i.q∧(↑i0 : Int) = 0∧iE (List.take i0 (xW i.l i.q)) = []∧∃ (I : Nat→Prop),∃ (μ : Nat→Nat),I i0∧∀ (i_2 : Nat),I i_2→cnd (decide ((↑i_2 : Int) < (↑(iE i.l).length : Int))) ((0 ≤ (↑i_2 : Int)∧(↑i_2 : Int) < (↑(iE i.l).length : Int))∧∃ (n : Int),zG (iE i.l) (↑i_2 : Int).toNat 0 1 = some [D.v (.int .i64 n)]∧((iE (List.take i_2 (xW i.l i.q))).length + 1) * (8 : Nat) ≤ (70368744177664 : Nat)∧∃ (i' : Nat),i.q - (List.take i' (xW i.l i.q)).sum = IntKind.i64.wrap (i.q - (List.take i_2 (xW i.l i.q)).sum - min n (i.q - (List.take i_2 (xW i.l i.q)).sum))∧(↑i' : Int) = IntKind.i64.wrap ((↑i_2 : Int) + 1)∧iE (List.take i' (xW i.l i.q)) = iE (List.take i_2 (xW i.l i.q)) ++ [[D.v (.int .i64 (min n (i.q - (List.take i_2 (xW i.l i.q)).sum)))]]∧I i'∧μ i' < μ i_2∧True) (∃ (o : Unit),iE (jD i.l i.q) = iE (List.take i_2 (xW i.l i.q))∧True))
theorem z7m (i : LqI) : zNi i = walk Try.prog ([(57,rightC)]) 0 ([]) (z3u i) [] Try.f32 (Try.f32.body.getD .skip) (fifoC.pat i) (fifoC.pre i) (fifoC.alts i) := by kernel_rfl
theorem z7j (hG : GOk Try.prog ([(57,rightC)])) (h : ∀ (i : LqI),fifoC.cnd i → zNi i) : fifoC.ok Try.prog 32 := zE mixed ([(57,rightC)]) hG 0 (fun (i : LqI) => []) (fun (i : LqI) => z3u i) [] Try.func32 (by kernel_rfl) (by kernel_rfl) (by kernel_rfl) (fun _ => by kernel_rfl) (fun (i : LqI) hc => Eq.mp (z7m i) (h i hc))
open Go Cv Go.Proofs
theorem zCi {x : Int} (h0 : 0 ≤ x) (h1 : x < 4294967296) : cE .u64 x 4294967295 = x := by
  have e : cE .u64 x 4294967295 = IntKind.u64.wrap ((BitVec.ofInt 64 x &&& BitVec.ofInt 64 4294967295).toNat : Int) := rfl
  obtain ⟨n,rfl⟩ := Int.eq_ofNat_of_zero_le h0
  have hn : n < 4294967296 := by omega
  rw [e,BitVec.toNat_and,BitVec.ofInt_natCast,BitVec.toNat_ofNat,show (BitVec.ofInt 64 4294967295).toNat = 2 ^ 32 - 1 by decide,Nat.and_two_pow_sub_one_eq_mod]
  rw [show n % 2 ^ 64 % 2 ^ 32 = n by omega,eC (by omega)]
theorem pM {x : Int} (h0 : 0 ≤ x) (h1 : x < 4294967296) : uI .u64 x 32 = 0 := by
  have := pD .u64 x 32 (by decide)
  rw [show ((32 : Nat) : Int) = 32 by rfl] at this
  rw [this]; omega
theorem zLx {a b m n : Int} (ha : 0 ≤ a ∧ a ≤ m) (hb : 0 ≤ b ∧ b ≤ n) : 0 ≤ a * b ∧ a * b ≤ m * n :=
  ⟨Int.mul_nonneg ha.1 hb.1,Int.mul_le_mul ha.2 hb.2 hb.1 (by omega)⟩
theorem z5y (i : M2) (h : mul64C.cnd i) : zCd i := by
  obtain ⟨h1,h2,h3,h4⟩ : 0 ≤ i.a ∧ i.a ≤ 2000000000 ∧ 0 ≤ i.b ∧ i.b ≤ 2000000000 := h
  have hm := zLx ⟨h1,h2⟩ ⟨h3,h4⟩
  have hs : uI IntKind.u64 (i.a * i.b) 32 = (i.a * i.b) / 4294967296 := by
    have := pD .u64 (i.a * i.b) 32 (by decide)
    rw [show ((32 : Nat) : Int) = 32 by rfl] at this
    exact this
  unfold zCd
  refine ⟨by decide,by decide,by decide,by decide,by decide,(),?_,?_,trivial⟩
  · rw [zCi h1 (by omega),zCi h3 (by omega),pM h1 (by omega),pM h3 (by omega),eC (x := i.a * i.b) (by omega),hs]
    simp only [Int.zero_mul,Int.mul_zero,Int.zero_add,Int.add_zero]
    rw [eC (x := 0) (by omega)]
    simp only [Int.zero_add,Int.add_zero]
    rw [eC (x := i.a * i.b / 4294967296) (by omega),pM (x := i.a * i.b / 4294967296) (by omega) (by omega),zCi (x := i.a * i.b / 4294967296) (by omega) (by omega),eC (x := i.a * i.b / 4294967296) (by omega),pM (x := i.a * i.b / 4294967296) (by omega) (by omega)]
    rfl
  · rw [eC (by omega)]
theorem zRv : mul64C.ok Try.prog 77 := zZu gok0 z5y
theorem z4x (i : M2) (h : div64C.cnd i) : zAy i := by
  obtain ⟨h1,h2,h3,h4⟩ : 0 ≤ i.a ∧ i.a ≤ 4000000000000000000 ∧ 1 ≤ i.b ∧ i.b ≤ 2000000000 := h
  unfold zAy
  have hd : 0 ≤ i.a / i.b ∧ i.a / i.b ≤ i.a := ⟨Int.ediv_nonneg h1 (by omega),Int.ediv_le_self _ h1⟩
  refine Cv.cnd.mk (fun c => absurd (eq_of_beq c) (by omega)) (fun _ => zT (fun c => by omega) (fun _ => ⟨rfl,by omega,rfl,by omega,(),?_,?_,trivial⟩))
  · rw [Int.tdiv_eq_ediv_of_nonneg h1,eC (by omega)]
  · rw [Int.tmod_eq_emod_of_nonneg h1]
theorem zSo : div64C.ok Try.prog 78 := zZd gok0 z4x
theorem zYd (i : ShI) (h : ishareC.cnd i) : nS i := by
  obtain ⟨h1,h2,h3,h4,h5,h6⟩ : 0 ≤ i.a ∧ i.a ≤ 2000000000 ∧ 0 ≤ i.b ∧ i.b ≤ 2000000000 ∧ 1 ≤ i.c ∧ i.c ≤ 2000000000 := h
  have hm := zLx ⟨h1,h2⟩ ⟨h3,h4⟩
  have hd : 0 ≤ i.a * i.b / i.c ∧ i.a * i.b / i.c ≤ i.a * i.b := ⟨Int.ediv_nonneg hm.1 (by omega),Int.ediv_le_self _ hm.1⟩
  unfold nS
  rw [eC (x := i.a) (by omega),eC (x := i.b) (by omega),eC (x := i.c) (by omega)]
  refine zT (fun c => by omega) (fun _ => zT (fun c => by omega) (fun _ => zT (fun c => by omega) (fun _ => ⟨⟨i.a,i.b⟩,rfl,rfl,⟨h1,h2,h3,h4⟩,fun _ _ => zT (fun c => by omega) (fun _ => ⟨⟨i.a * i.b,i.c⟩,rfl,rfl,rfl,⟨hm.1,by dsimp only;omega,h5,h6⟩,fun _ _ => zT (fun c => by dsimp only at c; omega) (fun _ => ⟨(),?_,rfl,trivial⟩)⟩)⟩)))
  rw [w64 (by dsimp only;omega)]
theorem eX : ishareC.ok Try.prog 59 := zRy (gokc zRv (gokc zSo gok0)) zYd
theorem wjn {j : Nat} (h : j ≤ 1000000) : ((j + 1 : Nat) : Int) = IntKind.i64.wrap ((j : Int) + 1) := by rw [w64 (by omega)]; rfl
theorem qK {l : List Int} {j : Nat} {x : Int} (h : l[j]? = some x) : (l.take (j + 1)).sum = (l.take j).sum + x := by
  rw [List.take_add_one,h]; simp
theorem qF {l : List Int} (h : ∀ x ∈ l,0 ≤ x ∧ x ≤ 1000000) : ∀ j : Nat,0 ≤ (l.take j).sum ∧ (l.take j).sum ≤ 1000000 * j
  | 0 => by simp
  | j + 1 => by
    have ih := qF h j
    cases hx : l[j]? with
    | none =>
      have : l.take (j + 1) = l.take j := by
        rw [List.take_add_one,hx]; simp
      rw [this]; omega
    | some x =>
      have := h x (List.mem_of_getElem? hx)
      rw [qK hx]; omega
theorem z8y (l : List Int) (h : isumC.cnd l) : zLe l := by
  obtain ⟨hl,hb⟩ : l.length ≤ 1000 ∧ ∀ x ∈ l,0 ≤ x ∧ x ≤ 1000000 := h
  unfold zLe
  simp only [yU]
  refine ⟨0,by (first|exact rfl|exact trivial),by (first|exact rfl|exact trivial),by (first|exact rfl|exact trivial),fun j => j ≤ l.length,fun j => l.length - j,Nat.zero_le _,fun j hj => zT (fun c => ?_) (fun c => ?_)⟩
  · have hj' : j < l.length := by omega
    obtain ⟨x,hx⟩ := z9 (l := l) (i := j) hj'
    have bx := hb x (List.mem_of_getElem? hx)
    have bs := qF hb j
    refine ⟨⟨by omega,by omega⟩,x,elI hx,⟨(l.take j).sum,x,0⟩,rfl,by rw [eC (by omega)],rfl,⟨bs.1,bx.1,by dsimp only;omega,by dsimp only;omega⟩,fun _ _ => ⟨by decide,j + 1,?_,?_,wjn (by omega),hj',by dsimp only;omega,trivial⟩⟩
    · rw [qK hx]; dsimp only; omega
    · have e : uI IntKind.i64 x 63 = x / 9223372036854775808 := by
        have := pD .i64 x 63 (by decide)
        rw [show ((63 : Nat) : Int) = 63 by rfl] at this
        exact this
      dsimp only
      rw [e,show x / 9223372036854775808 = 0 by omega,show ((l.take j).sum + x + 0) / 18446744073709551616 = 0 by omega]
      rfl
  · have hj' : j = l.length := by omega
    subst hj'
    have bs := qF hb l.length
    rw [List.take_length] at bs
    have e : uI IntKind.i64 l.sum 63 = l.sum / 9223372036854775808 := by
      have := pD .i64 l.sum 63 (by decide)
      rw [show ((63 : Nat) : Int) = 63 by rfl] at this
      exact this
    rw [List.take_length,w64 (x := l.sum) (by omega),e,show l.sum / 9223372036854775808 = 0 by omega]
    exact ⟨by decide,Cv.cnd.mk (fun c => absurd c (by decide)) (fun _ => ⟨(),by (first|exact rfl|exact trivial),by (first|exact rfl|exact trivial),trivial⟩)⟩
theorem zZm : isumC.ok Try.prog 92 := z8a (gokc zRb gok0) z8y
theorem z6r (i : LqI) (h : rightC.cnd i) : zBd i := by
  obtain ⟨hl,hq⟩ : i.l.length ≤ 1000000 ∧ yN i.q := h
  unfold zBd
  simp only [yU]
  refine zT (fun c => ⟨(),?_,trivial⟩) (fun c1 => zT (fun c => ⟨(),?_,trivial⟩) (fun c2 => ?_))
  · rw [yI,decide_eq_false (by omega : ¬ i.l.length ≤ 250)]; rfl
  · rw [yI,decide_eq_false (by omega : ¬ 0 ≤ i.q)]; simp
  refine ⟨0,by (first|exact rfl|exact trivial),by (first|exact rfl|exact trivial),fun j => j ≤ i.l.length ∧ ∀ k < j,∀ x,i.l[k]? = some x → 1 ≤ x ∧ x ≤ 1000000,fun j => i.l.length - j,⟨Nat.zero_le _,fun k hk => absurd hk (Nat.not_lt_zero k)⟩,fun j hj => zT (fun c => ?_) (fun c => ?_)⟩
  · obtain ⟨hj0,hjb⟩ := hj
    have hj' : j < i.l.length := by omega
    obtain ⟨x,hx⟩ := z9 (l := i.l) (i := j) hj'
    have bad (hn : ¬ (1 ≤ x ∧ x ≤ 1000000)) : yI i.l i.q = false := by
      have : (i.l.all fun n => decide (1 ≤ n) && decide (n ≤ 1000000)) = false := by
        rw [List.all_eq_false]
        exact ⟨x,List.mem_of_getElem? hx,by simpa using hn⟩
      rw [yI,this]; simp
    have bs : 0 ≤ (i.l.take j).sum ∧ (i.l.take j).sum ≤ 1000000 * j := by
      have := qF (l := i.l.take j) (fun y hy => by
        obtain ⟨k,hk⟩ := List.mem_iff_getElem?.1 hy
        have hkj : k < j := by
          have := (List.getElem?_eq_some_iff.1 hk).1
          rw [List.length_take] at this; omega
        rw [List.getElem?_take_of_lt hkj] at hk
        have := hjb k hkj y hk; omega) j
      rwa [List.take_take,Nat.min_self] at this
    refine ⟨⟨by omega,by omega⟩,x,elI hx,zT (fun d => ⟨(),bad (by omega),trivial⟩) (fun d => zT (fun e => ⟨(),bad (by omega),trivial⟩) (fun e => ⟨j + 1,?_,wjn (by omega),⟨hj',fun k hk y hy => ?_⟩,by dsimp only;omega,trivial⟩))⟩
    · rw [qK hx,w64 (by omega)]
    · by_cases hkj : k = j
      · rw [hkj,hx] at hy; cases hy; omega
      · exact hjb k (by omega) y hy
  · obtain ⟨hj0,hjb⟩ := hj
    have hj' : j = i.l.length := by omega
    subst hj'
    have : (i.l.all fun n => decide (1 ≤ n) && decide (n ≤ 1000000)) = true := by
      rw [List.all_eq_true]
      intro y hy
      obtain ⟨k,hk⟩ := List.mem_iff_getElem?.1 hy
      have := hjb k ((List.getElem?_eq_some_iff.1 hk).1) y hk
      simpa using this
    refine ⟨(),?_,trivial⟩
    rw [yI,this,decide_eq_true (by omega : i.l.length ≤ 250),decide_eq_true (by omega : 0 ≤ i.q),List.take_length]
    rfl
theorem aJ : rightC.ok Try.prog 57 := zZb gok0 z6r
theorem qB {l : List Int} {q : Int} (h : yI l q = true) : l.length ≤ 250 ∧ 0 ≤ q ∧ (∀ x ∈ l,1 ≤ x ∧ x ≤ 1000000) ∧ q ≤ l.sum := by
  simp only [yI,Bool.and_eq_true,decide_eq_true_eq,List.all_eq_true] at h
  exact ⟨h.1.1.1,h.1.1.2,h.1.2,h.2⟩
theorem pQ {l : List Int} {q : Int} (h : yI l q = true) : q ≤ 250000000 := by
  obtain ⟨h1,h2,h3,h4⟩ := qB h
  have := qF (l := l) (fun x hx => by have := h3 x hx; omega) l.length
  rw [List.take_length] at this
  omega
theorem gX : ∀ (l : List Int) (q : Int),(xW l q).length = l.length
  | [],_ => rfl
  | n :: l,q => by rw [xW,List.length_cons,List.length_cons,gX l]
theorem sZ : ∀ (l : List Int) (q : Int) (j : Nat) (n : Int),l[j]? = some n → (xW l q)[j]? = some (min n (q - ((xW l q).take j).sum))
  | [],_,_,_,h => by simp at h
  | m :: l,q,0,n,h => by simp at h; subst h; simp [xW]
  | m :: l,q,j + 1,n,h => by
    rw [List.getElem?_cons_succ] at h
    rw [xW,List.getElem?_cons_succ,sZ l _ j n h,List.take_succ_cons,List.sum_cons]
    congr 2; omega
theorem mS : ∀ (l : List Int) (q : Int) (j : Nat),0 ≤ q → (∀ x ∈ l,0 ≤ x) → 0 ≤ q - ((xW l q).take j).sum ∧ q - ((xW l q).take j).sum ≤ q
  | [],q,j,h,_ => by simp [xW,h]
  | m :: l,q,0,h,_ => by simp [h]
  | m :: l,q,j + 1,h,hb => by
    have hm := hb m List.mem_cons_self
    have := mS l (q - min m q) j (by omega) (fun x hx => hb x (List.mem_cons_of_mem _ hx))
    rw [xW,List.take_succ_cons,List.sum_cons]
    omega
theorem z9y (i : LqI) (h : fifoC.cnd i) : zNi i := by
  obtain ⟨hl,hq⟩ : i.l.length ≤ 1000000 ∧ yN i.q := h
  unfold zNi
  refine ⟨i,rfl,rfl,⟨hl,hq⟩,fun _ _ => Cv.cnd.mk (fun c => ?_) (fun c => ?_)⟩
  · have c : yI i.l i.q = false := by simpa using c
    refine ⟨(),?_,trivial⟩
    rw [jD,if_neg (by rw [c]; decide)]; rfl
  have c : yI i.l i.q = true := by simpa using c
  obtain ⟨h1,h2,h3,h4⟩ := qB c
  have hq2 := pQ c
  have h3' : ∀ x ∈ i.l,0 ≤ x := fun x hx => by have := h3 x hx; omega
  simp only [yU]
  refine ⟨0,by simp,rfl,rfl,fun j => j ≤ i.l.length,fun j => i.l.length - j,Nat.zero_le _,fun j hj => zT (fun d => ?_) (fun d => ?_)⟩
  · have hj' : j < i.l.length := by omega
    obtain ⟨x,hx⟩ := z9 (l := i.l) (i := j) hj'
    have bx := h3 x (List.mem_of_getElem? hx)
    have g := sZ i.l i.q j x hx
    have r := mS i.l i.q j h2 h3'
    refine ⟨⟨by omega,by omega⟩,x,elI hx,by rw [List.length_take]; omega,j + 1,?_,wjn (by omega),?_,hj',by dsimp only;omega,trivial⟩
    · rw [qK g,w64 (by omega)]; omega
    · rw [List.take_add_one,g]; simp [iE]
  · have hj' : j = i.l.length := by omega
    subst hj'
    refine ⟨(),?_,trivial⟩
    rw [jD,if_pos c,List.take_of_length_le (by rw [gX]; omega)]
theorem zNz : fifoC.ok Try.prog 32 := z7j (gokc aJ gok0) z9y
open Go Cv Go.Proofs
structure Ent where
  slot : Int
  id : Int
  qty : Int
  top : Bool
  deriving DecidableEq
def z9v : Ent := ⟨0,0,0,false⟩
def wQ (e : Ent) : List D := [.v (.int .i64 e.slot),.v (.int .i64 e.id),.v (.int .i64 e.qty),.v (.bool e.top)]
@[reducible] def yBf (e : Ent) : V := .agg [zF e.slot,zF e.id,zF e.qty,yG e.top]
def Slot.ent (s : Slot) : Ent := ⟨s.n,s.id,s.qty,s.top⟩
def Arena.slotAt (a : Arena) (k : Nat) : Slot := a.slots.getD k slot0
def Arena.getF (a : Arena) (n : Int) : Ent × Bool := if a.usedAt n = true then ((a.slotAt n.toNat).ent,true) else (z9v,false)
def agetC : Con := con1 ArN (fun i => [.nm 0 0,zF i.n]) (fun i => [kG i.a]) (fun i => i.a.slots.length ≤ 1000000) (fun i => .tup [yBf (i.a.getF i.n).1,yG (i.a.getF i.n).2]) (fun i => [kG i.a])
def zGg (sl : List Slot) : Int → List Nat → Prop
  | at_,[] => at_ = -1
  | at_,k :: l => at_ = k ∧ k < sl.length ∧ zGg sl (sl.getD k slot0).back l
structure ArL where
  a : Arena
  n : Int
  l : List Nat
def gT (l : List Nat) (j : Nat) : Int := match l[j]? with
  | some k => k
  | none => -1
def Arena.ents (a : Arena) (l : List Nat) : List Ent := l.map fun k => (a.slotAt k).ent
structure Arena.listOk (a : Arena) (n : Int) (l : List Nat) : Prop where
  len : l.length ≤ 1000000
  ch : if 0 ≤ n ∧ n < a.queues.length then zGg a.slots (a.queues.getD n.toNat vH).first l else l = []
def alistC : Con := con1 ArL (fun i => [.nm 0 0,zF i.n]) (fun i => [kG i.a]) (fun i => i.a.listOk i.n i.l) (fun _ => .own 1) (fun i => [kG i.a,.own 140 4 ((i.a.ents i.l).map wQ)])
def zVz (i : ArL) : List SAnn := [{ ι := Nat,slots := fun j => [(5,.own 0),(6,zF (gT i.l j))],rows := fun j => [.own 140 4 ((i.a.ents (i.l.take j)).map wQ)] }]
structure TkI where
  a : Arena
  n : Int
  qty : Int
def Arena.dropF (a : Arena) (k : Nat) : Arena :=
  let s := a.slotAt k
  let q := a.queues.getD s.queue.toNat vH
  let sl1 := if s.ahead = -1 then a.slots else a.slots.modify s.ahead.toNat fun x => { x with back := s.back }
  let sl2 := if s.back = -1 then sl1 else sl1.modify s.back.toNat fun x => { x with ahead := s.ahead }
  ⟨sl2.set k slot0,a.queues.set s.queue.toNat ⟨if s.ahead = -1 then s.back else q.first,if s.back = -1 then s.ahead else q.last,q.total,IntKind.i64.wrap (q.count - 1)⟩,IntKind.i64.wrap (a.free + 1)⟩
def Arena.less (a : Arena) (k : Nat) (qty : Int) : Arena :=
  { a with slots := a.slots.modify k fun s => { s with qty := s.qty - qty },queues := a.queues.modify (a.slotAt k).queue.toNat fun q => { q with total := IntKind.i64.wrap (q.total - qty) } }
def Arena.takeF (a : Arena) (n qty : Int) : Arena × Int :=
  if a.usedAt n = false then (a,26) else if qty < 1 ∨ (a.slotAt n.toNat).qty < qty then (a,24)
  else if (a.slotAt n.toNat).qty = qty then ((a.less n.toNat qty).dropF n.toNat,0) else (a.less n.toNat qty,0)
def Arena.okAt (a : Arena) : Prop := a.slots.length ≤ 1000000 ∧ ∀ (k : Nat) (s : Slot),a.slots[k]? = some s → s.used = true → (0 ≤ s.queue ∧ s.queue < a.queues.length) ∧ s.qty ≤ 1000000 ∧ (s.ahead = -1 ∨ (0 ≤ s.ahead ∧ s.ahead < a.slots.length ∧ s.ahead ≠ k)) ∧ (s.back = -1 ∨ (0 ≤ s.back ∧ s.back < a.slots.length ∧ s.back ≠ k))
def atakeC : Con := con1 TkI (fun i => [.nm 0 0,zF i.n,zF i.qty]) (fun i => [kG i.a]) (fun i => i.a.okAt) (fun i => zF (i.a.takeF i.n i.qty).2) (fun i => [kG (i.a.takeF i.n i.qty).1])
open Go Cv Go.Proofs
@[reducible] def nU (i : ArN) : Prop := ∃ (o : Unit),(i.a.getF i.n).fst.slot = 0∧(i.a.getF i.n).fst.id = 0∧(i.a.getF i.n).fst.qty = 0∧(i.a.getF i.n).fst.top = false∧(i.a.getF i.n).snd = false∧i.a.free = i.a.free∧List.map zN i.a.slots = List.map zN i.a.slots∧List.map zJ i.a.queues = List.map zJ i.a.queues∧True
def zNq (i : ArN) : Prop :=
  cnd (decide (i.n < 0)) (nU i) (cnd (decide (i.n ≥ (↑(List.map zN i.a.slots).length : Int))) (nU i) ((0 ≤ i.n∧i.n < (↑(List.map zN i.a.slots).length : Int))∧∃ (b : Bool),zG (List.map zN i.a.slots) i.n.toNat ((0 : Nat) + (0 : Nat)) 1 = some [D.v (.bool b)]∧cnd (!b) (nU i) ((0 ≤ i.n∧i.n < (↑(List.map zN i.a.slots).length : Int))∧∃ (n : Int),∃ (n_1 : Int),∃ (n_2 : Int),∃ (b : Bool),zG (List.map zN i.a.slots) i.n.toNat ((0 : Nat) + (1 : Nat)) 4 = some [D.v (.int .i64 n),D.v (.int .i64 n_1),D.v (.int .i64 n_2),D.v (.bool b)]∧∃ (o : Unit),(i.a.getF i.n).fst.slot = n∧(i.a.getF i.n).fst.id = n_1∧(i.a.getF i.n).fst.qty = n_2∧(i.a.getF i.n).fst.top = b∧(i.a.getF i.n).snd = true∧i.a.free = i.a.free∧List.map zN i.a.slots = List.map zN i.a.slots∧List.map zJ i.a.queues = List.map zJ i.a.queues∧True)))
theorem z7c (i : ArN) : zNq i = walk Try.prog ([]) 1 ([]) ([]) [0] Try.f90 (Try.f90.body.getD .skip) (agetC.pat i) (agetC.pre i) (agetC.alts i) := by kernel_rfl
theorem z4e (hG : GOk Try.prog ([])) (h : ∀ (i : ArN),agetC.cnd i → zNq i) : agetC.ok Try.prog 90 := zE mixed ([]) hG 1 (fun (i : ArN) => []) (fun (i : ArN) => []) [0] Try.func90 (by kernel_rfl) (by kernel_rfl) (by kernel_rfl) (fun _ => by kernel_rfl) (fun (i : ArN) hc => Eq.mp (z7c i) (h i hc))
def zCq (i : ArL) : Prop :=
  cnd (decide (i.n ≥ 0)) (cnd (!decide (i.n < (↑(List.map zJ i.a.queues).length : Int))) (∃ (o : Unit),i.a.free = i.a.free∧List.map zN i.a.slots = List.map zN i.a.slots∧List.map zJ i.a.queues = List.map zJ i.a.queues∧List.map wQ (i.a.ents i.l) = []∧True) ((0 ≤ i.n∧i.n < (↑(List.map zJ i.a.queues).length : Int))∧∃ (n : Int),zG (List.map zJ i.a.queues) i.n.toNat ((0 : Nat) + (0 : Nat)) 1 = some [D.v (.int .i64 n)]∧∃ (i0 : Nat),gT i.l i0 = n∧List.map wQ (i.a.ents (List.take i0 i.l)) = []∧∃ (I : Nat→Prop),∃ (μ : Nat→Nat),I i0∧∀ (i_1 : Nat),I i_1→cnd (gT i.l i_1 != (-1)) ((0 ≤ gT i.l i_1∧gT i.l i_1 < (↑(List.map zN i.a.slots).length : Int))∧∃ (n : Int),∃ (n_1 : Int),∃ (n_2 : Int),∃ (b : Bool),zG (List.map zN i.a.slots) (gT i.l i_1).toNat ((0 : Nat) + (1 : Nat)) 4 = some [D.v (.int .i64 n),D.v (.int .i64 n_1),D.v (.int .i64 n_2),D.v (.bool b)]∧((List.map wQ (i.a.ents (List.take i_1 i.l))).length + 1) * (32 : Nat) ≤ (70368744177664 : Nat)∧(0 ≤ gT i.l i_1∧gT i.l i_1 < (↑(List.map zN i.a.slots).length : Int))∧∃ (n_3 : Int),zG (List.map zN i.a.slots) (gT i.l i_1).toNat ((0 : Nat) + (7 : Nat)) 1 = some [D.v (.int .i64 n_3)]∧∃ (i' : Nat),gT i.l i' = n_3∧List.map wQ (i.a.ents (List.take i' i.l)) = List.map wQ (i.a.ents (List.take i_1 i.l)) ++ [[D.v (.int .i64 n),D.v (.int .i64 n_1),D.v (.int .i64 n_2),D.v (.bool b)]]∧I i'∧μ i' < μ i_1∧Sx.AObj.cells (wP (kL 0 1 3) [V.own 1,V.own 2,zF i.a.free]) (136 : TypeId) = Sx.AObj.cells (wP (kL 0 1 3) [V.own 1,V.own 2,zF i.a.free]) (136 : TypeId)∧AObj.own 142 8 (List.map zN i.a.slots) = AObj.own 142 8 (List.map zN i.a.slots)∧AObj.own 146 4 (List.map zJ i.a.queues) = AObj.own 146 4 (List.map zJ i.a.queues)) (∃ (o : Unit),i.a.free = i.a.free∧List.map zN i.a.slots = List.map zN i.a.slots∧List.map zJ i.a.queues = List.map zJ i.a.queues∧List.map wQ (i.a.ents i.l) = List.map wQ (i.a.ents (List.take i_1 i.l))∧True))) (∃ (o : Unit),i.a.free = i.a.free∧List.map zN i.a.slots = List.map zN i.a.slots∧List.map zJ i.a.queues = List.map zJ i.a.queues∧List.map wQ (i.a.ents i.l) = []∧True)
theorem z1k (i : ArL) : zCq i = walk Try.prog ([]) 1 ([]) (zVz i) [0] Try.f75 (Try.f75.body.getD .skip) (alistC.pat i) (alistC.pre i) (alistC.alts i) := by kernel_rfl
theorem z1p (hG : GOk Try.prog ([])) (h : ∀ (i : ArL),alistC.cnd i → zCq i) : alistC.ok Try.prog 75 := zE mixed ([]) hG 1 (fun (i : ArL) => []) (fun (i : ArL) => zVz i) [0] Try.func75 (by kernel_rfl) (by kernel_rfl) (by kernel_rfl) (fun _ => by kernel_rfl) (fun (i : ArL) hc => Eq.mp (z1k i) (h i hc))
@[reducible] def cY (i : TkI) : Prop := ∃ (o : Unit),(i.a.takeF i.n i.qty).snd = 26∧(i.a.takeF i.n i.qty).fst.free = i.a.free∧List.map zN (i.a.takeF i.n i.qty).fst.slots = List.map zN i.a.slots∧List.map zJ (i.a.takeF i.n i.qty).fst.queues = List.map zJ i.a.queues∧True
def zBe (i : TkI) : Prop :=
  cnd (decide (i.n < 0)) (cY i) (cnd (decide (i.n ≥ (↑(List.map zN i.a.slots).length : Int))) (cY i) ((0 ≤ i.n∧i.n < (↑(List.map zN i.a.slots).length : Int))∧∃ (b : Bool),zG (List.map zN i.a.slots) i.n.toNat ((0 : Nat) + (0 : Nat)) 1 = some [D.v (.bool b)]∧cnd (!b) (cY i) ((0 ≤ i.n∧i.n < (↑(List.map zN i.a.slots).length : Int))∧cnd (decide (i.qty < 1)) (∃ (o : Unit),(i.a.takeF i.n i.qty).snd = 24∧(i.a.takeF i.n i.qty).fst.free = i.a.free∧List.map zN (i.a.takeF i.n i.qty).fst.slots = List.map zN i.a.slots∧List.map zJ (i.a.takeF i.n i.qty).fst.queues = List.map zJ i.a.queues∧True) (∃ (n : Int),zG (List.map zN i.a.slots) i.n.toNat ((0 : Nat) + (1 : Nat) + 2) 1 = some [D.v (.int .i64 n)]∧cnd (decide (i.qty > n)) (∃ (o : Unit),(i.a.takeF i.n i.qty).snd = 24∧(i.a.takeF i.n i.qty).fst.free = i.a.free∧List.map zN (i.a.takeF i.n i.qty).fst.slots = List.map zN i.a.slots∧List.map zJ (i.a.takeF i.n i.qty).fst.queues = List.map zJ i.a.queues∧True) (∃ (n : Int),zG (List.map zN i.a.slots) i.n.toNat ((0 : Nat) + (1 : Nat) + 2) 1 = some [D.v (.int .i64 n)]∧i.n.toNat < (List.map zN i.a.slots).length∧∃ (n_1 : Int),zG (zK (List.map zN i.a.slots) i.n.toNat ((0 : Nat) + (1 : Nat) + 2) [D.v (.int .i64 (IntKind.i64.wrap (n - i.qty)))]) i.n.toNat ((0 : Nat) + (5 : Nat)) 1 = some [D.v (.int .i64 n_1)]∧(0 ≤ n_1∧n_1 < (↑(List.map zJ i.a.queues).length : Int))∧∃ (n_2 : Int),zG (List.map zJ i.a.queues) n_1.toNat ((0 : Nat) + (2 : Nat)) 1 = some [D.v (.int .i64 n_2)]∧(0 ≤ n_1∧n_1 < (↑(List.map zJ i.a.queues).length : Int))∧n_1.toNat < (List.map zJ i.a.queues).length∧∃ (n_3 : Int),zG (zK (List.map zN i.a.slots) i.n.toNat ((0 : Nat) + (1 : Nat) + 2) [D.v (.int .i64 (IntKind.i64.wrap (n - i.qty)))]) i.n.toNat ((0 : Nat) + (1 : Nat) + 2) 1 = some [D.v (.int .i64 n_3)]∧cnd (n_3 == 0) (∃ (n_4 : Int),zG (zK (List.map zN i.a.slots) i.n.toNat ((0 : Nat) + (1 : Nat) + 2) [D.v (.int .i64 (IntKind.i64.wrap (n - i.qty)))]) i.n.toNat ((0 : Nat) + (5 : Nat)) 1 = some [D.v (.int .i64 n_4)]∧(0 ≤ n_4∧n_4 < (↑(zK (List.map zJ i.a.queues) n_1.toNat ((0 : Nat) + (2 : Nat)) [D.v (.int .i64 (IntKind.i64.wrap (n_2 - i.qty)))]).length : Int))∧∃ (n_5 : Int),zG (zK (List.map zN i.a.slots) i.n.toNat ((0 : Nat) + (1 : Nat) + 2) [D.v (.int .i64 (IntKind.i64.wrap (n - i.qty)))]) i.n.toNat ((0 : Nat) + (6 : Nat)) 1 = some [D.v (.int .i64 n_5)]∧cnd (n_5 == (-1)) (∃ (n_6 : Int),zG (zK (List.map zN i.a.slots) i.n.toNat ((0 : Nat) + (1 : Nat) + 2) [D.v (.int .i64 (IntKind.i64.wrap (n - i.qty)))]) i.n.toNat ((0 : Nat) + (7 : Nat)) 1 = some [D.v (.int .i64 n_6)]∧n_4.toNat < (zK (List.map zJ i.a.queues) n_1.toNat ((0 : Nat) + (2 : Nat)) [D.v (.int .i64 (IntKind.i64.wrap (n_2 - i.qty)))]).length∧∃ (n_7 : Int),zG (zK (List.map zN i.a.slots) i.n.toNat ((0 : Nat) + (1 : Nat) + 2) [D.v (.int .i64 (IntKind.i64.wrap (n - i.qty)))]) i.n.toNat ((0 : Nat) + (7 : Nat)) 1 = some [D.v (.int .i64 n_7)]∧cnd (n_7 == (-1)) (∃ (n_8 : Int),zG (zK (List.map zN i.a.slots) i.n.toNat ((0 : Nat) + (1 : Nat) + 2) [D.v (.int .i64 (IntKind.i64.wrap (n - i.qty)))]) i.n.toNat ((0 : Nat) + (6 : Nat)) 1 = some [D.v (.int .i64 n_8)]∧n_4.toNat < (zK (zK (List.map zJ i.a.queues) n_1.toNat ((0 : Nat) + (2 : Nat)) [D.v (.int .i64 (IntKind.i64.wrap (n_2 - i.qty)))]) n_4.toNat ((0 : Nat) + (0 : Nat)) [D.v (.int .i64 n_6)]).length∧∃ (n_9 : Int),zG (zK (zK (zK (List.map zJ i.a.queues) n_1.toNat ((0 : Nat) + (2 : Nat)) [D.v (.int .i64 (IntKind.i64.wrap (n_2 - i.qty)))]) n_4.toNat ((0 : Nat) + (0 : Nat)) [D.v (.int .i64 n_6)]) n_4.toNat ((0 : Nat) + (1 : Nat)) [D.v (.int .i64 n_8)]) n_4.toNat ((0 : Nat) + (3 : Nat)) 1 = some [D.v (.int .i64 n_9)]∧n_4.toNat < (zK (zK (zK (List.map zJ i.a.queues) n_1.toNat ((0 : Nat) + (2 : Nat)) [D.v (.int .i64 (IntKind.i64.wrap (n_2 - i.qty)))]) n_4.toNat ((0 : Nat) + (0 : Nat)) [D.v (.int .i64 n_6)]) n_4.toNat ((0 : Nat) + (1 : Nat)) [D.v (.int .i64 n_8)]).length∧i.n.toNat < (zK (List.map zN i.a.slots) i.n.toNat ((0 : Nat) + (1 : Nat) + 2) [D.v (.int .i64 (IntKind.i64.wrap (n - i.qty)))]).length∧∃ (o : Unit),(i.a.takeF i.n i.qty).snd = 0∧(i.a.takeF i.n i.qty).fst.free = IntKind.i64.wrap (i.a.free + 1)∧List.map zN (i.a.takeF i.n i.qty).fst.slots = zK (zK (List.map zN i.a.slots) i.n.toNat ((0 : Nat) + (1 : Nat) + 2) [D.v (.int .i64 (IntKind.i64.wrap (n - i.qty)))]) i.n.toNat 0 [D.v (.bool false),D.v (.int .i64 0),D.v (.int .i64 0),D.v (.int .i64 0),D.v (.bool false),D.v (.int .i64 0),D.v (.int .i64 0),D.v (.int .i64 0)]∧List.map zJ (i.a.takeF i.n i.qty).fst.queues = zK (zK (zK (zK (List.map zJ i.a.queues) n_1.toNat ((0 : Nat) + (2 : Nat)) [D.v (.int .i64 (IntKind.i64.wrap (n_2 - i.qty)))]) n_4.toNat ((0 : Nat) + (0 : Nat)) [D.v (.int .i64 n_6)]) n_4.toNat ((0 : Nat) + (1 : Nat)) [D.v (.int .i64 n_8)]) n_4.toNat ((0 : Nat) + (3 : Nat)) [D.v (.int .i64 (IntKind.i64.wrap (n_9 - 1)))]∧True) (∃ (n_8 : Int),zG (zK (List.map zN i.a.slots) i.n.toNat ((0 : Nat) + (1 : Nat) + 2) [D.v (.int .i64 (IntKind.i64.wrap (n - i.qty)))]) i.n.toNat ((0 : Nat) + (7 : Nat)) 1 = some [D.v (.int .i64 n_8)]∧∃ (n_9 : Int),zG (zK (List.map zN i.a.slots) i.n.toNat ((0 : Nat) + (1 : Nat) + 2) [D.v (.int .i64 (IntKind.i64.wrap (n - i.qty)))]) i.n.toNat ((0 : Nat) + (6 : Nat)) 1 = some [D.v (.int .i64 n_9)]∧(0 ≤ n_8∧n_8 < (↑(zK (List.map zN i.a.slots) i.n.toNat ((0 : Nat) + (1 : Nat) + 2) [D.v (.int .i64 (IntKind.i64.wrap (n - i.qty)))]).length : Int))∧n_8.toNat < (zK (List.map zN i.a.slots) i.n.toNat ((0 : Nat) + (1 : Nat) + 2) [D.v (.int .i64 (IntKind.i64.wrap (n - i.qty)))]).length∧∃ (n_10 : Int),zG (zK (zK (List.map zJ i.a.queues) n_1.toNat ((0 : Nat) + (2 : Nat)) [D.v (.int .i64 (IntKind.i64.wrap (n_2 - i.qty)))]) n_4.toNat ((0 : Nat) + (0 : Nat)) [D.v (.int .i64 n_6)]) n_4.toNat ((0 : Nat) + (3 : Nat)) 1 = some [D.v (.int .i64 n_10)]∧n_4.toNat < (zK (zK (List.map zJ i.a.queues) n_1.toNat ((0 : Nat) + (2 : Nat)) [D.v (.int .i64 (IntKind.i64.wrap (n_2 - i.qty)))]) n_4.toNat ((0 : Nat) + (0 : Nat)) [D.v (.int .i64 n_6)]).length∧i.n.toNat < (zK (zK (List.map zN i.a.slots) i.n.toNat ((0 : Nat) + (1 : Nat) + 2) [D.v (.int .i64 (IntKind.i64.wrap (n - i.qty)))]) n_8.toNat ((0 : Nat) + (6 : Nat)) [D.v (.int .i64 n_9)]).length∧∃ (o : Unit),(i.a.takeF i.n i.qty).snd = 0∧(i.a.takeF i.n i.qty).fst.free = IntKind.i64.wrap (i.a.free + 1)∧List.map zN (i.a.takeF i.n i.qty).fst.slots = zK (zK (zK (List.map zN i.a.slots) i.n.toNat ((0 : Nat) + (1 : Nat) + 2) [D.v (.int .i64 (IntKind.i64.wrap (n - i.qty)))]) n_8.toNat ((0 : Nat) + (6 : Nat)) [D.v (.int .i64 n_9)]) i.n.toNat 0 [D.v (.bool false),D.v (.int .i64 0),D.v (.int .i64 0),D.v (.int .i64 0),D.v (.bool false),D.v (.int .i64 0),D.v (.int .i64 0),D.v (.int .i64 0)]∧List.map zJ (i.a.takeF i.n i.qty).fst.queues = zK (zK (zK (List.map zJ i.a.queues) n_1.toNat ((0 : Nat) + (2 : Nat)) [D.v (.int .i64 (IntKind.i64.wrap (n_2 - i.qty)))]) n_4.toNat ((0 : Nat) + (0 : Nat)) [D.v (.int .i64 n_6)]) n_4.toNat ((0 : Nat) + (3 : Nat)) [D.v (.int .i64 (IntKind.i64.wrap (n_10 - 1)))]∧True)) (∃ (n_6 : Int),zG (zK (List.map zN i.a.slots) i.n.toNat ((0 : Nat) + (1 : Nat) + 2) [D.v (.int .i64 (IntKind.i64.wrap (n - i.qty)))]) i.n.toNat ((0 : Nat) + (6 : Nat)) 1 = some [D.v (.int .i64 n_6)]∧∃ (n_7 : Int),zG (zK (List.map zN i.a.slots) i.n.toNat ((0 : Nat) + (1 : Nat) + 2) [D.v (.int .i64 (IntKind.i64.wrap (n - i.qty)))]) i.n.toNat ((0 : Nat) + (7 : Nat)) 1 = some [D.v (.int .i64 n_7)]∧(0 ≤ n_6∧n_6 < (↑(zK (List.map zN i.a.slots) i.n.toNat ((0 : Nat) + (1 : Nat) + 2) [D.v (.int .i64 (IntKind.i64.wrap (n - i.qty)))]).length : Int))∧n_6.toNat < (zK (List.map zN i.a.slots) i.n.toNat ((0 : Nat) + (1 : Nat) + 2) [D.v (.int .i64 (IntKind.i64.wrap (n - i.qty)))]).length∧∃ (n_8 : Int),zG (zK (zK (List.map zN i.a.slots) i.n.toNat ((0 : Nat) + (1 : Nat) + 2) [D.v (.int .i64 (IntKind.i64.wrap (n - i.qty)))]) n_6.toNat ((0 : Nat) + (7 : Nat)) [D.v (.int .i64 n_7)]) i.n.toNat ((0 : Nat) + (7 : Nat)) 1 = some [D.v (.int .i64 n_8)]∧cnd (n_8 == (-1)) (∃ (n_9 : Int),zG (zK (zK (List.map zN i.a.slots) i.n.toNat ((0 : Nat) + (1 : Nat) + 2) [D.v (.int .i64 (IntKind.i64.wrap (n - i.qty)))]) n_6.toNat ((0 : Nat) + (7 : Nat)) [D.v (.int .i64 n_7)]) i.n.toNat ((0 : Nat) + (6 : Nat)) 1 = some [D.v (.int .i64 n_9)]∧n_4.toNat < (zK (List.map zJ i.a.queues) n_1.toNat ((0 : Nat) + (2 : Nat)) [D.v (.int .i64 (IntKind.i64.wrap (n_2 - i.qty)))]).length∧∃ (n_10 : Int),zG (zK (zK (List.map zJ i.a.queues) n_1.toNat ((0 : Nat) + (2 : Nat)) [D.v (.int .i64 (IntKind.i64.wrap (n_2 - i.qty)))]) n_4.toNat ((0 : Nat) + (1 : Nat)) [D.v (.int .i64 n_9)]) n_4.toNat ((0 : Nat) + (3 : Nat)) 1 = some [D.v (.int .i64 n_10)]∧n_4.toNat < (zK (zK (List.map zJ i.a.queues) n_1.toNat ((0 : Nat) + (2 : Nat)) [D.v (.int .i64 (IntKind.i64.wrap (n_2 - i.qty)))]) n_4.toNat ((0 : Nat) + (1 : Nat)) [D.v (.int .i64 n_9)]).length∧i.n.toNat < (zK (zK (List.map zN i.a.slots) i.n.toNat ((0 : Nat) + (1 : Nat) + 2) [D.v (.int .i64 (IntKind.i64.wrap (n - i.qty)))]) n_6.toNat ((0 : Nat) + (7 : Nat)) [D.v (.int .i64 n_7)]).length∧∃ (o : Unit),(i.a.takeF i.n i.qty).snd = 0∧(i.a.takeF i.n i.qty).fst.free = IntKind.i64.wrap (i.a.free + 1)∧List.map zN (i.a.takeF i.n i.qty).fst.slots = zK (zK (zK (List.map zN i.a.slots) i.n.toNat ((0 : Nat) + (1 : Nat) + 2) [D.v (.int .i64 (IntKind.i64.wrap (n - i.qty)))]) n_6.toNat ((0 : Nat) + (7 : Nat)) [D.v (.int .i64 n_7)]) i.n.toNat 0 [D.v (.bool false),D.v (.int .i64 0),D.v (.int .i64 0),D.v (.int .i64 0),D.v (.bool false),D.v (.int .i64 0),D.v (.int .i64 0),D.v (.int .i64 0)]∧List.map zJ (i.a.takeF i.n i.qty).fst.queues = zK (zK (zK (List.map zJ i.a.queues) n_1.toNat ((0 : Nat) + (2 : Nat)) [D.v (.int .i64 (IntKind.i64.wrap (n_2 - i.qty)))]) n_4.toNat ((0 : Nat) + (1 : Nat)) [D.v (.int .i64 n_9)]) n_4.toNat ((0 : Nat) + (3 : Nat)) [D.v (.int .i64 (IntKind.i64.wrap (n_10 - 1)))]∧True) (∃ (n_9 : Int),zG (zK (zK (List.map zN i.a.slots) i.n.toNat ((0 : Nat) + (1 : Nat) + 2) [D.v (.int .i64 (IntKind.i64.wrap (n - i.qty)))]) n_6.toNat ((0 : Nat) + (7 : Nat)) [D.v (.int .i64 n_7)]) i.n.toNat ((0 : Nat) + (7 : Nat)) 1 = some [D.v (.int .i64 n_9)]∧∃ (n_10 : Int),zG (zK (zK (List.map zN i.a.slots) i.n.toNat ((0 : Nat) + (1 : Nat) + 2) [D.v (.int .i64 (IntKind.i64.wrap (n - i.qty)))]) n_6.toNat ((0 : Nat) + (7 : Nat)) [D.v (.int .i64 n_7)]) i.n.toNat ((0 : Nat) + (6 : Nat)) 1 = some [D.v (.int .i64 n_10)]∧(0 ≤ n_9∧n_9 < (↑(zK (zK (List.map zN i.a.slots) i.n.toNat ((0 : Nat) + (1 : Nat) + 2) [D.v (.int .i64 (IntKind.i64.wrap (n - i.qty)))]) n_6.toNat ((0 : Nat) + (7 : Nat)) [D.v (.int .i64 n_7)]).length : Int))∧n_9.toNat < (zK (zK (List.map zN i.a.slots) i.n.toNat ((0 : Nat) + (1 : Nat) + 2) [D.v (.int .i64 (IntKind.i64.wrap (n - i.qty)))]) n_6.toNat ((0 : Nat) + (7 : Nat)) [D.v (.int .i64 n_7)]).length∧∃ (n_11 : Int),zG (zK (List.map zJ i.a.queues) n_1.toNat ((0 : Nat) + (2 : Nat)) [D.v (.int .i64 (IntKind.i64.wrap (n_2 - i.qty)))]) n_4.toNat ((0 : Nat) + (3 : Nat)) 1 = some [D.v (.int .i64 n_11)]∧n_4.toNat < (zK (List.map zJ i.a.queues) n_1.toNat ((0 : Nat) + (2 : Nat)) [D.v (.int .i64 (IntKind.i64.wrap (n_2 - i.qty)))]).length∧i.n.toNat < (zK (zK (zK (List.map zN i.a.slots) i.n.toNat ((0 : Nat) + (1 : Nat) + 2) [D.v (.int .i64 (IntKind.i64.wrap (n - i.qty)))]) n_6.toNat ((0 : Nat) + (7 : Nat)) [D.v (.int .i64 n_7)]) n_9.toNat ((0 : Nat) + (6 : Nat)) [D.v (.int .i64 n_10)]).length∧∃ (o : Unit),(i.a.takeF i.n i.qty).snd = 0∧(i.a.takeF i.n i.qty).fst.free = IntKind.i64.wrap (i.a.free + 1)∧List.map zN (i.a.takeF i.n i.qty).fst.slots = zK (zK (zK (zK (List.map zN i.a.slots) i.n.toNat ((0 : Nat) + (1 : Nat) + 2) [D.v (.int .i64 (IntKind.i64.wrap (n - i.qty)))]) n_6.toNat ((0 : Nat) + (7 : Nat)) [D.v (.int .i64 n_7)]) n_9.toNat ((0 : Nat) + (6 : Nat)) [D.v (.int .i64 n_10)]) i.n.toNat 0 [D.v (.bool false),D.v (.int .i64 0),D.v (.int .i64 0),D.v (.int .i64 0),D.v (.bool false),D.v (.int .i64 0),D.v (.int .i64 0),D.v (.int .i64 0)]∧List.map zJ (i.a.takeF i.n i.qty).fst.queues = zK (zK (List.map zJ i.a.queues) n_1.toNat ((0 : Nat) + (2 : Nat)) [D.v (.int .i64 (IntKind.i64.wrap (n_2 - i.qty)))]) n_4.toNat ((0 : Nat) + (3 : Nat)) [D.v (.int .i64 (IntKind.i64.wrap (n_11 - 1)))]∧True))) (∃ (o : Unit),(i.a.takeF i.n i.qty).snd = 0∧(i.a.takeF i.n i.qty).fst.free = i.a.free∧List.map zN (i.a.takeF i.n i.qty).fst.slots = zK (List.map zN i.a.slots) i.n.toNat ((0 : Nat) + (1 : Nat) + 2) [D.v (.int .i64 (IntKind.i64.wrap (n - i.qty)))]∧List.map zJ (i.a.takeF i.n i.qty).fst.queues = zK (List.map zJ i.a.queues) n_1.toNat ((0 : Nat) + (2 : Nat)) [D.v (.int .i64 (IntKind.i64.wrap (n_2 - i.qty)))]∧True))))))
theorem z2c (i : TkI) : zBe i = walk Try.prog ([]) 1 ([]) ([]) [0] Try.f89 (Try.f89.body.getD .skip) (atakeC.pat i) (atakeC.pre i) (atakeC.alts i) := by kernel_rfl
theorem zXw (hG : GOk Try.prog ([])) (h : ∀ (i : TkI),atakeC.cnd i → zBe i) : atakeC.ok Try.prog 89 := zE mixed ([]) hG 1 (fun (i : TkI) => []) (fun (i : TkI) => []) [0] Try.func89 (by kernel_rfl) (by kernel_rfl) (by kernel_rfl) (fun _ => by kernel_rfl) (fun (i : TkI) hc => Eq.mp (z2c i) (h i hc))
open Go Cv Go.Proofs
theorem pG {a : Arena} {n : Int} (h : n < 0 ∨ (a.slots.length : Int) ≤ n) : a.usedAt n = false := by
  rcases h with h | h
  · rw [Arena.usedAt,decide_eq_false (by omega),Bool.false_and]
  · rw [Arena.usedAt,decide_eq_false (show ¬ n < (a.slots.length : Int) by omega),Bool.false_and,Bool.and_false]
theorem zNm {a : Arena} {n : Int} {s : Slot} (h0 : 0 ≤ n) (hs : a.slots[n.toNat]? = some s) : a.usedAt n = s.used := by
  have hl := (List.getElem?_eq_some_iff.1 hs).1
  rw [Arena.usedAt,decide_eq_true h0,decide_eq_true (show n < (a.slots.length : Int) by omega),zU hs]; simp
theorem yZ {a : Arena} {k : Nat} {s : Slot} (hs : a.slots[k]? = some s) : a.slotAt k = s := zU hs
theorem z9d (i : ArN) (h : agetC.cnd i) : zNq i := by
  have h : i.a.slots.length ≤ 1000000 := h
  unfold zNq nU
  simp only [List.length_map]
  have no (e : i.a.usedAt i.n = false) : i.a.getF i.n = (z9v,false) := by rw [Arena.getF,if_neg (by rw [e]; decide)]
  refine zT (fun c => ?_) (fun c => zT (fun d => ?_) (fun d => ?_))
  · rw [no (pG (.inl c))]; (repeat' (first|exact rfl|exact trivial|assumption|apply And.intro|refine fun (_:Unit) (_:True)=>?_|refine Exists.intro () ?_|omega|(dsimp only;omega)))
  · rw [no (pG (.inr (by omega)))]; (repeat' (first|exact rfl|exact trivial|assumption|apply And.intro|refine fun (_:Unit) (_:True)=>?_|refine Exists.intro () ?_|omega|(dsimp only;omega)))
  · obtain ⟨s,hs⟩ := z9 (l := i.a.slots) (i := i.n.toNat) (by omega)
    have eu := zNm (a := i.a) (n := i.n) (by omega) hs
    refine ⟨⟨by omega,by omega⟩,s.used,elA hs (by simp [zN]) rfl,Cv.cnd.mk (fun u => ?_) (fun u => ?_)⟩
    · rw [no (by rw [eu]; simpa using u)]; (repeat' (first|exact rfl|exact trivial|assumption|apply And.intro|refine fun (_:Unit) (_:True)=>?_|refine Exists.intro () ?_|omega|(dsimp only;omega)))
    · have e : i.a.usedAt i.n = true := by rw [eu]; simpa using u
      have et : i.a.getF i.n = (s.ent,true) := by rw [Arena.getF,if_pos e,yZ hs]
      rw [et]
      refine ⟨⟨by omega,by omega⟩,s.n,s.id,s.qty,s.top,elA hs (by simp [zN]) rfl,?_⟩
      (repeat' (first|exact rfl|exact trivial|assumption|apply And.intro|refine fun (_:Unit) (_:True)=>?_|refine Exists.intro () ?_|omega|(dsimp only;omega)))
theorem zMw : agetC.ok Try.prog 90 := z4e gok0 z9d
theorem lT : ∀ {sl : List Slot} {at_ : Int} {l : List Nat},zGg sl at_ l → gT l 0 = at_ ∧ ∀ j k,l[j]? = some k → k < sl.length ∧ gT l (j + 1) = (sl.getD k slot0).back
  | sl,at_,[],h => ⟨h.symm,fun j k hk => by simp at hk⟩
  | sl,at_,x :: l,h => by
    obtain ⟨h1,h2,h3⟩ := h
    have ih := lT h3
    refine ⟨h1.symm,fun j k hk => ?_⟩
    cases j with
    | zero =>
      simp at hk; subst hk
      exact ⟨h2,by rw [← ih.1]; rfl⟩
    | succ j =>
      rw [List.getElem?_cons_succ] at hk
      obtain ⟨a,b⟩ := ih.2 j k hk
      exact ⟨a,by rw [← b]; rfl⟩
theorem z5m (i : ArL) (h : alistC.cnd i) : zCq i := by
  obtain ⟨hl,h⟩ : i.l.length ≤ 1000000 ∧ (if 0 ≤ i.n ∧ i.n < i.a.queues.length then zGg i.a.slots (i.a.queues.getD i.n.toNat vH).first i.l else i.l = []) := ⟨h.len,h.ch⟩
  unfold zCq
  simp only [List.length_map]
  have out (e : ¬ (0 ≤ i.n ∧ i.n < (i.a.queues.length : Int))) : i.l = [] := by rw [if_neg e] at h; exact h
  refine zT (fun c => Cv.cnd.mk (fun d => ?_) (fun d => ?_)) (fun c => ?_)
  · have d : ¬ i.n < (i.a.queues.length : Int) := by simpa using d
    rw [out (by omega)]; (repeat' (first|exact rfl|exact trivial|assumption|apply And.intro|refine fun (_:Unit) (_:True)=>?_|refine Exists.intro () ?_|omega|(dsimp only;omega)))
  · have d : i.n < (i.a.queues.length : Int) := by simpa using d
    rw [if_pos ⟨by omega,d⟩] at h
    obtain ⟨q,hq⟩ := z9 (l := i.a.queues) (i := i.n.toNat) (by omega)
    rw [zU hq] at h
    obtain ⟨n0,nx⟩ := lT h
    refine ⟨⟨by omega,by omega⟩,q.first,elA hq (by simp [zJ]) rfl,0,n0,rfl,fun j => j ≤ i.l.length,fun j => i.l.length - j,Nat.zero_le _,fun j hj => Cv.cnd.mk (fun e => ?_) (fun e => ?_)⟩
    · have e : gT i.l j ≠ -1 := by simpa using e
      obtain ⟨k,hk⟩ : ∃ k,i.l[j]? = some k := by
        cases hk : i.l[j]? with
        | none => rw [gT,hk] at e; exact absurd rfl e
        | some k => exact ⟨k,rfl⟩
      have hjl := (List.getElem?_eq_some_iff.1 hk).1
      obtain ⟨hkl,hnx⟩ := nx j k hk
      have en : gT i.l j = k := by rw [gT,hk]
      obtain ⟨s,hs⟩ := z9 (l := i.a.slots) (i := k) hkl
      rw [en,Int.toNat_natCast]
      refine ⟨⟨by omega,by omega⟩,s.n,s.id,s.qty,s.top,elA hs (by simp [zN]) rfl,?_,⟨by omega,by omega⟩,s.back,elA hs (by simp [zN]) rfl,j + 1,by rw [hnx,zU hs],?_,hjl,by dsimp only;omega,by (repeat' (first|exact trivial|exact rfl|apply And.intro))⟩
      · simp only [Arena.ents,List.length_map,List.length_take]; omega
      · rw [List.take_add_one,hk]
        simp only [Arena.ents,Option.toList,List.map_append,List.map_cons,List.map_nil,yZ hs]
        rfl
    · have e : gT i.l j = -1 := by simpa using e
      have hj' : i.l.length ≤ j := by
        apply Classical.byContradiction
        intro hn
        obtain ⟨k,hk⟩ := z9 (l := i.l) (i := j) (by omega)
        rw [gT,hk] at e
        simp only at e; omega
      rw [List.take_of_length_le hj']
      (repeat' (first|exact rfl|exact trivial|assumption|apply And.intro|refine fun (_:Unit) (_:True)=>?_|refine Exists.intro () ?_|omega|(dsimp only;omega)))
  · rw [out (by omega)]; (repeat' (first|exact rfl|exact trivial|assumption|apply And.intro|refine fun (_:Unit) (_:True)=>?_|refine Exists.intro () ?_|omega|(dsimp only;omega)))
theorem zGn : alistC.ok Try.prog 75 := z1p gok0 z5m
theorem zKf {α : Type} {l : List α} {i k : Nat} {x y : α} (h : i ≠ k) (hk : l[k]? = some x) : (l.set i y)[k]? = some x := by
  rw [List.getElem?_set_ne h]; exact hk
theorem z4k (i : TkI) (h : atakeC.cnd i) : zBe i := by
  obtain ⟨hl,hok⟩ : i.a.okAt := h
  unfold zBe cY
  simp only [List.length_map]
  have no (e : i.a.usedAt i.n = false) : i.a.takeF i.n i.qty = (i.a,26) := by rw [Arena.takeF,if_pos e]
  refine zT (fun c => ?_) (fun c => zT (fun d => ?_) (fun d => ?_))
  · rw [no (pG (.inl c))]; (repeat' (first|exact rfl|exact trivial|assumption|apply And.intro|refine fun (_:Unit) (_:True)=>?_|refine Exists.intro () ?_|omega|(dsimp only;omega)))
  · rw [no (pG (.inr (by omega)))]; (repeat' (first|exact rfl|exact trivial|assumption|apply And.intro|refine fun (_:Unit) (_:True)=>?_|refine Exists.intro () ?_|omega|(dsimp only;omega)))
  obtain ⟨k,hk⟩ : ∃ k,k = i.n.toNat := ⟨_,rfl⟩
  rw [← hk]
  obtain ⟨s,hs⟩ := z9 (l := i.a.slots) (i := k) (by omega)
  have hs' : i.a.slots[i.n.toNat]? = some s := by rw [← hk]; exact hs
  have eu := zNm (a := i.a) (n := i.n) (by omega) hs'
  refine ⟨⟨by omega,by omega⟩,s.used,elA hs (by simp [zN]) rfl,Cv.cnd.mk (fun u => ?_) (fun u => ?_)⟩
  · rw [no (by rw [eu]; simpa using u)]; (repeat' (first|exact rfl|exact trivial|assumption|apply And.intro|refine fun (_:Unit) (_:True)=>?_|refine Exists.intro () ?_|omega|(dsimp only;omega)))
  have u : s.used = true := by simpa using u
  have e : ¬ i.a.usedAt i.n = false := by rw [eu,u]; decide
  obtain ⟨⟨q0,q1⟩,sq,sa,sb⟩ := hok k s hs u
  have esl : i.a.slotAt i.n.toNat = s := yZ hs'
  have bad (hq : i.qty < 1 ∨ s.qty < i.qty) : i.a.takeF i.n i.qty = (i.a,24) := by rw [Arena.takeF,if_neg e,esl,if_pos hq]
  refine ⟨⟨by omega,by omega⟩,zT (fun c1 => by rw [bad (.inl c1)]; (repeat' (first|exact rfl|exact trivial|assumption|apply And.intro|refine fun (_:Unit) (_:True)=>?_|refine Exists.intro () ?_|omega|(dsimp only;omega)))) (fun c1 => ⟨s.qty,elA hs (by simp [zN]) rfl,zT (fun c2 => by rw [bad (.inr (by omega))]; (repeat' (first|exact rfl|exact trivial|assumption|apply And.intro|refine fun (_:Unit) (_:True)=>?_|refine Exists.intro () ?_|omega|(dsimp only;omega)))) (fun c2 => ⟨s.qty,elA hs (by simp [zN]) rfl,by omega,?_⟩)⟩)⟩
  obtain ⟨q,hq⟩ := z9 (l := i.a.queues) (i := s.queue.toNat) (by omega)
  have hs1 : (i.a.slots.set k { s with qty := s.qty - i.qty })[k]? = some { s with qty := s.qty - i.qty } := kV hs
  have hq1 : (i.a.queues.set s.queue.toNat { q with total := IntKind.i64.wrap (q.total - i.qty) })[s.queue.toNat]? = some { q with total := IntKind.i64.wrap (q.total - i.qty) } := kV hq
  have hle : i.a.less i.n.toNat i.qty = ⟨i.a.slots.set k { s with qty := s.qty - i.qty },i.a.queues.set s.queue.toNat { q with total := IntKind.i64.wrap (q.total - i.qty) },i.a.free⟩ := by
    rw [Arena.less,esl,wE hs',wE hq,hk]
  have hL : (i.a.slots.set k { s with qty := s.qty - i.qty }).length = i.a.slots.length := List.length_set
  have hQ : (i.a.queues.set s.queue.toNat { q with total := IntKind.i64.wrap (q.total - i.qty) }).length = i.a.queues.length := List.length_set
  have tk : i.a.takeF i.n i.qty = if s.qty = i.qty then ((i.a.less i.n.toNat i.qty).dropF i.n.toNat,0) else (i.a.less i.n.toNat i.qty,0) := by rw [Arena.takeF,if_neg e,esl,if_neg (by omega)]
  rw [hle,← hk] at tk
  rw [w64 (x := s.qty - i.qty) (by omega),yD hs (y := { s with qty := s.qty - i.qty }) rfl]
  refine ⟨s.queue,elA hs1 (by simp [zN]) rfl,⟨q0,q1⟩,q.total,elA hq (by simp [zJ]) rfl,⟨q0,q1⟩,by omega,s.qty - i.qty,elA hs1 (by simp [zN]) rfl,?_⟩
  rw [yD hq (y := { q with total := IntKind.i64.wrap (q.total - i.qty) }) rfl]
  simp only [List.length_map]
  generalize hL1 : i.a.slots.set k { s with qty := s.qty - i.qty } = L1 at *
  generalize hQ1 : i.a.queues.set s.queue.toNat { q with total := IntKind.i64.wrap (q.total - i.qty) } = Q1 at *
  refine Cv.cnd.mk (fun z => ?_) (fun z => ?_)
  · have z : s.qty = i.qty := by have : s.qty - i.qty = 0 := by simpa using z
                                 omega
    rw [if_pos z] at tk
    have esl1 : (⟨L1,Q1,i.a.free⟩ : Arena).slotAt k = { s with qty := s.qty - i.qty } := yZ hs1
    have eq1 : Q1.getD s.queue.toNat vH = { q with total := IntKind.i64.wrap (q.total - i.qty) } := zU hq1
    rw [Arena.dropF,esl1] at tk
    dsimp only at tk
    rw [eq1] at tk
    dsimp only at tk
    rw [tk]
    refine ⟨s.queue,elA hs1 (by simp [zN]) rfl,⟨q0,by omega⟩,s.ahead,elA hs1 (by simp [zN]) rfl,Cv.cnd.mk (fun ea => ?_) (fun ea => ?_)⟩
    · have ea : s.ahead = -1 := by simpa using ea
      refine ⟨s.back,elA hs1 (by simp [zN]) rfl,by omega,s.back,elA hs1 (by simp [zN]) rfl,?_⟩
      rw [yD hq1 (y := ⟨s.back,q.last,IntKind.i64.wrap (q.total - i.qty),q.count⟩) rfl]
      have hq2 : (Q1.set s.queue.toNat ⟨s.back,q.last,IntKind.i64.wrap (q.total - i.qty),q.count⟩)[s.queue.toNat]? = some ⟨s.back,q.last,IntKind.i64.wrap (q.total - i.qty),q.count⟩ := kV hq1
      simp only [List.length_map,List.length_set]
      refine Cv.cnd.mk (fun eb => ?_) (fun eb => ?_)
      · have eb : s.back = -1 := by simpa using eb
        refine ⟨s.ahead,elA hs1 (by simp [zN]) rfl,by omega,q.count,?_,?_⟩
        · rw [yD hq2 (y := ⟨s.back,s.ahead,IntKind.i64.wrap (q.total - i.qty),q.count⟩) rfl]
          exact elA (kV hq2) (by simp [zJ]) rfl
        rw [yD hq2 (y := ⟨s.back,s.ahead,IntKind.i64.wrap (q.total - i.qty),q.count⟩) rfl,yD (kV hq2) (y := ⟨s.back,s.ahead,IntKind.i64.wrap (q.total - i.qty),IntKind.i64.wrap (q.count - 1)⟩) rfl,yD hs1 (y := slot0) rfl]
        simp only [List.length_map,List.length_set,List.set_set,if_pos ea,if_pos eb]
        refine ⟨by omega,by omega,(),by (first|exact rfl|exact trivial),by (first|exact rfl|exact trivial),by (first|exact rfl|exact trivial),by (first|exact rfl|exact trivial),trivial⟩
      · have eb : s.back ≠ -1 := by simpa using eb
        obtain ⟨b0,b1,b2⟩ : 0 ≤ s.back ∧ s.back < i.a.slots.length ∧ s.back ≠ k := by omega
        obtain ⟨x,hx⟩ := z9 (l := L1) (i := s.back.toNat) (by omega)
        refine ⟨s.back,elA hs1 (by simp [zN]) rfl,s.ahead,elA hs1 (by simp [zN]) rfl,⟨b0,by omega⟩,by omega,q.count,elA hq2 (by simp [zJ]) rfl,?_⟩
        rw [yD hx (y := { x with ahead := s.ahead }) rfl,yD hq2 (y := ⟨s.back,q.last,IntKind.i64.wrap (q.total - i.qty),IntKind.i64.wrap (q.count - 1)⟩) rfl,yD (zKf (by omega) hs1) (y := slot0) rfl]
        simp only [List.length_map,List.length_set,List.set_set,if_pos ea,if_neg eb,wE hx]
        refine ⟨by omega,by omega,(),by (first|exact rfl|exact trivial),by (first|exact rfl|exact trivial),by (first|exact rfl|exact trivial),by (first|exact rfl|exact trivial),trivial⟩
    · have ea : s.ahead ≠ -1 := by simpa using ea
      obtain ⟨a0,a1,a2⟩ : 0 ≤ s.ahead ∧ s.ahead < i.a.slots.length ∧ s.ahead ≠ k := by omega
      obtain ⟨x,hx⟩ := z9 (l := L1) (i := s.ahead.toNat) (by omega)
      have hs2 : (L1.set s.ahead.toNat { x with back := s.back })[k]? = some { s with qty := s.qty - i.qty } := zKf (by omega) hs1
      refine ⟨s.ahead,elA hs1 (by simp [zN]) rfl,s.back,elA hs1 (by simp [zN]) rfl,⟨a0,by omega⟩,by omega,s.back,?_,?_⟩
      · rw [yD hx (y := { x with back := s.back }) rfl]
        exact elA hs2 (by simp [zN]) rfl
      rw [yD hx (y := { x with back := s.back }) rfl]
      simp only [List.length_map,List.length_set]
      refine Cv.cnd.mk (fun eb => ?_) (fun eb => ?_)
      · have eb : s.back = -1 := by simpa using eb
        refine ⟨s.ahead,elA hs2 (by simp [zN]) rfl,by omega,q.count,?_,?_⟩
        · rw [yD hq1 (y := ⟨q.first,s.ahead,IntKind.i64.wrap (q.total - i.qty),q.count⟩) rfl]
          exact elA (kV hq1) (by simp [zJ]) rfl
        rw [yD hq1 (y := ⟨q.first,s.ahead,IntKind.i64.wrap (q.total - i.qty),q.count⟩) rfl,yD (kV hq1) (y := ⟨q.first,s.ahead,IntKind.i64.wrap (q.total - i.qty),IntKind.i64.wrap (q.count - 1)⟩) rfl,yD hs2 (y := slot0) rfl]
        simp only [List.length_map,List.length_set,List.set_set,if_neg ea,if_pos eb,wE hx]
        refine ⟨by omega,by omega,(),by (first|exact rfl|exact trivial),by (first|exact rfl|exact trivial),by (first|exact rfl|exact trivial),by (first|exact rfl|exact trivial),trivial⟩
      · have eb : s.back ≠ -1 := by simpa using eb
        obtain ⟨b0,b1,b2⟩ : 0 ≤ s.back ∧ s.back < i.a.slots.length ∧ s.back ≠ k := by omega
        obtain ⟨y,hy⟩ := z9 (l := L1.set s.ahead.toNat { x with back := s.back }) (i := s.back.toNat) (by rw [List.length_set]; omega)
        refine ⟨s.back,elA hs2 (by simp [zN]) rfl,s.ahead,elA hs2 (by simp [zN]) rfl,⟨b0,by omega⟩,by omega,q.count,elA hq1 (by simp [zJ]) rfl,?_⟩
        rw [yD hy (y := { y with ahead := s.ahead }) rfl,yD hq1 (y := ⟨q.first,q.last,IntKind.i64.wrap (q.total - i.qty),IntKind.i64.wrap (q.count - 1)⟩) rfl,yD (zKf (by omega) hs2) (y := slot0) rfl]
        simp only [List.length_map,List.length_set,List.set_set,if_neg ea,if_neg eb,wE hx,wE hy]
        refine ⟨by omega,by omega,(),by (first|exact rfl|exact trivial),by (first|exact rfl|exact trivial),by (first|exact rfl|exact trivial),by (first|exact rfl|exact trivial),trivial⟩
  · have z : ¬ s.qty = i.qty := by have : ¬ s.qty - i.qty = 0 := by simpa using z
                                   omega
    rw [if_neg z] at tk
    rw [tk]
    exact ⟨(),rfl,rfl,rfl,rfl,trivial⟩
theorem zTd : atakeC.ok Try.prog 89 := zXw gok0 z4k
open Go Cv Go.Proofs
structure PlI where
  l : List Int
  least : Int
  q : Int
def zJh (l : List Int) (least q : Int) : List Int := l.map fun k => if least ≤ k * q / l.sum then k * q / l.sum else 0
def qQ : List (Int × Int) → Int → List Int
  | [],_ => []
  | (n,x) :: r,q => (x + min (n - x) q) :: qQ r (q - min (n - x) q)
def PlI.p0 (i : PlI) : List Int := zJh i.l i.least i.q
def PlI.p1 (i : PlI) : List Int := qQ (i.l.zip i.p0) (i.q - i.p0.sum)
def qA (i : PlI) : List Int := if yI i.l i.q = true ∧ 1 ≤ i.least then i.p1 else []
def plainC : Con := con1 PlI (fun i => [iV i.l,zF i.least,zF i.q]) (fun _ => []) (fun i => i.l.length ≤ 1000000 ∧ yN i.q ∧ yN i.least) (fun _ => .own 0) (fun i => [.own 2 1 (iE (qA i))])
def zTy (i : PlI) : List SAnn := [
  { ι := Nat,slots := fun j => [(9,.own 0),(36,zF j)],rows := fun j => [.own 2 1 (iE (i.p0.take j ++ List.replicate (i.l.length - j) 0))] },
  { ι := Nat,slots := fun j => [(2,zF (i.q - (i.p0.take j).sum)),(58,zF j)],rows := fun _ => [] },
  { ι := Nat,slots := fun j => [(9,.own 0),(2,zF (i.q - i.p0.sum + (i.p0.take j).sum - (i.p1.take j).sum)),(68,zF j)],rows := fun j => [.own 2 1 (iE (i.p1.take j ++ i.p0.drop j))] }]
open Go Cv Go.Proofs
def zDz (i : PlI) : Prop :=
  ∃ (i_1 : LqI),iE i_1.l = iE i.l∧i_1.q = i.q∧(i_1.l.length ≤ (1000000 : Nat)∧(-9223372036854775808 : Int) ≤ i_1.q∧i_1.q ≤ 9223372036854775807)∧∀ (o : Unit),True→cnd (!yI i_1.l i_1.q) (∃ (o : Unit),iE (qA i) = []∧True) (cnd (decide (i.least < 1)) (∃ (o : Unit),iE (qA i) = []∧True) (∃ (i_2 : List Int),iE i_2 = iE i.l∧(i_2.length ≤ 1000∧∀ (x : Int),x ∈ i_2→0 ≤ x∧x ≤ 1000000)∧∀ (o : Unit),True→(0 ≤ (↑(iE i.l).length : Int)∧(↑(iE i.l).length : Int) ≤ (↑(iE i.l).length : Int)∧(↑(iE i.l).length : Int) ≤ 9223372036854775807∧(↑(8 : Nat) : Int) * (↑(iE i.l).length : Int) ≤ 2 ^ (48 : Nat))∧∃ (i0 : Nat),(↑i0 : Int) = 0∧iE (List.take i0 i.p0 ++ List.replicate (i.l.length - i0) 0) = List.replicate (↑(iE i.l).length : Int).toNat [D.v (.int .i64 0)]∧∃ (I : Nat→Prop),∃ (μ : Nat→Nat),I i0∧∀ (i_3 : Nat),I i_3→cnd (decide ((↑i_3 : Int) < (↑(iE i.l).length : Int))) ((0 ≤ (↑i_3 : Int)∧(↑i_3 : Int) < (↑(iE i.l).length : Int))∧∃ (n : Int),zG (iE i.l) (↑i_3 : Int).toNat 0 1 = some [D.v (.int .i64 n)]∧∃ (i_4 : ShI),i_4.a = n∧i_4.b = i.q∧i_4.c = i_2.sum∧(0 ≤ i_4.a∧i_4.a ≤ (2000000000 : Int)∧(0 : Int) ≤ i_4.b∧i_4.b ≤ (2000000000 : Int)∧(1 : Int) ≤ i_4.c∧i_4.c ≤ 2000000000)∧∀ (o : Unit),True→cnd (decide (i_4.a * i_4.b / i_4.c ≥ i.least)) ((0 ≤ (↑i_3 : Int)∧(↑i_3 : Int) < (↑(iE (List.take i_3 i.p0 ++ List.replicate (i.l.length - i_3) 0)).length : Int))∧(↑i_3 : Int).toNat < (iE (List.take i_3 i.p0 ++ List.replicate (i.l.length - i_3) 0)).length∧∃ (i' : Nat),(↑i' : Int) = IntKind.i64.wrap ((↑i_3 : Int) + 1)∧iE (List.take i' i.p0 ++ List.replicate (i.l.length - i') 0) = zK (iE (List.take i_3 i.p0 ++ List.replicate (i.l.length - i_3) 0)) (↑i_3 : Int).toNat 0 [D.v (.int .i64 (i_4.a * i_4.b / i_4.c))]∧I i'∧μ i' < μ i_3∧True) (∃ (i' : Nat),(↑i' : Int) = IntKind.i64.wrap ((↑i_3 : Int) + 1)∧iE (List.take i' i.p0 ++ List.replicate (i.l.length - i') 0) = iE (List.take i_3 i.p0 ++ List.replicate (i.l.length - i_3) 0)∧I i'∧μ i' < μ i_3∧True)) (∃ (i0 : Nat),i.q - (List.take i0 i.p0).sum = i.q∧(↑i0 : Int) = 0∧∃ (I : Nat→Prop),∃ (μ : Nat→Nat),I i0∧∀ (i_4 : Nat),I i_4→cnd (decide ((↑i_4 : Int) < (↑(iE (List.take i_3 i.p0 ++ List.replicate (i.l.length - i_3) 0)).length : Int))) ((0 ≤ (↑i_4 : Int)∧(↑i_4 : Int) < (↑(iE (List.take i_3 i.p0 ++ List.replicate (i.l.length - i_3) 0)).length : Int))∧∃ (n : Int),zG (iE (List.take i_3 i.p0 ++ List.replicate (i.l.length - i_3) 0)) (↑i_4 : Int).toNat 0 1 = some [D.v (.int .i64 n)]∧∃ (i' : Nat),i.q - (List.take i' i.p0).sum = IntKind.i64.wrap (i.q - (List.take i_4 i.p0).sum - n)∧(↑i' : Int) = IntKind.i64.wrap ((↑i_4 : Int) + 1)∧I i'∧μ i' < μ i_4∧AObj.own 2 1 (iE (List.take i_3 i.p0 ++ List.replicate (i.l.length - i_3) 0)) = AObj.own 2 1 (iE (List.take i_3 i.p0 ++ List.replicate (i.l.length - i_3) 0))) (∃ (i0 : Nat),i.q - i.p0.sum + (List.take i0 i.p0).sum - (List.take i0 i.p1).sum = i.q - (List.take i_4 i.p0).sum∧(↑i0 : Int) = 0∧iE (List.take i0 i.p1 ++ List.drop i0 i.p0) = iE (List.take i_3 i.p0 ++ List.replicate (i.l.length - i_3) 0)∧∃ (I : Nat→Prop),∃ (μ : Nat→Nat),I i0∧∀ (i_5 : Nat),I i_5→cnd (decide ((↑i_5 : Int) < (↑(iE (List.take i_3 i.p0 ++ List.replicate (i.l.length - i_3) 0)).length : Int))) ((0 ≤ (↑i_5 : Int)∧(↑i_5 : Int) < (↑(iE i.l).length : Int))∧∃ (n : Int),zG (iE i.l) (↑i_5 : Int).toNat 0 1 = some [D.v (.int .i64 n)]∧(0 ≤ (↑i_5 : Int)∧(↑i_5 : Int) < (↑(iE (List.take i_5 i.p1 ++ List.drop i_5 i.p0)).length : Int))∧∃ (n_1 : Int),zG (iE (List.take i_5 i.p1 ++ List.drop i_5 i.p0)) (↑i_5 : Int).toNat 0 1 = some [D.v (.int .i64 n_1)]∧(0 ≤ (↑i_5 : Int)∧(↑i_5 : Int) < (↑(iE (List.take i_5 i.p1 ++ List.drop i_5 i.p0)).length : Int))∧∃ (n_2 : Int),zG (iE (List.take i_5 i.p1 ++ List.drop i_5 i.p0)) (↑i_5 : Int).toNat 0 1 = some [D.v (.int .i64 n_2)]∧(0 ≤ (↑i_5 : Int)∧(↑i_5 : Int) < (↑(iE (List.take i_5 i.p1 ++ List.drop i_5 i.p0)).length : Int))∧(↑i_5 : Int).toNat < (iE (List.take i_5 i.p1 ++ List.drop i_5 i.p0)).length∧∃ (i' : Nat),i.q - i.p0.sum + (List.take i' i.p0).sum - (List.take i' i.p1).sum = IntKind.i64.wrap (i.q - i.p0.sum + (List.take i_5 i.p0).sum - (List.take i_5 i.p1).sum - min (IntKind.i64.wrap (n - n_1)) (i.q - i.p0.sum + (List.take i_5 i.p0).sum - (List.take i_5 i.p1).sum))∧(↑i' : Int) = IntKind.i64.wrap ((↑i_5 : Int) + 1)∧iE (List.take i' i.p1 ++ List.drop i' i.p0) = zK (iE (List.take i_5 i.p1 ++ List.drop i_5 i.p0)) (↑i_5 : Int).toNat 0 [D.v (.int .i64 (IntKind.i64.wrap (n_2 + min (IntKind.i64.wrap (n - n_1)) (i.q - i.p0.sum + (List.take i_5 i.p0).sum - (List.take i_5 i.p1).sum))))]∧I i'∧μ i' < μ i_5∧True) (∃ (o : Unit),iE (qA i) = iE (List.take i_5 i.p1 ++ List.drop i_5 i.p0)∧True)))))
theorem zYp (i : PlI) : zDz i = walk Try.prog ([(57,rightC),(92,isumC),(59,ishareC)]) 0 ([]) (zTy i) [] Try.f76 (Try.f76.body.getD .skip) (plainC.pat i) (plainC.pre i) (plainC.alts i) := by kernel_rfl
theorem zXy (hG : GOk Try.prog ([(57,rightC),(92,isumC),(59,ishareC)])) (h : ∀ (i : PlI),plainC.cnd i → zDz i) : plainC.ok Try.prog 76 := zE mixed ([(57,rightC),(92,isumC),(59,ishareC)]) hG 0 (fun (i : PlI) => []) (fun (i : PlI) => zTy i) [] Try.func76 (by kernel_rfl) (by kernel_rfl) (by kernel_rfl) (fun _ => by kernel_rfl) (fun (i : PlI) hc => Eq.mp (zYp i) (h i hc))
open Go Cv Go.Proofs
theorem cD : ∀ (z : List (Int × Int)) (q : Int),(qQ z q).length = z.length
  | [],_ => rfl
  | (n,x) :: z,q => by rw [qQ,List.length_cons,List.length_cons,cD z]
theorem tE : ∀ (z : List (Int × Int)) (q : Int) (j : Nat) (n x : Int),z[j]? = some (n,x) → (qQ z q)[j]? = some (x + min (n - x) (q + ((z.map (·.2)).take j).sum - ((qQ z q).take j).sum))
  | [],_,_,_,_,h => by simp at h
  | (m,y) :: z,q,0,n,x,h => by simp at h; obtain ⟨rfl,rfl⟩ := h; simp [qQ]
  | (m,y) :: z,q,j + 1,n,x,h => by
    rw [List.getElem?_cons_succ] at h
    rw [qQ,List.getElem?_cons_succ,tE z _ j n x h,List.take_succ_cons,List.sum_cons,List.map_cons,List.take_succ_cons,List.sum_cons]
    congr 3; dsimp only; omega
theorem mY : ∀ (z : List (Int × Int)) (q : Int) (j : Nat),0 ≤ q → (∀ y ∈ z,y.2 ≤ y.1) → 0 ≤ q + ((z.map (·.2)).take j).sum - ((qQ z q).take j).sum ∧ q + ((z.map (·.2)).take j).sum - ((qQ z q).take j).sum ≤ q
  | [],q,j,h,_ => by simp [qQ,h]
  | (m,y) :: z,q,0,h,_ => by simp [h]
  | (m,y) :: z,q,j + 1,h,hb => by
    have hm := hb (m,y) List.mem_cons_self
    have := mY z (q - min (m - y) q) j (by dsimp only at hm; omega) (fun x hx => hb x (List.mem_cons_of_mem _ hx))
    rw [qQ,List.take_succ_cons,List.sum_cons,List.map_cons,List.take_succ_cons,List.sum_cons]
    dsimp only at hm ⊢
    omega
theorem zRz {k q S : Int} (hk : 0 ≤ k) (hq : 0 ≤ q) (hS : 1 ≤ S) (hqS : q ≤ S) : 0 ≤ k * q / S ∧ k * q / S ≤ k := by
  refine ⟨Int.ediv_nonneg (Int.mul_nonneg hk hq) (by omega),?_⟩
  have : k * q ≤ k * S := Int.mul_le_mul_of_nonneg_left hqS hk
  exact Int.ediv_le_of_le_mul (by omega) this
theorem lW {q S least : Int} (hq : 0 ≤ q) (hS : 1 ≤ S) : ∀ (l : List Int),(∀ x ∈ l,0 ≤ x) → S * (l.map fun k => if least ≤ k * q / S then k * q / S else 0).sum ≤ q * l.sum
  | [],_ => by simp
  | k :: l,h => by
    have ih := lW (least := least) hq hS l (fun x hx => h x (List.mem_cons_of_mem _ hx))
    have hk := h k List.mem_cons_self
    rw [List.map_cons,List.sum_cons,List.sum_cons,Int.mul_add,Int.mul_add]
    have h1 : S * (k * q / S) ≤ k * q := by
      have := Int.mul_ediv_add_emod (k * q) S
      have := Int.emod_nonneg (k * q) (show S ≠ 0 by omega)
      omega
    have h2 : 0 ≤ k * q := Int.mul_nonneg hk hq
    have h3 : S * (if least ≤ k * q / S then k * q / S else 0) ≤ q * k := by
      rw [Int.mul_comm q k]
      split
      · exact h1
      · simpa using h2
    omega
theorem zRn {i : PlI} {j : Nat} {n : Int} (h : i.l[j]? = some n) : i.p0[j]? = some (if i.least ≤ n * i.q / i.l.sum then n * i.q / i.l.sum else 0) := by
  rw [PlI.p0,zJh,List.getElem?_map,h]; rfl
theorem zJf (i : PlI) : i.p0.length = i.l.length := by simp [PlI.p0,zJh]
theorem zLv {l : List Int} {j m : Nat} {n : Int} (hl : l.length = m) (h : l[j]? = some n) : (l.take j ++ List.replicate (m - j) 0).set j n = l.take (j + 1) ++ List.replicate (m - (j + 1)) 0 := by
  have hj := (List.getElem?_eq_some_iff.1 h).1
  rw [List.set_append_right _ _ (by rw [List.length_take]; omega),List.length_take,show j - min j l.length = 0 by omega,show m - j = (m - (j + 1)) + 1 by omega,List.replicate_succ,List.set_cons_zero,List.take_add_one,h]
  simp
theorem zWc {l : List Int} {j m : Nat} (hl : l.length = m) (hj : j < m) : (l.take j ++ List.replicate (m - j) 0)[j]? = some 0 := by
  rw [List.getElem?_append_right (by rw [List.length_take]; omega),List.length_take,show j - min j l.length = 0 by omega,show m - j = (m - (j + 1)) + 1 by omega,List.replicate_succ]; rfl
theorem zUp {α : Type} {l : List α} {j : Nat} {x : α} (h : l[j]? = some x) : l.set j x = l := by
  obtain ⟨h1,h2⟩ := List.getElem?_eq_some_iff.1 h
  rw [← h2]; exact List.set_getElem_self h1
theorem z6b {a b : List Int} {j : Nat} {x : Int} (ha : a.length = b.length) (h : b[j]? = some x) : (a.take j ++ b.drop j)[j]? = some x := by
  have hj := (List.getElem?_eq_some_iff.1 h).1
  rw [List.getElem?_append_right (by rw [List.length_take]; omega),List.length_take,show j - min j a.length = 0 by omega,List.getElem?_drop]
  exact h
theorem z2w {a b : List Int} {j : Nat} {y : Int} (ha : a.length = b.length) (h : a[j]? = some y) : (a.take j ++ b.drop j).set j y = a.take (j + 1) ++ b.drop (j + 1) := by
  have hj := (List.getElem?_eq_some_iff.1 h).1
  rw [List.set_append_right _ _ (by rw [List.length_take]; omega),List.length_take,show j - min j a.length = 0 by omega,List.drop_eq_getElem_cons (by omega),List.set_cons_zero,List.take_add_one,h]
  simp
theorem zDl {l : List Int} {j : Nat} {x y : Int} (h : l[j]? = some x) : zK (iE l) j 0 [D.v (.int .i64 y)] = iE (l.set j y) := yD (f := fun n : Int => [D.v (.int .i64 n)]) h rfl
theorem bI {i : PlI} (h : yI i.l i.q = true) (hne : 0 < i.l.length) : 1 ≤ i.l.sum ∧ i.l.sum ≤ 250000000 ∧ (∀ (j : Nat) (n x : Int),i.l[j]? = some n → i.p0[j]? = some x → 0 ≤ x ∧ x ≤ n) ∧ i.p0.sum ≤ i.q := by
  obtain ⟨h1,h2,h3,h4⟩ := qB h
  have hb := qF (l := i.l) (fun x hx => by have := h3 x hx; omega) i.l.length
  rw [List.take_length] at hb
  have hS : 1 ≤ i.l.sum := by
    obtain ⟨x,hx⟩ := z9 (l := i.l) (i := 0) hne
    have := h3 x (List.mem_of_getElem? hx)
    cases hl : i.l with
    | nil => rw [hl] at hne; exact absurd hne (Nat.lt_irrefl 0)
    | cons a r =>
      rw [hl] at hx; simp at hx; subst hx
      have hr := qF (l := r) (fun y hy => by have := h3 y (by rw [hl]; exact List.mem_cons_of_mem _ hy); omega) r.length
      rw [List.take_length] at hr
      rw [List.sum_cons]; omega
  refine ⟨hS,by omega,fun j n x hn hx => ?_,?_⟩
  · have hn1 := h3 n (List.mem_of_getElem? hn)
    have := zRz (k := n) (by omega) h2 hS h4
    rw [zRn hn] at hx
    cases hx
    split <;> omega
  · have := lW (least := i.least) h2 hS i.l (fun x hx => by have := h3 x hx; omega)
    have e : i.l.sum * i.p0.sum ≤ i.l.sum * i.q := by rw [Int.mul_comm i.l.sum i.q]; exact this
    exact Int.le_of_mul_le_mul_left e (by omega)
theorem z6q (i : PlI) (h : plainC.cnd i) : zDz i := by
  obtain ⟨hl,hq,hle⟩ : i.l.length ≤ 1000000 ∧ yN i.q ∧ yN i.least := h
  unfold zDz
  refine ⟨⟨i.l,i.q⟩,rfl,rfl,⟨hl,hq⟩,fun _ _ => Cv.cnd.mk (fun c => ?_) (fun c => zT (fun d => ?_) (fun d => ?_))⟩
  · have c : yI i.l i.q = false := by simpa using c
    refine ⟨(),?_,trivial⟩
    rw [qA,if_neg (by rw [c]; simp)]; rfl
  · refine ⟨(),?_,trivial⟩
    rw [qA,if_neg (by omega)]; rfl
  have c : yI i.l i.q = true := by simpa using c
  have eS : qA i = i.p1 := by rw [qA,if_pos ⟨c,by omega⟩]
  obtain ⟨h1,h2,h3,h4⟩ := qB c
  have hq2 := pQ c
  have hp0 := zJf i
  have hzl : (i.l.zip i.p0).length = i.l.length := by rw [List.length_zip,hp0]; simp
  have hp1 : i.p1.length = i.l.length := by rw [PlI.p1,cD,hzl]
  have hz2 : (i.l.zip i.p0).map (·.2) = i.p0 := by rw [List.map_snd_zip]; omega
  have h64 : i.l.length ≤ 250 := h1
  have hrl : ∀ j,j ≤ i.l.length → (List.take j i.p0 ++ List.replicate (i.l.length - j) 0).length = i.l.length := by
    intro j hj; rw [List.length_append,List.length_take,List.length_replicate]; omega
  simp only [yU]
  refine ⟨i.l,rfl,⟨by omega,fun x hx => by have := h3 x hx; omega⟩,fun _ _ => ⟨⟨by omega,by omega,by omega,by omega⟩,0,by (first|exact rfl|exact trivial),?_,fun j => j ≤ i.l.length,fun j => i.l.length - j,Nat.zero_le _,fun j hj => zT (fun e => ?_) (fun e => ?_)⟩⟩
  · simp [iE]
  · have hj' : j < i.l.length := by omega
    obtain ⟨n,hn⟩ := z9 (l := i.l) (i := j) hj'
    have bn := h3 n (List.mem_of_getElem? hn)
    obtain ⟨f1,f2,f3,f4⟩ := bI c (by omega)
    have g := zRn hn
    refine ⟨⟨by omega,by omega⟩,n,elI hn,⟨n,i.q,i.l.sum⟩,rfl,rfl,rfl,⟨by dsimp only;omega,by dsimp only;omega,by dsimp only;omega,by dsimp only;omega,by dsimp only;omega,by dsimp only;omega⟩,fun _ _ => zT (fun a => ?_) (fun a => ?_)⟩
    · have a : n * i.q / i.l.sum ≥ i.least := a
      rw [if_pos (by omega)] at g
      refine ⟨⟨by omega,by rw [hrl j (by omega)]; omega⟩,by rw [hrl j (by omega)]; omega,j + 1,wjn (by omega),?_,hj',by dsimp only;omega,trivial⟩
      rw [Int.toNat_natCast,zDl (zWc hp0 hj'),zLv hp0 g]
    · have a : ¬ n * i.q / i.l.sum ≥ i.least := a
      rw [if_neg (by omega)] at g
      refine ⟨j + 1,wjn (by omega),?_,hj',by dsimp only;omega,trivial⟩
      rw [← zLv hp0 g,zUp (zWc hp0 hj')]
  have hje : j = i.l.length := by omega
  subst hje
  have eP : List.take i.l.length i.p0 ++ List.replicate (i.l.length - i.l.length) 0 = i.p0 := by rw [List.take_of_length_le (by omega)]; simp
  rw [eP,hp0]
  have px : ∀ (k : Nat) (n x : Int),i.l[k]? = some n → i.p0[k]? = some x → 0 ≤ x ∧ x ≤ n := fun k n x hn hx => (bI c (by have := (List.getElem?_eq_some_iff.1 hn).1; omega)).2.2.1 k n x hn hx
  have pb : ∀ x ∈ i.p0,0 ≤ x ∧ x ≤ 1000000 := by
    intro x hx
    obtain ⟨k,hk⟩ := List.mem_iff_getElem?.1 hx
    obtain ⟨n,hn⟩ := z9 (l := i.l) (i := k) (by have := (List.getElem?_eq_some_iff.1 hk).1; omega)
    have := px k n x hn hk
    have := h3 n (List.mem_of_getElem? hn)
    omega
  have pq : i.p0.sum ≤ i.q := by
    by_cases hz : 0 < i.l.length
    · exact (bI c hz).2.2.2
    · have : i.p0 = [] := List.eq_nil_of_length_eq_zero (by omega)
      rw [this]; simpa using h2
  refine ⟨0,by simp,by (first|exact rfl|exact trivial),fun k => k ≤ i.l.length,fun k => i.l.length - k,Nat.zero_le _,fun k hk => zT (fun e => ?_) (fun e => ?_)⟩
  · have hk' : k < i.l.length := by omega
    obtain ⟨x,hx⟩ := z9 (l := i.p0) (i := k) (by omega)
    have bx := pb x (List.mem_of_getElem? hx)
    have bs := qF pb k
    refine ⟨⟨by omega,by omega⟩,x,elI hx,k + 1,?_,wjn (by omega),hk',by dsimp only;omega,by (repeat' (first|exact trivial|exact rfl|apply And.intro))⟩
    rw [qK hx,w64 (by omega)]; omega
  have hke : k = i.l.length := by omega
  subst hke
  rw [List.take_of_length_le (l := i.p0) (by omega)]
  refine ⟨0,by simp,by (first|exact rfl|exact trivial),by simp,fun j => j ≤ i.l.length,fun j => i.l.length - j,Nat.zero_le _,fun j hj => zT (fun e => ?_) (fun e => ?_)⟩
  · have hj' : j < i.l.length := by omega
    obtain ⟨n,hn⟩ := z9 (l := i.l) (i := j) hj'
    obtain ⟨x,hx⟩ := z9 (l := i.p0) (i := j) (by omega)
    have bn := h3 n (List.mem_of_getElem? hn)
    have bx := px j n x hn hx
    have hz : (i.l.zip i.p0)[j]? = some (n,x) := by rw [List.getElem?_zip_eq_some]; exact ⟨hn,hx⟩
    have g := tE (i.l.zip i.p0) (i.q - i.p0.sum) j n x hz
    have r := mY (i.l.zip i.p0) (i.q - i.p0.sum) j (by omega) (fun y hy => by
      obtain ⟨k,hk⟩ := List.mem_iff_getElem?.1 hy
      rw [List.getElem?_zip_eq_some] at hk
      exact (px k y.1 y.2 hk.1 hk.2).2)
    rw [hz2] at g r
    have b0 := qF pb i.p0.length
    rw [List.take_length] at b0
    have hml : (List.take j i.p1 ++ List.drop j i.p0).length = i.l.length := by rw [List.length_append,List.length_take,List.length_drop]; omega
    have hma := z6b (a := i.p1) (b := i.p0) (by omega) hx
    change i.p1[j]? = _ at g
    change 0 ≤ _ - (List.take j i.p1).sum ∧ _ - (List.take j i.p1).sum ≤ _ at r
    change i.p1[j]? = some (x + min (n - x) (_ - (List.take j i.p1).sum)) at g
    rw [hml]
    refine ⟨⟨by omega,by omega⟩,n,elI hn,⟨by omega,by omega⟩,x,elI hma,⟨by omega,by omega⟩,x,elI hma,⟨by omega,by omega⟩,by omega,?_⟩
    rw [w64 (x := n - x) (by omega),w64 (x := x + min (n - x) (i.q - i.p0.sum + (List.take j i.p0).sum - (List.take j i.p1).sum)) (by omega)]
    refine ⟨j + 1,?_,wjn (by omega),?_,hj',by dsimp only;omega,trivial⟩
    · rw [qK hx,qK g,w64 (by omega)]; omega
    · rw [Int.toNat_natCast,zDl hma,z2w (by omega) g]
  · have hje : j = i.l.length := by omega
    subst hje
    refine ⟨(),?_,trivial⟩
    rw [eS,List.take_of_length_le (by omega),List.drop_eq_nil_of_le (by omega),List.append_nil]
theorem zVw : plainC.ok Try.prog 76 := zXy (gokc aJ (gokc zZm (gokc eX gok0))) z6q
open Go Cv Go.Proofs
structure RsI where
  l : List Int
  out : List Int
  least : Int
  q : Int
def RsI.idx (i : RsI) (k : Nat) : List Nat := (List.range k).filter fun n => decide (i.out.getD n 0 < i.l.getD n 0)
def RsI.left (i : RsI) (k : Nat) : List Int := (i.idx k).map fun n => i.l.getD n 0 - i.out.getD n 0
def RsI.pl (i : RsI) : List Int := qA ⟨i.left i.l.length,i.least,i.q⟩
def RsI.add (i : RsI) (k : Nat) : List Int := (((i.idx i.l.length).zip i.pl).take k).foldl (fun o y => o.set y.1 (IntKind.i64.wrap (o.getD y.1 0 + y.2))) i.out
def vX (i : RsI) : List Int := i.add i.pl.length
@[reducible] def RsI.ok (i : RsI) : Prop := i.l.length ≤ 250 ∧ i.out.length = i.l.length ∧ yN i.q ∧ yN i.least ∧ ∀ n,0 ≤ i.out.getD n 0 ∧ i.out.getD n 0 ≤ i.l.getD n 0 ∧ i.l.getD n 0 ≤ 1000000
def restC : Con := con1 RsI (fun i => [iV i.l,.own 0,zF i.least,zF i.q]) (fun i => [.own 2 1 (iE i.out)]) RsI.ok (fun _ => .own 1) (fun i => [.gone,.own 2 1 (iE (vX i))])
def z3w (i : RsI) : List SAnn := [
  { ι := Nat,slots := fun j => [(9,.own 0),(10,.own 1),(16,zF j)],rows := fun j => [.own 2 1 (iE (i.left j)),.own 3 1 (iE ((i.idx j).map fun (n : Nat) => (n : Int)))] },
  { ι := Nat,slots := fun k => [(1,.own 0),(50,zF k)],rows := fun k => [.own 2 1 (iE (i.add k))] }]
structure zH where
  id : Int
  side : Int
  price : Int
  qty : Int
  top : Bool
  deriving DecidableEq
def zX (o : zH) : List D := [.v (.int .i64 o.id),.v (.int .i64 o.side),.v (.int .i64 o.price),.v (.int .i64 o.qty),.v (.bool o.top)]
@[reducible] def z9p (o : zH) : V := .agg [zF o.id,zF o.side,zF o.price,zF o.qty,yG o.top]
def topFC : Con := con1 zH (fun o => [z9p o]) (fun _ => []) (fun _ => True) (fun o => yG o.top) (fun _ => [])
def topI (l : List zH) : Int := nD (l.findIdx? fun o => o.top)
def idxOrdC : Con := con1 (List zH) (fun l => [roV 5 (l.map zX),.fn 34 [] []]) (fun _ => []) (fun l => l.length ≤ 1000000) (fun l => zF (topI l)) (fun _ => [])
def zNe (l : List zH) : List SAnn := [{ ι := Nat,slots := fun j => [(8,zF j)],rows := fun _ => [] }]
open Go Cv Go.Proofs
def zLp (i : RsI) : Prop :=
  ∃ (i0 : Nat),(↑i0 : Int) = 0∧iE (i.left i0) = []∧iE (List.map (fun (n : Nat) ↦ (↑n : Int)) (i.idx i0)) = []∧∃ (I : Nat→Prop),∃ (μ : Nat→Nat),I i0∧∀ (i_1 : Nat),I i_1→cnd (decide ((↑i_1 : Int) < (↑(iE i.l).length : Int))) ((0 ≤ (↑i_1 : Int)∧(↑i_1 : Int) < (↑(iE i.l).length : Int))∧∃ (n : Int),zG (iE i.l) (↑i_1 : Int).toNat 0 1 = some [D.v (.int .i64 n)]∧(0 ≤ (↑i_1 : Int)∧(↑i_1 : Int) < (↑(iE i.out).length : Int))∧∃ (n_1 : Int),zG (iE i.out) (↑i_1 : Int).toNat 0 1 = some [D.v (.int .i64 n_1)]∧cnd (decide (n > n_1)) ((0 ≤ (↑i_1 : Int)∧(↑i_1 : Int) < (↑(iE i.l).length : Int))∧∃ (n : Int),zG (iE i.l) (↑i_1 : Int).toNat 0 1 = some [D.v (.int .i64 n)]∧(0 ≤ (↑i_1 : Int)∧(↑i_1 : Int) < (↑(iE i.out).length : Int))∧∃ (n_2 : Int),zG (iE i.out) (↑i_1 : Int).toNat 0 1 = some [D.v (.int .i64 n_2)]∧((iE (i.left i_1)).length + 1) * (8 : Nat) ≤ (70368744177664 : Nat)∧((iE (List.map (fun (n : Nat) ↦ (↑n : Int)) (i.idx i_1))).length + 1) * (8 : Nat) ≤ (70368744177664 : Nat)∧∃ (i' : Nat),(↑i' : Int) = IntKind.i64.wrap ((↑i_1 : Int) + 1)∧iE (i.left i') = iE (i.left i_1) ++ [[D.v (.int .i64 (IntKind.i64.wrap (n - n_2)))]]∧iE (List.map (fun (n : Nat) ↦ (↑n : Int)) (i.idx i')) = iE (List.map (fun (n : Nat) ↦ (↑n : Int)) (i.idx i_1)) ++ [[D.v (.int .i64 (↑i_1 : Int))]]∧I i'∧μ i' < μ i_1∧AObj.own 2 1 (iE i.out) = AObj.own 2 1 (iE i.out)) (∃ (i' : Nat),(↑i' : Int) = IntKind.i64.wrap ((↑i_1 : Int) + 1)∧iE (i.left i') = iE (i.left i_1)∧iE (List.map (fun (n : Nat) ↦ (↑n : Int)) (i.idx i')) = iE (List.map (fun (n : Nat) ↦ (↑n : Int)) (i.idx i_1))∧I i'∧μ i' < μ i_1∧AObj.own 2 1 (iE i.out) = AObj.own 2 1 (iE i.out))) (∃ (i_2 : PlI),iE i_2.l = iE (i.left i_1)∧i_2.least = i.least∧i_2.q = i.q∧(i_2.l.length ≤ 1000000∧((-9223372036854775808) ≤ i_2.q∧i_2.q ≤ 9223372036854775807)∧(-9223372036854775808) ≤ i_2.least∧i_2.least ≤ 9223372036854775807)∧∀ (o : Unit),True→∃ (i0 : Nat),(↑i0 : Int) = 0∧iE (i.add i0) = iE i.out∧∃ (I : Nat→Prop),∃ (μ : Nat→Nat),I i0∧∀ (i_3 : Nat),I i_3→cnd (decide ((↑i_3 : Int) < (↑(iE (qA i_2)).length : Int))) ((0 ≤ (↑i_3 : Int)∧(↑i_3 : Int) < (↑(iE (qA i_2)).length : Int))∧∃ (n : Int),zG (iE (qA i_2)) (↑i_3 : Int).toNat 0 1 = some [D.v (.int .i64 n)]∧(0 ≤ (↑i_3 : Int)∧(↑i_3 : Int) < (↑(iE (List.map (fun (n : Nat) ↦ (↑n : Int)) (i.idx i_1))).length : Int))∧∃ (n_1 : Int),zG (iE (List.map (fun (n : Nat) ↦ (↑n : Int)) (i.idx i_1))) (↑i_3 : Int).toNat 0 1 = some [D.v (.int .i64 n_1)]∧(0 ≤ n_1∧n_1 < (↑(iE (i.add i_3)).length : Int))∧∃ (n_2 : Int),zG (iE (i.add i_3)) n_1.toNat 0 1 = some [D.v (.int .i64 n_2)]∧(0 ≤ n_1∧n_1 < (↑(iE (i.add i_3)).length : Int))∧n_1.toNat < (iE (i.add i_3)).length∧∃ (i' : Nat),(↑i' : Int) = IntKind.i64.wrap ((↑i_3 : Int) + 1)∧iE (i.add i') = zK (iE (i.add i_3)) n_1.toNat 0 [D.v (.int .i64 (IntKind.i64.wrap (n_2 + n)))]∧I i'∧μ i' < μ i_3∧AObj.own 2 1 (iE (qA i_2)) = AObj.own 2 1 (iE (qA i_2))∧AObj.fro 1 (iE (i.left i_1)) = AObj.fro 1 (iE (i.left i_1))∧AObj.own 3 1 (iE (List.map (fun (n : Nat) ↦ (↑n : Int)) (i.idx i_1))) = AObj.own 3 1 (iE (List.map (fun (n : Nat) ↦ (↑n : Int)) (i.idx i_1)))) (∃ (o : Unit),iE (vX i) = iE (i.add i_3)∧True))
theorem z6m (i : RsI) : zLp i = walk Try.prog ([(76,plainC)]) 0 ([]) (z3w i) [] Try.f58 (Try.f58.body.getD .skip) (restC.pat i) (restC.pre i) (restC.alts i) := by kernel_rfl
theorem z7l (hG : GOk Try.prog ([(76,plainC)])) (h : ∀ (i : RsI),restC.cnd i → zLp i) : restC.ok Try.prog 58 := zE mixed ([(76,plainC)]) hG 0 (fun (i : RsI) => []) (fun (i : RsI) => z3w i) [] Try.func58 (by kernel_rfl) (by kernel_rfl) (by kernel_rfl) (fun _ => by kernel_rfl) (fun (i : RsI) hc => Eq.mp (z6m i) (h i hc))
def zSt (o : zH) : Prop :=
  ∃ (o_1 : Unit),o.top = o.top∧True
theorem z6d (o : zH) : zSt o = walk Try.prog ([]) 0 ([]) ([]) [] Try.f34 (Try.f34.body.getD .skip) (topFC.pat o) (topFC.pre o) (topFC.alts o) := by kernel_rfl
theorem z5e (hG : GOk Try.prog ([])) (h : ∀ (o : zH),topFC.cnd o → zSt o) : topFC.ok Try.prog 34 := zE mixed ([]) hG 0 (fun (o : zH) => []) (fun (o : zH) => []) [] Try.func34 (by kernel_rfl) (by kernel_rfl) (by kernel_rfl) (fun _ => by kernel_rfl) (fun (o : zH) hc => Eq.mp (z6d o) (h o hc))
def nT (l : List zH) : Prop :=
  ∃ (i0 : Nat),(↑i0 : Int) = 0∧∃ (I : Nat→Prop),∃ (μ : Nat→Nat),I i0∧∀ (i : Nat),I i→cnd (decide ((↑i : Int) < (↑(List.map zX l).length : Int))) ((0 ≤ (↑i : Int)∧(↑i : Int) < (↑(List.map zX l).length : Int))∧∃ (n : Int),∃ (n_1 : Int),∃ (n_2 : Int),∃ (n_3 : Int),∃ (b : Bool),zG (List.map zX l) (↑i : Int).toNat 0 5 = some [D.v (.int .i64 n),D.v (.int .i64 n_1),D.v (.int .i64 n_2),D.v (.int .i64 n_3),D.v (.bool b)]∧∃ (i_1 : zH),i_1.id = n∧i_1.side = n_1∧i_1.price = n_2∧i_1.qty = n_3∧i_1.top = b∧True∧∀ (o : Unit),True→cnd i_1.top (∃ (o : Unit),topI l = (↑i : Int)∧True) (∃ (i' : Nat),(↑i' : Int) = IntKind.i64.wrap ((↑i : Int) + 1)∧I i'∧μ i' < μ i∧True)) (∃ (o : Unit),topI l = (-1)∧True)
theorem zSe (l : List zH) : nT l = walk Try.prog ([(34,topFC)]) 0 ([]) (zNe l) [] Try.f33 (Try.f33.body.getD .skip) (idxOrdC.pat l) (idxOrdC.pre l) (idxOrdC.alts l) := by kernel_rfl
theorem zSu (hG : GOk Try.prog ([(34,topFC)])) (h : ∀ (l : List zH),idxOrdC.cnd l → nT l) : idxOrdC.ok Try.prog 33 := zE mixed ([(34,topFC)]) hG 0 (fun (l : List zH) => []) (fun (l : List zH) => zNe l) [] Try.func33 (by kernel_rfl) (by kernel_rfl) (by kernel_rfl) (fun _ => by kernel_rfl) (fun (l : List zH) hc => Eq.mp (zSe l) (h l hc))
open Go Cv Go.Proofs
theorem z1u : topFC.ok Try.prog 34 := z5e gok0 fun o _ => by
  unfold zSt
  exact ⟨(),rfl,trivial⟩
theorem zJg (i : PlI) : (qA i).length = i.l.length ∨ qA i = [] := by
  rw [qA]
  split
  · left; rw [PlI.p1,cD,List.length_zip,zJf]; simp
  · exact .inr rfl
theorem z4p {l : List zH} {k : Nat} {o : zH} (h : l[k]? = some o) : zG (l.map zX) k 0 5 = some [D.v (.int .i64 o.id),.v (.int .i64 o.side),.v (.int .i64 o.price),.v (.int .i64 o.qty),.v (.bool o.top)] := elA h (by simp [zX]) rfl
theorem zYe (l : List zH) (h : idxOrdC.cnd l) : nT l := by
  have h : l.length ≤ 1000000 := h
  unfold nT
  simp only [List.length_map]
  refine ⟨0,rfl,fun j => j ≤ l.length ∧ ∀ k < j,∀ x,l[k]? = some x → x.top = false,fun j => l.length - j,⟨by omega,fun k hk => by omega⟩,?_⟩
  rintro j ⟨h3,h4⟩
  refine zT (fun hj => ?_) (fun hj => ?_)
  · obtain ⟨s,hs⟩ := z9 (l := l) (i := j) (by omega)
    refine ⟨⟨by omega,by omega⟩,s.id,s.side,s.price,s.qty,s.top,z4p hs,s,rfl,rfl,rfl,rfl,rfl,trivial,fun _ _ => Cv.cnd.mk (fun e => ?_) (fun e => ?_)⟩
    · rw [topI,mR hs e h4]; (repeat' (first|exact rfl|exact trivial|assumption|apply And.intro|refine fun (_:Unit) (_:True)=>?_|refine Exists.intro () ?_|omega|(dsimp only;omega)))
    · refine ⟨j + 1,by rw [w64 (by omega)]; rfl,⟨by omega,fun k hk x hx => ?_⟩,by (first | omega | (dsimp only; omega)),by (repeat' (first|exact trivial|exact rfl|apply And.intro))⟩
      rcases Nat.lt_or_ge k j with hk' | hk'
      · exact h4 k hk' x hx
      · obtain rfl : k = j := by omega
        rw [hs] at hx; cases hx; exact e
  · rw [topI,mB fun k x hx => h4 k (by have := (List.getElem?_eq_some_iff.1 hx).1; omega) x hx]; (repeat' (first|exact rfl|exact trivial|assumption|apply And.intro|refine fun (_:Unit) (_:True)=>?_|refine Exists.intro () ?_|omega|(dsimp only;omega)))
theorem zOm : idxOrdC.ok Try.prog 33 := zSu (gokc z1u gok0) zYe
theorem zUn (i : RsI) (j : Nat) : i.idx (j + 1) = i.idx j ++ if i.out.getD j 0 < i.l.getD j 0 then [j] else [] := by
  rw [RsI.idx,List.range_succ,List.filter_append]
  by_cases h : i.out.getD j 0 < i.l.getD j 0
  · rw [if_pos h,List.filter_cons_of_pos (by simpa using h)]; rfl
  · rw [if_neg h,List.filter_cons_of_neg (by simpa using h)]; rfl
theorem z6y (i : RsI) {k n : Nat} (h : n ∈ i.idx k) : n < k := by
  have := (List.mem_filter.1 h).1
  exact List.mem_range.1 this
theorem zOe (i : RsI) (k : Nat) : (i.idx k).length ≤ k := by
  have := List.length_filter_le (fun n => decide (i.out.getD n 0 < i.l.getD n 0)) (List.range k)
  rw [List.length_range] at this
  exact this
theorem zHo : ∀ (z : List (Nat × Int)) (o : List Int),(z.foldl (fun o y => o.set y.1 (IntKind.i64.wrap (o.getD y.1 0 + y.2))) o).length = o.length
  | [],_ => rfl
  | y :: z,o => by rw [List.foldl_cons,zHo z,List.length_set]
theorem z9u (i : RsI) (h : restC.cnd i) : zLp i := by
  obtain ⟨hl,ho,hq,hle,hb⟩ : i.ok := h
  unfold zLp
  simp only [yU,List.length_map]
  have hil : ∀ j,(i.left j).length = (i.idx j).length := fun j => List.length_map _
  refine ⟨0,by (first|exact rfl|exact trivial),by (first|exact rfl|exact trivial),by (first|exact rfl|exact trivial),fun j => j ≤ i.l.length,fun j => i.l.length - j,Nat.zero_le _,fun j hj => zT (fun c => ?_) (fun c => ?_)⟩
  · have hj' : j < i.l.length := by omega
    obtain ⟨n,hn⟩ := z9 (l := i.l) (i := j) hj'
    obtain ⟨o,hoo⟩ := z9 (l := i.out) (i := j) (by omega)
    have bj := hb j
    rw [zU hn,zU hoo] at bj
    have is := zUn i j
    rw [zU hn,zU hoo] at is
    have il := zOe i j
    refine ⟨⟨by omega,by omega⟩,n,elI hn,⟨by omega,by omega⟩,o,elI hoo,zT (fun a => ?_) (fun a => ?_)⟩
    · rw [if_pos (by omega)] at is
      refine ⟨⟨by omega,by omega⟩,n,elI hn,⟨by omega,by omega⟩,o,elI hoo,by rw [hil]; omega,by omega,j + 1,wjn (by omega),?_,?_,hj',by dsimp only;omega,by (repeat' (first|exact trivial|exact rfl|apply And.intro))⟩
      · rw [w64 (by omega),RsI.left,is,List.map_append]
        simp [iE,RsI.left,hn,hoo]
      · rw [is]; simp [iE]
    · rw [if_neg (by omega),List.append_nil] at is
      exact ⟨j + 1,wjn (by omega),by rw [RsI.left,is]; rfl,by rw [is],hj',by dsimp only;omega,by (repeat' (first|exact trivial|exact rfl|apply And.intro))⟩
  have hje : j = i.l.length := by omega
  subst hje
  have il := zOe i i.l.length
  refine ⟨⟨i.left i.l.length,i.least,i.q⟩,rfl,rfl,rfl,⟨by dsimp only; rw [hil]; omega,hq,hle⟩,fun _ _ => ?_⟩
  have epl : qA ⟨i.left i.l.length,i.least,i.q⟩ = i.pl := rfl
  rw [epl]
  have hpl : i.pl.length ≤ (i.idx i.l.length).length := by
    rcases zJg ⟨i.left i.l.length,i.least,i.q⟩ with e | e
    · rw [epl] at e; rw [e]; dsimp only; rw [hil]; exact Nat.le_refl _
    · rw [epl] at e; rw [e]; exact Nat.zero_le _
  have hal : ∀ k,(i.add k).length = i.out.length := fun k => zHo _ _
  refine ⟨0,by (first|exact rfl|exact trivial),by (first|exact rfl|exact trivial),fun k => k ≤ i.pl.length,fun k => i.pl.length - k,Nat.zero_le _,fun k hk => zT (fun c => ?_) (fun c => ?_)⟩
  · have hk' : k < i.pl.length := by omega
    obtain ⟨x,hx⟩ := z9 (l := i.pl) (i := k) hk'
    obtain ⟨n,hn⟩ := z9 (l := i.idx i.l.length) (i := k) (by omega)
    have hnl := z6y i (List.mem_of_getElem? hn)
    obtain ⟨y,hy⟩ := z9 (l := i.add k) (i := n) (by rw [hal]; omega)
    have ea : i.add (k + 1) = (i.add k).set n (IntKind.i64.wrap (y + x)) := by
      have hz : ((i.idx i.l.length).zip i.pl)[k]? = some (n,x) := by rw [List.getElem?_zip_eq_some]; exact ⟨hn,hx⟩
      have ey : (i.add k).getD n 0 = y := zU hy
      rw [RsI.add,List.take_add_one,hz,List.foldl_append]
      show (i.add k).set n (IntKind.i64.wrap ((i.add k).getD n 0 + x)) = _
      rw [ey]
    have hnm : ((i.idx i.l.length).map fun (n : Nat) => (n : Int))[k]? = some (n : Int) := by rw [List.getElem?_map,hn]; rfl
    rw [hal]
    refine ⟨⟨by omega,by omega⟩,x,elI hx,⟨by omega,by omega⟩,n,elI hnm,⟨by omega,by omega⟩,y,elI hy,⟨by omega,by omega⟩,by omega,k + 1,wjn (by omega),?_,hk',by dsimp only;omega,by (repeat' (first|exact trivial|exact rfl|apply And.intro))⟩
    rw [ea,Int.toNat_natCast,zDl hy]
  · have hke : k = i.pl.length := by omega
    subst hke
    exact ⟨(),rfl,trivial⟩
theorem zLo : restC.ok Try.prog 58 := z7l (gokc zVw gok0) z9u
open Go Cv Go.Proofs
structure PsI where
  l : List Int
  top : Int
  most : Int
  least : Int
  q : Int
def PsI.first (i : PsI) : Int := min (min (i.l.getD i.top.toNat 0) i.most) i.q
def PsI.rs (i : PsI) : RsI := if 0 ≤ i.top ∧ i.top < i.l.length then ⟨i.l,(List.replicate i.l.length 0).set i.top.toNat i.first,i.least,i.q - i.first⟩ else ⟨i.l,List.replicate i.l.length 0,i.least,i.q⟩
def cW (i : PsI) : List Int := if yI i.l i.q = true ∧ 1 ≤ i.least ∧ 0 ≤ i.most then vX i.rs else []
def proC : Con := con1 PsI (fun i => [iV i.l,zF i.top,zF i.most,zF i.least,zF i.q]) (fun _ => []) (fun i => i.l.length ≤ 1000000 ∧ yN i.q ∧ yN i.least ∧ yN i.most) (fun _ => .own 0) (fun i => [.own 2 1 (iE (cW i))])
structure SpI where
  l : List Int
  part : Int
  least : Int
  q : Int
def SpI.rs (i : SpI) : RsI := ⟨i.l,jD i.l (i.q * i.part / 100),i.least,i.q - i.q * i.part / 100⟩
def cP (i : SpI) : List Int := if yI i.l i.q = true ∧ 0 ≤ i.part ∧ i.part ≤ 100 ∧ 1 ≤ i.least then vX i.rs else []
def splC : Con := con1 SpI (fun i => [iV i.l,zF i.part,zF i.least,zF i.q]) (fun _ => []) (fun i => i.l.length ≤ 1000000 ∧ yN i.q ∧ yN i.least ∧ yN i.part) (fun _ => .own 0) (fun i => [.own 2 1 (iE (cP i))])
open Go Cv Go.Proofs
@[reducible] def zIl (i : PsI) (o : Unit) : Prop := ∃ (i_2 : RsI),iE i_2.l = iE i.l∧i_2.least = i.least∧i_2.q = i.q∧iE i_2.out = List.replicate (↑(iE i.l).length : Int).toNat [D.v (.int .i64 0)]∧(i_2.l.length ≤ 250∧i_2.out.length = i_2.l.length∧((-9223372036854775808) ≤ i_2.q∧i_2.q ≤ 9223372036854775807)∧((-9223372036854775808) ≤ i_2.least∧i_2.least ≤ 9223372036854775807)∧∀ (n : Nat),0 ≤ i_2.out.getD n 0∧i_2.out.getD n 0 ≤ i_2.l.getD n 0∧i_2.l.getD n (0 : Int) ≤ (1000000 : Int))∧∀ (o : Unit),True→∃ (o : Unit),iE (cW i) = iE (vX i_2)∧True
def z0j (i : PsI) : Prop :=
  ∃ (i_1 : LqI),iE i_1.l = iE i.l∧i_1.q = i.q∧(i_1.l.length ≤ (1000000 : Nat)∧(-9223372036854775808 : Int) ≤ i_1.q∧i_1.q ≤ 9223372036854775807)∧∀ (o : Unit),True→cnd (!yI i_1.l i_1.q) (∃ (o : Unit),iE (cW i) = []∧True) (cnd (decide (i.least < 1)) (∃ (o : Unit),iE (cW i) = []∧True) (cnd (decide (i.most < 0)) (∃ (o : Unit),iE (cW i) = []∧True) ((0 ≤ (↑(iE i.l).length : Int)∧(↑(iE i.l).length : Int) ≤ (↑(iE i.l).length : Int)∧(↑(iE i.l).length : Int) ≤ 9223372036854775807∧(↑(8 : Nat) : Int) * (↑(iE i.l).length : Int) ≤ 2 ^ (48 : Nat))∧cnd (decide (i.top ≥ 0)) (cnd (decide (i.top < (↑(iE i.l).length : Int))) ((0 ≤ i.top∧i.top < (↑(iE i.l).length : Int))∧∃ (n : Int),zG (iE i.l) i.top.toNat 0 1 = some [D.v (.int .i64 n)]∧(0 ≤ i.top∧i.top < (↑(List.replicate (↑(iE i.l).length : Int).toNat [D.v (.int .i64 0)]).length : Int))∧i.top.toNat < (List.replicate (↑(iE i.l).length : Int).toNat [D.v (.int .i64 0)]).length∧(0 ≤ i.top∧i.top < (↑(zK (List.replicate (↑(iE i.l).length : Int).toNat [D.v (.int .i64 0)]) i.top.toNat 0 [D.v (.int .i64 (min (min n i.most) i.q))]).length : Int))∧∃ (n_1 : Int),zG (zK (List.replicate (↑(iE i.l).length : Int).toNat [D.v (.int .i64 0)]) i.top.toNat 0 [D.v (.int .i64 (min (min n i.most) i.q))]) i.top.toNat 0 1 = some [D.v (.int .i64 n_1)]∧∃ (i_2 : RsI),iE i_2.l = iE i.l∧i_2.least = i.least∧i_2.q = IntKind.i64.wrap (i.q - n_1)∧iE i_2.out = zK (List.replicate (↑(iE i.l).length : Int).toNat [D.v (.int .i64 0)]) i.top.toNat 0 [D.v (.int .i64 (min (min n i.most) i.q))]∧(i_2.l.length ≤ 250∧i_2.out.length = i_2.l.length∧((-9223372036854775808) ≤ i_2.q∧i_2.q ≤ 9223372036854775807)∧((-9223372036854775808) ≤ i_2.least∧i_2.least ≤ 9223372036854775807)∧∀ (n : Nat),0 ≤ i_2.out.getD n 0∧i_2.out.getD n 0 ≤ i_2.l.getD n 0∧i_2.l.getD n (0 : Int) ≤ (1000000 : Int))∧∀ (o : Unit),True→∃ (o : Unit),iE (cW i) = iE (vX i_2)∧True) (zIl i o)) (zIl i o))))
theorem z9t (i : PsI) : z0j i = walk Try.prog ([(57,rightC),(58,restC)]) 0 ([]) ([]) [] Try.f35 (Try.f35.body.getD .skip) (proC.pat i) (proC.pre i) (proC.alts i) := by kernel_rfl
theorem yAw (hG : GOk Try.prog ([(57,rightC),(58,restC)])) (h : ∀ (i : PsI),proC.cnd i → z0j i) : proC.ok Try.prog 35 := zE mixed ([(57,rightC),(58,restC)]) hG 0 (fun (i : PsI) => []) (fun (i : PsI) => []) [] Try.func35 (by kernel_rfl) (by kernel_rfl) (by kernel_rfl) (fun _ => by kernel_rfl) (fun (i : PsI) hc => Eq.mp (z9t i) (h i hc))
def z2k (i : SpI) : Prop :=
  ∃ (i_1 : LqI),iE i_1.l = iE i.l∧i_1.q = i.q∧(i_1.l.length ≤ (1000000 : Nat)∧(-9223372036854775808 : Int) ≤ i_1.q∧i_1.q ≤ 9223372036854775807)∧∀ (o : Unit),True→cnd (!yI i_1.l i_1.q) (∃ (o : Unit),iE (cP i) = []∧True) (cnd (decide (i.part < 0)) (∃ (o : Unit),iE (cP i) = []∧True) (cnd (decide (i.part > 100)) (∃ (o : Unit),iE (cP i) = []∧True) (cnd (decide (i.least < 1)) (∃ (o : Unit),iE (cP i) = []∧True) (∃ (i_2 : ShI),i_2.a = i.q∧i_2.b = i.part∧i_2.c = 100∧(0 ≤ i_2.a∧i_2.a ≤ (2000000000 : Int)∧(0 : Int) ≤ i_2.b∧i_2.b ≤ (2000000000 : Int)∧(1 : Int) ≤ i_2.c∧i_2.c ≤ 2000000000)∧∀ (o : Unit),True→∃ (i_3 : LqI),iE i_3.l = iE i.l∧i_3.q = i_2.a * i_2.b / i_2.c∧(i_3.l.length ≤ (1000000 : Nat)∧(-9223372036854775808 : Int) ≤ i_3.q∧i_3.q ≤ 9223372036854775807)∧∀ (o : Unit),True→∃ (i_4 : RsI),iE i_4.l = iE i.l∧i_4.least = i.least∧i_4.q = IntKind.i64.wrap (i.q - i_2.a * i_2.b / i_2.c)∧iE i_4.out = iE (jD i_3.l i_3.q)∧(i_4.l.length ≤ 250∧i_4.out.length = i_4.l.length∧((-9223372036854775808) ≤ i_4.q∧i_4.q ≤ 9223372036854775807)∧((-9223372036854775808) ≤ i_4.least∧i_4.least ≤ 9223372036854775807)∧∀ (n : Nat),0 ≤ i_4.out.getD n 0∧i_4.out.getD n 0 ≤ i_4.l.getD n 0∧i_4.l.getD n (0 : Int) ≤ (1000000 : Int))∧∀ (o : Unit),True→∃ (o : Unit),iE (cP i) = iE (vX i_4)∧True))))
theorem z9g (i : SpI) : z2k i = walk Try.prog ([(57,rightC),(59,ishareC),(32,fifoC),(58,restC)]) 0 ([]) ([]) [] Try.f36 (Try.f36.body.getD .skip) (splC.pat i) (splC.pre i) (splC.alts i) := by kernel_rfl
theorem yAv (hG : GOk Try.prog ([(57,rightC),(59,ishareC),(32,fifoC),(58,restC)])) (h : ∀ (i : SpI),splC.cnd i → z2k i) : splC.ok Try.prog 36 := zE mixed ([(57,rightC),(59,ishareC),(32,fifoC),(58,restC)]) hG 0 (fun (i : SpI) => []) (fun (i : SpI) => []) [] Try.func36 (by kernel_rfl) (by kernel_rfl) (by kernel_rfl) (fun _ => by kernel_rfl) (fun (i : SpI) hc => Eq.mp (z9g i) (h i hc))
open Go Cv Go.Proofs
theorem zWe {l : List Int} {q r : Int} (h : yI l q = true) (h0 : 0 ≤ r) (h1 : r ≤ q) : yI l r = true := by
  obtain ⟨a,b,c,d⟩ := qB h
  have e : (l.all fun n => decide (1 ≤ n) && decide (n ≤ 1000000)) = true := by
    rw [List.all_eq_true]; intro x hx; simpa using c x hx
  rw [yI,e,decide_eq_true a,decide_eq_true h0,decide_eq_true (show r ≤ l.sum by omega)]; rfl
theorem getD_none {l : List Int} {n : Nat} (h : l[n]? = none) : l.getD n 0 = 0 := by rw [List.getD_eq_getElem?_getD,h]; rfl
theorem cC {l : List Int} {q : Int} (h : yI l q = true) (n : Nat) : 0 ≤ l.getD n 0 ∧ l.getD n 0 ≤ 1000000 := by
  cases hn : l[n]? with
  | none => rw [getD_none hn]; decide
  | some x => rw [zU hn]; have := (qB h).2.2.1 x (List.mem_of_getElem? hn); omega
theorem zQb {l : List Int} {q : Int} (h : yI l q = true) (n : Nat) : 0 ≤ (jD l q).getD n 0 ∧ (jD l q).getD n 0 ≤ l.getD n 0 := by
  rw [jD,if_pos h]
  obtain ⟨a,b,c,d⟩ := qB h
  cases hn : l[n]? with
  | none =>
    have : (xW l q)[n]? = none := by rw [List.getElem?_eq_none_iff,gX]; exact List.getElem?_eq_none_iff.1 hn
    rw [getD_none hn,getD_none this]; decide
  | some x =>
    rw [zU hn,zU (sZ l q n x hn)]
    have := mS l q n b (fun y hy => by have := c y hy; omega)
    have := c x (List.mem_of_getElem? hn)
    omega
theorem yBa (i : SpI) (h : splC.cnd i) : z2k i := by
  obtain ⟨hl,hq,hle,hpa⟩ : i.l.length ≤ 1000000 ∧ yN i.q ∧ yN i.least ∧ yN i.part := h
  unfold z2k
  have no (e : ¬ (yI i.l i.q = true ∧ 0 ≤ i.part ∧ i.part ≤ 100 ∧ 1 ≤ i.least)) : cP i = [] := by rw [cP,if_neg e]
  refine ⟨⟨i.l,i.q⟩,rfl,rfl,⟨hl,hq⟩,fun _ _ => Cv.cnd.mk (fun c => ?_) (fun c => zT (fun d => ?_) (fun d => zT (fun e => ?_) (fun e => zT (fun f => ?_) (fun f => ?_))))⟩
  · have c : yI i.l i.q = false := by simpa using c
    exact ⟨(),by rw [no (by rw [c]; simp)]; rfl,trivial⟩
  · exact ⟨(),by rw [no (by omega)]; rfl,trivial⟩
  · exact ⟨(),by rw [no (by omega)]; rfl,trivial⟩
  · exact ⟨(),by rw [no (by omega)]; rfl,trivial⟩
  have c : yI i.l i.q = true := by simpa using c
  obtain ⟨h1,h2,h3,h4⟩ := qB c
  have hq2 := pQ c
  have m0 : 0 ≤ i.q * i.part := Int.mul_nonneg h2 (by omega)
  have m1 : i.q * i.part ≤ i.q * 100 := Int.mul_le_mul_of_nonneg_left (by omega) h2
  have hr := zWe (r := i.q * i.part / 100) c (by omega) (by omega)
  have es : cP i = vX i.rs := by rw [cP,if_pos ⟨c,by omega,by omega,by omega⟩]
  refine ⟨⟨i.q,i.part,100⟩,rfl,rfl,rfl,⟨by dsimp only;omega,by dsimp only;omega,by dsimp only;omega,by dsimp only;omega,by dsimp only;omega,by dsimp only;omega⟩,fun _ _ => ⟨⟨i.l,i.q * i.part / 100⟩,rfl,rfl,⟨hl,by dsimp only;omega,by dsimp only;omega⟩,fun _ _ => ⟨i.rs,rfl,rfl,?_,rfl,⟨h1,?_,?_,hle,?_⟩,fun _ _ => ⟨(),by rw [es],trivial⟩⟩⟩⟩
  · rw [w64 (by dsimp only;omega)]; rfl
  · show (jD i.l (i.q * i.part / 100)).length = i.l.length
    rw [jD,if_pos hr,gX]
  · show yN (i.q - i.q * i.part / 100)
    exact ⟨by omega,by omega⟩
  · intro n
    have a := zQb hr n
    have b := cC c n
    exact ⟨a.1,a.2,b.2⟩
theorem z6g : splC.ok Try.prog 36 := yAv (gokc aJ (gokc eX (gokc zNz (gokc zLo gok0)))) yBa
theorem z4o (n : Nat) : List.replicate n [D.v (.int .i64 0)] = iE (List.replicate n 0) := by simp [iE]
theorem zEo (n k : Nat) : (List.replicate n (0 : Int)).getD k 0 = 0 := by
  rw [List.getD_eq_getElem?_getD,List.getElem?_replicate]; split <;> rfl
theorem zUk (n t k : Nat) (x : Int) : ((List.replicate n (0 : Int)).set t x).getD k 0 = x ∧ k = t ∨ ((List.replicate n (0 : Int)).set t x).getD k 0 = 0 := by
  rw [List.getD_eq_getElem?_getD,List.getElem?_set]
  split
  · rename_i e
    split
    · exact .inl ⟨rfl,e.symm⟩
    · exact .inr rfl
  · right; rw [← List.getD_eq_getElem?_getD]; exact zEo n k
theorem yBn (i : PsI) (h : proC.cnd i) : z0j i := by
  obtain ⟨hl,hq,hle,hmo⟩ : i.l.length ≤ 1000000 ∧ yN i.q ∧ yN i.least ∧ yN i.most := h
  unfold z0j zIl
  have no (e : ¬ (yI i.l i.q = true ∧ 1 ≤ i.least ∧ 0 ≤ i.most)) : cW i = [] := by rw [cW,if_neg e]
  refine ⟨⟨i.l,i.q⟩,rfl,rfl,⟨hl,hq⟩,fun _ _ => Cv.cnd.mk (fun c => ?_) (fun c => zT (fun d => ?_) (fun d => zT (fun e => ?_) (fun e => ?_)))⟩
  · have c : yI i.l i.q = false := by simpa using c
    exact ⟨(),by rw [no (by rw [c]; simp)]; rfl,trivial⟩
  · exact ⟨(),by rw [no (by omega)]; rfl,trivial⟩
  · exact ⟨(),by rw [no (by omega)]; rfl,trivial⟩
  have c : yI i.l i.q = true := by simpa using c
  obtain ⟨h1,h2,h3,h4⟩ := qB c
  have hq2 := pQ c
  have es : cW i = vX i.rs := by rw [cW,if_pos ⟨c,by omega,by omega⟩]
  simp only [yU,Int.toNat_natCast,z4o]
  have out (hn : ¬ (0 ≤ i.top ∧ i.top < (i.l.length : Int))) : i.rs = ⟨i.l,List.replicate i.l.length 0,i.least,i.q⟩ := by rw [PsI.rs,if_neg hn]
  have ok0 : RsI.ok ⟨i.l,List.replicate i.l.length 0,i.least,i.q⟩ := ⟨h1,by simp,hq,hle,fun n => by
    have := cC c n
    dsimp only
    rw [zEo]; omega⟩
  refine ⟨⟨by omega,by omega,by omega,by omega⟩,zT (fun a => zT (fun b => ?_) (fun b => ?_)) (fun a => ?_)⟩
  · obtain ⟨n,hn⟩ := z9 (l := i.l) (i := i.top.toNat) (by omega)
    have hf : i.first = min (min n i.most) i.q := by rw [PsI.first,zU hn]
    have bn := h3 n (List.mem_of_getElem? hn)
    have hr0 : (List.replicate i.l.length (0 : Int))[i.top.toNat]? = some 0 := by rw [List.getElem?_replicate,if_pos (by omega)]
    have ers : i.rs = ⟨i.l,(List.replicate i.l.length 0).set i.top.toNat i.first,i.least,i.q - i.first⟩ := by rw [PsI.rs,if_pos ⟨by omega,by omega⟩]
    refine ⟨⟨by omega,by omega⟩,n,elI hn,?_⟩
    rw [zDl hr0,← hf]
    simp only [yU,List.length_set,List.length_replicate]
    refine ⟨⟨by omega,by omega⟩,by omega,⟨by omega,by omega⟩,i.first,elI (kV hr0),?_⟩
    rw [w64 (x := i.q - i.first) (by omega)]
    refine ⟨⟨i.l,(List.replicate i.l.length 0).set i.top.toNat i.first,i.least,i.q - i.first⟩,rfl,rfl,rfl,rfl,⟨h1,by simp,⟨by dsimp only;omega,by dsimp only;omega⟩,hle,fun k => ?_⟩,fun _ _ => ⟨(),by rw [es,ers],trivial⟩⟩
    have bk := cC c k
    dsimp only
    rcases zUk i.l.length i.top.toNat k i.first with ⟨g,gk⟩ | g
    · rw [g,gk,zU hn]; omega
    · rw [g]; omega
  · refine ⟨⟨i.l,List.replicate i.l.length 0,i.least,i.q⟩,rfl,rfl,rfl,rfl,ok0,fun _ _ => ⟨(),by rw [es,out (by omega)],trivial⟩⟩
  · refine ⟨⟨i.l,List.replicate i.l.length 0,i.least,i.q⟩,rfl,rfl,rfl,rfl,ok0,fun _ _ => ⟨(),by rw [es,out (by omega)],trivial⟩⟩
theorem z7h : proC.ok Try.prog 35 := yAw (gokc aJ (gokc zLo gok0)) yBn
open Go Cv Go.Proofs
structure AlI where
  p : Prd
  l : List zH
  q : Int
def AlI.qs (i : AlI) : List Int := i.l.map (·.qty)
def xA (i : AlI) : List Int := if i.p.rule = 1 then jD i.qs i.q else if i.p.rule = 2 then cW ⟨i.qs,topI i.l,i.p.top,i.p.least,i.q⟩ else if i.p.rule = 3 then cP ⟨i.qs,i.p.part,i.p.least,i.q⟩ else []
def allocC : Con := con1 AlI (fun i => [prdV i.p,roV 5 (i.l.map zX),zF i.q]) (fun _ => []) (fun i => i.l.length ≤ 1000 ∧ yN i.q ∧ yN i.p.least ∧ yN i.p.top ∧ yN i.p.part) (fun _ => .own 0) (fun i => [.own 2 1 (iE (xA i))])
def zSb (i : AlI) : List SAnn := [{ ι := Nat,slots := fun j => [(7,.own 0),(13,zF j)],rows := fun j => [.own 2 1 (iE (i.qs.take j))] }]
open Go Cv Go.Proofs
@[reducible] def zGy (i : AlI) : AObj := Sx.AObj.cells [V.d (D.v (Value.string (sb i.p.code))),V.own (0 : Nat),V.d (D.v (.int .i64 i.p.tick)),V.d (D.v (.int .i64 i.p.low)),V.d (D.v (.int .i64 i.p.high)),V.d (D.v (.int .i64 i.p.wide)),V.d (D.v (.int .i64 i.p.rule)),V.d (D.v (.int .i64 i.p.top)),V.d (D.v (.int .i64 i.p.least)),V.d (D.v (.int .i64 i.p.part)),V.own ((0 : Nat) + (1 : Nat))] (25 : Nat)
def zAw (i : AlI) : Prop :=
  ∃ (i0 : Nat),(↑i0 : Int) = 0∧iE (List.take i0 i.qs) = []∧∃ (I : Nat→Prop),∃ (μ : Nat→Nat),I i0∧∀ (i_1 : Nat),I i_1→cnd (decide ((↑i_1 : Int) < (↑(List.map zX i.l).length : Int))) ((0 ≤ (↑i_1 : Int)∧(↑i_1 : Int) < (↑(List.map zX i.l).length : Int))∧∃ (n : Int),∃ (n_1 : Int),∃ (n_2 : Int),∃ (n_3 : Int),∃ (b : Bool),zG (List.map zX i.l) (↑i_1 : Int).toNat 0 5 = some [D.v (.int .i64 n),D.v (.int .i64 n_1),D.v (.int .i64 n_2),D.v (.int .i64 n_3),D.v (.bool b)]∧((iE (List.take i_1 i.qs)).length + 1) * (8 : Nat) ≤ (70368744177664 : Nat)∧∃ (i' : Nat),(↑i' : Int) = IntKind.i64.wrap ((↑i_1 : Int) + 1)∧iE (List.take i' i.qs) = iE (List.take i_1 i.qs) ++ [[D.v (.int .i64 n_3)]]∧I i'∧μ i' < μ i_1∧zGy i = zGy i∧AObj.fro 1 (iE i.p.settle) = AObj.fro 1 (iE i.p.settle)∧AObj.fro 1 (iE i.p.months) = AObj.fro 1 (iE i.p.months)) (cnd (i.p.rule == 1) (∃ (i_2 : LqI),iE i_2.l = iE (List.take i_1 i.qs)∧i_2.q = i.q∧(i_2.l.length ≤ (1000000 : Nat)∧(-9223372036854775808 : Int) ≤ i_2.q∧i_2.q ≤ 9223372036854775807)∧∀ (o : Unit),True→∃ (o : Unit),iE (xA i) = iE (jD i_2.l i_2.q)∧True) (cnd (i.p.rule == 2) (∃ (i_2 : List zH),List.map zX i_2 = List.map zX i.l∧i_2.length ≤ 1000000∧∀ (o : Unit),True→∃ (i_3 : PsI),iE i_3.l = iE (List.take i_1 i.qs)∧i_3.top = topI i_2∧i_3.most = i.p.top∧i_3.least = i.p.least∧i_3.q = i.q∧(i_3.l.length ≤ 1000000∧((-9223372036854775808) ≤ i_3.q∧i_3.q ≤ 9223372036854775807)∧((-9223372036854775808) ≤ i_3.least∧i_3.least ≤ 9223372036854775807)∧(-9223372036854775808) ≤ i_3.most∧i_3.most ≤ 9223372036854775807)∧∀ (o : Unit),True→∃ (o : Unit),iE (xA i) = iE (cW i_3)∧True) (cnd (i.p.rule == 3) (∃ (i_2 : SpI),iE i_2.l = iE (List.take i_1 i.qs)∧i_2.part = i.p.part∧i_2.least = i.p.least∧i_2.q = i.q∧(i_2.l.length ≤ 1000000∧((-9223372036854775808) ≤ i_2.q∧i_2.q ≤ 9223372036854775807)∧((-9223372036854775808) ≤ i_2.least∧i_2.least ≤ 9223372036854775807)∧(-9223372036854775808) ≤ i_2.part∧i_2.part ≤ 9223372036854775807)∧∀ (o : Unit),True→∃ (o : Unit),iE (xA i) = iE (cP i_2)∧True) (∃ (o : Unit),iE (xA i) = []∧True))))
theorem z1o (i : AlI) : zAw i = walk Try.prog ([(32,fifoC),(33,idxOrdC),(35,proC),(36,splC)]) 0 ([]) (zSb i) [] Try.f14 (Try.f14.body.getD .skip) (allocC.pat i) (allocC.pre i) (allocC.alts i) := by kernel_rfl
theorem z0p (hG : GOk Try.prog ([(32,fifoC),(33,idxOrdC),(35,proC),(36,splC)])) (h : ∀ (i : AlI),allocC.cnd i → zAw i) : allocC.ok Try.prog 14 := zE mixed ([(32,fifoC),(33,idxOrdC),(35,proC),(36,splC)]) hG 0 (fun (i : AlI) => []) (fun (i : AlI) => zSb i) [] Try.func14 (by kernel_rfl) (by kernel_rfl) (by kernel_rfl) (fun _ => by kernel_rfl) (fun (i : AlI) hc => Eq.mp (z1o i) (h i hc))
open Go Cv Go.Proofs
theorem z5t (i : AlI) (h : allocC.cnd i) : zAw i := by
  obtain ⟨hl,hq,hle,hto,hpa⟩ : i.l.length ≤ 1000 ∧ yN i.q ∧ yN i.p.least ∧ yN i.p.top ∧ yN i.p.part := h
  have hql : i.qs.length = i.l.length := by simp [AlI.qs]
  unfold zAw
  simp only [yU,List.length_map]
  refine ⟨0,by (first|exact rfl|exact trivial),by (first|exact rfl|exact trivial),fun j => j ≤ i.l.length,fun j => i.l.length - j,Nat.zero_le _,fun j hj => zT (fun c => ?_) (fun c => ?_)⟩
  · have hj' : j < i.l.length := by omega
    obtain ⟨o,ho⟩ := z9 (l := i.l) (i := j) hj'
    have hqo : i.qs[j]? = some o.qty := by rw [AlI.qs,List.getElem?_map,ho]; rfl
    refine ⟨⟨by omega,by omega⟩,o.id,o.side,o.price,o.qty,o.top,z4p ho,by rw [List.length_take]; omega,j + 1,wjn (by omega),?_,hj',by dsimp only;omega,by (repeat' (first|exact trivial|exact rfl|apply And.intro))⟩
    rw [List.take_add_one,hqo]; simp [iE]
  have hje : j = i.l.length := by omega
  subst hje
  rw [List.take_of_length_le (l := i.qs) (by omega)]
  refine Cv.cnd.mk (fun a => ?_) (fun a => Cv.cnd.mk (fun b => ?_) (fun b => Cv.cnd.mk (fun d => ?_) (fun d => ?_)))
  · have a : i.p.rule = 1 := by simpa using a
    exact ⟨⟨i.qs,i.q⟩,rfl,rfl,⟨by dsimp only;omega,hq⟩,fun _ _ => ⟨(),by rw [xA,if_pos a],trivial⟩⟩
  · have a : ¬ i.p.rule = 1 := by simpa using a
    have b : i.p.rule = 2 := by simpa using b
    exact ⟨i.l,rfl,by omega,fun _ _ => ⟨⟨i.qs,topI i.l,i.p.top,i.p.least,i.q⟩,rfl,rfl,rfl,rfl,rfl,⟨by dsimp only;omega,hq,hle,hto⟩,fun _ _ => ⟨(),by rw [xA,if_neg a,if_pos b],trivial⟩⟩⟩
  · have a : ¬ i.p.rule = 1 := by simpa using a
    have b : ¬ i.p.rule = 2 := by simpa using b
    have d : i.p.rule = 3 := by simpa using d
    exact ⟨⟨i.qs,i.p.part,i.p.least,i.q⟩,rfl,rfl,rfl,rfl,⟨by dsimp only;omega,hq,hle,hpa⟩,fun _ _ => ⟨(),by rw [xA,if_neg a,if_neg b,if_pos d],trivial⟩⟩
  · have a : ¬ i.p.rule = 1 := by simpa using a
    have b : ¬ i.p.rule = 2 := by simpa using b
    have d : ¬ i.p.rule = 3 := by simpa using d
    exact ⟨(),by rw [xA,if_neg a,if_neg b,if_neg d]; rfl,trivial⟩
theorem alloc_ok : allocC.ok Try.prog 14 := z0p (gokc zNz (gokc zOm (gokc z7h (gokc z6g gok0)))) z5t
open Go Cv Go.Proofs
def kK (l : List Nat) (t : Int) : Int := match l with
  | [] => t
  | k :: _ => k
def x0 : List Nat → Int → Int
  | [],p => p
  | k :: l,_ => x0 l k
structure zCy (s : Slot) (n k : Nat) (p t : Int) : Prop where
  used : s.used = true
  no : s.n = k
  queue : s.queue = n
  ahead : s.ahead = p
  back : s.back = t
  q1 : 0 ≤ s.qty
  q2 : s.qty ≤ 1000000
def seg (sl : List Slot) (n : Nat) : Int → List Nat → Int → Prop
  | _,[],_ => True
  | p,k :: l,t => (∃ s,sl[k]? = some s ∧ zCy s n k p (kK l t)) ∧ seg sl n k l t
theorem mG (l1 l2 : List Nat) (t : Int) : kK (l1 ++ l2) t = kK l1 (kK l2 t) := by cases l1 <;> rfl
theorem wW : ∀ (l1 l2 : List Nat) (p : Int),x0 (l1 ++ l2) p = x0 l2 (x0 l1 p)
  | [],l2,p => rfl
  | k :: l1,l2,p => wW l1 l2 k
theorem dO {sl : List Slot} {n : Nat} : ∀ {l1 l2 : List Nat} {p t : Int},seg sl n p (l1 ++ l2) t ↔ seg sl n p l1 (kK l2 t) ∧ seg sl n (x0 l1 p) l2 t
  | [],l2,p,t => by simp [seg,x0]
  | k :: l1,l2,p,t => by
    rw [List.cons_append,seg,seg,mG,dO,x0,and_assoc]
theorem zLw {sl : List Slot} {n k : Nat} : ∀ {l : List Nat} {p t : Int},seg sl n p l t → k ∈ l → ∃ s p' t',sl[k]? = some s ∧ zCy s n k p' t'
  | j :: l,p,t,h,hk => by
    rcases List.mem_cons.1 hk with rfl | hk
    · obtain ⟨⟨s,h1,h2⟩,_⟩ := h
      exact ⟨s,_,_,h1,h2⟩
    · exact zLw h.2 hk
theorem kE {sl sl' : List Slot} {n : Nat} : ∀ {l : List Nat} {p t : Int},(∀ k ∈ l,sl'[k]? = sl[k]?) → seg sl n p l t → seg sl' n p l t
  | [],p,t,_,h => h
  | k :: l,p,t,e,⟨⟨s,h1,h2⟩,h3⟩ => ⟨⟨s,by rw [e k List.mem_cons_self]; exact h1,h2⟩,kE (fun j hj => e j (List.mem_cons_of_mem _ hj)) h3⟩
theorem wA {α : Type} {l : List α} {f : α → α} {i j : Nat} (h : i ≠ j) : (l.modify i f)[j]? = l[j]? := by rw [List.getElem?_modify]; cases l[j]? <;> simp [h]
theorem fJ {α : Type} {l : List α} {f : α → α} {i : Nat} {x : α} (h : l[i]? = some x) : (l.modify i f)[i]? = some (f x) := by rw [List.getElem?_modify,h]; simp
theorem kO {α : Type} {l : List α} {x : α} {i j : Nat} (h : i ≠ j) : (l.set i x)[j]? = l[j]? := by rw [List.getElem?_set,if_neg h]
theorem jX {α : Type} {l : List α} {x : α} {i : Nat} (h : i < l.length) : (l.set i x)[i]? = some x := by rw [List.getElem?_set,if_pos rfl,if_pos h]
theorem wO {α : Type} {Q : List α} {n m : Nat} {x y : α} (h : (Q.set n x)[m]? = some y) : (m = n ∧ y = x) ∨ (m ≠ n ∧ Q[m]? = some y) := by
  by_cases e : n = m
  · subst e
    have hn : n < Q.length := by
      have := (List.getElem?_eq_some_iff.1 h).1
      simpa using this
    rw [jX hn] at h
    cases h
    exact .inl ⟨rfl,rfl⟩
  · rw [kO e] at h
    exact .inr ⟨fun c => e c.symm,h⟩
theorem zFv {sl : List Slot} {n k : Nat} {l : List Nat} {p t : Int} (t' : Int) (hk : k ∉ l) (h : seg sl n p (l ++ [k]) t) : seg (sl.modify k fun s => { s with back := t' }) n p (l ++ [k]) t' := by
  rw [dO] at h ⊢
  obtain ⟨h1,⟨s,h2,h3⟩,_⟩ := h
  refine ⟨kE (fun j hj => wA (fun e => hk (e ▸ hj))) h1,⟨_,fJ h2,?_⟩,trivial⟩
  exact ⟨h3.used,h3.no,h3.queue,h3.ahead,rfl,h3.q1,h3.q2⟩
theorem zOo {sl : List Slot} {n k : Nat} {l : List Nat} {p t : Int} (p' : Int) (hk : k ∉ l) (h : seg sl n p (k :: l) t) : seg (sl.modify k fun s => { s with ahead := p' }) n p' (k :: l) t := by
  obtain ⟨⟨s,h1,h2⟩,h3⟩ := h
  refine ⟨⟨_,fJ h1,?_⟩,kE (fun j hj => wA (fun e => hk (e ▸ hj))) h3⟩
  exact ⟨h2.used,h2.no,h2.queue,rfl,h2.back,h2.q1,h2.q2⟩
theorem qS (l : List Nat) : l = [] ∨ ∃ (x : List Nat) (j : Nat),l = x ++ [j] ∧ ∀ p : Int,x0 l p = (j : Int) := by
  rcases List.eq_nil_or_concat l with rfl | ⟨x,j,rfl⟩
  · exact .inl rfl
  · exact .inr ⟨x,j,by simp,fun p => by rw [List.concat_eq_append,wW]; rfl⟩
theorem uT (l : List Nat) : x0 l (-1) = -1 ↔ l = [] := by
  rcases qS l with rfl | ⟨x,j,rfl,e⟩
  · simp [x0]
  · rw [e]; simp
theorem l8 (l : List Nat) : kK l (-1) = -1 ↔ l = [] := by
  cases l with
  | nil => simp [kK]
  | cons k l => simp only [kK]; constructor
                · intro h; omega
                · intro h; cases h
theorem fV {α β : Type} {g : α → β} {f : α → α} (h : ∀ x,g (f x) = g x) : ∀ (l : List α) (i : Nat),(l.modify i f).map g = l.map g
  | [],i => by simp
  | a :: l,0 => by simp [h]
  | a :: l,i + 1 => by rw [List.modify_succ_cons,List.map_cons,List.map_cons,fV h l i]
theorem sR : ∀ (m : Nat) {l : List Nat},l.Nodup → (∀ k ∈ l,k < m) → l.length ≤ m
  | 0,[],_,_ => Nat.le_refl 0
  | 0,k :: l,_,h => absurd (h k List.mem_cons_self) (by omega)
  | m + 1,l,hn,h => by
    have := sR m (hn.erase m) fun k hk => by
      have := (hn.mem_erase_iff).1 hk
      have := h k this.2
      omega
    by_cases hm : m ∈ l
    · rw [List.length_erase_of_mem hm] at this; omega
    · rw [List.erase_of_not_mem hm] at this; omega
theorem zMn {f g : Nat → Int} {k : Nat} : ∀ {l : List Nat},l.Nodup → k ∈ l → (∀ j ∈ l,j ≠ k → g j = f j) → (l.map g).sum = (l.map f).sum + (g k - f k)
  | j :: l,hn,hk,h => by
    have hn := List.nodup_cons.1 hn
    rw [List.map_cons,List.map_cons,List.sum_cons,List.sum_cons]
    rcases List.mem_cons.1 hk with rfl | hk
    · have : l.map g = l.map f := List.map_congr_left fun i hi => h i (List.mem_cons_of_mem _ hi) (fun e => hn.1 (e ▸ hi))
      rw [this]; omega
    · have e := h j List.mem_cons_self (fun e => hn.1 (e ▸ hk))
      rw [zMn hn.2 hk (fun i hi => h i (List.mem_cons_of_mem _ hi)),e]
      omega
theorem zXk {f : Nat → Int} {m : Int} : ∀ {l : List Nat},(∀ j ∈ l,0 ≤ f j ∧ f j ≤ m) → 0 ≤ (l.map f).sum ∧ (l.map f).sum ≤ m * l.length
  | [],_ => by simp
  | j :: l,h => by
    have := h j List.mem_cons_self
    have := zXk (l := l) fun i hi => h i (List.mem_cons_of_mem _ hi)
    rw [List.map_cons,List.sum_cons,List.length_cons,Int.natCast_add,Int.mul_add]
    simp only [Int.natCast_one,Int.mul_one]
    omega
def Arena.qsum (a : Arena) (l : List Nat) : Int := (l.map fun k => (a.slotAt k).qty).sum
structure Arena.Wf0 (a : Arena) (Q : List (List Nat)) : Prop where
  len : a.slots.length = 250
  ql : a.queues.length = Q.length
  q : ∀ (n : Nat) (l : List Nat),Q[n]? = some l → a.queues[n]? = some ⟨kK l (-1),x0 l (-1),a.qsum l,l.length⟩
  sg : ∀ (n : Nat) (l : List Nat),Q[n]? = some l → seg a.slots n (-1) l (-1)
  nd : ∀ (n : Nat) (l : List Nat),Q[n]? = some l → l.Nodup
  us : ∀ (k : Nat) (s : Slot),a.slots[k]? = some s → s.used = true → ∃ (n : Nat) (l : List Nat),Q[n]? = some l ∧ k ∈ l
  free : a.free = ((a.slots.map (·.used)).countP (!·) : Nat)
structure Arena.Wf (a : Arena) (Q : List (List Nat)) : Prop extends a.Wf0 Q where
  pos : ∀ (n : Nat) (l : List Nat),Q[n]? = some l → ∀ k ∈ l,1 ≤ (a.slotAt k).qty
theorem Arena.Wf0.mem {a : Arena} {Q : List (List Nat)} (h : a.Wf0 Q) {n k : Nat} {l : List Nat} (hl : Q[n]? = some l) (hk : k ∈ l) : k < 250 ∧ (∃ p t,zCy (a.slotAt k) n k p t) ∧ a.slots[k]? = some (a.slotAt k) := by
  obtain ⟨s,p,t,h1,h2⟩ := zLw (h.sg n l hl) hk
  have e : a.slotAt k = s := zU h1
  have hlt := (List.getElem?_eq_some_iff.1 h1).1
  rw [h.len] at hlt
  exact ⟨hlt,⟨p,t,by rw [e]; exact h2⟩,by rw [e]; exact h1⟩
theorem Arena.Wf0.one {a : Arena} {Q : List (List Nat)} (h : a.Wf0 Q) {n m k : Nat} {l l' : List Nat} (hl : Q[n]? = some l) (hl' : Q[m]? = some l') (hk : k ∈ l) (hk' : k ∈ l') : n = m := by
  obtain ⟨_,⟨_,_,h1⟩,_⟩ := h.mem hl hk
  obtain ⟨_,⟨_,_,h2⟩,_⟩ := h.mem hl' hk'
  have := h1.queue
  have := h2.queue
  omega
theorem Arena.Wf0.short {a : Arena} {Q : List (List Nat)} (h : a.Wf0 Q) {n : Nat} {l : List Nat} (hl : Q[n]? = some l) : l.length ≤ 250 := sR 250 (h.nd n l hl) fun k hk => (h.mem hl hk).1
theorem vP {a a' : Arena} {l : List Nat} (h : ∀ k ∈ l,(a'.slotAt k).qty = (a.slotAt k).qty) : a'.qsum l = a.qsum l := by rw [Arena.qsum,Arena.qsum,List.map_congr_left h]
theorem Arena.Wf0.sum {a : Arena} {Q : List (List Nat)} (h : a.Wf0 Q) {n : Nat} {l : List Nat} (hl : Q[n]? = some l) : 0 ≤ a.qsum l ∧ a.qsum l ≤ 250000000 := by
  have := zXk (f := fun k => (a.slotAt k).qty) (m := 1000000) (l := l) fun j hj => by
    obtain ⟨_,⟨_,_,h1⟩,_⟩ := h.mem hl hj
    exact ⟨h1.q1,h1.q2⟩
  have := h.short hl
  rw [Arena.qsum]
  omega
theorem zAk {sl : List Slot} {n : Nat} : ∀ {l : List Nat} {p : Int},seg sl n p l (-1) → zGg sl (kK l (-1)) l
  | [],p,_ => rfl
  | k :: l,p,⟨⟨s,h1,h2⟩,h3⟩ => by
    refine ⟨rfl,(List.getElem?_eq_some_iff.1 h1).1,?_⟩
    rw [zU h1,h2.back]
    exact zAk h3
theorem Arena.Wf0.ok {a : Arena} {Q : List (List Nat)} (h : a.Wf0 Q) : a.okAt := by
  refine ⟨by rw [h.len]; decide,fun k s hk hu => ?_⟩
  obtain ⟨n,l,hl,hkl⟩ := h.us k s hk hu
  have hQ := (List.getElem?_eq_some_iff.1 hl).1
  have hql := h.ql
  obtain ⟨l1,l2,rfl⟩ := List.append_of_mem hkl
  have hsg := h.sg n _ hl
  have hnd := h.nd n _ hl
  rw [dO] at hsg
  obtain ⟨_,⟨s',h1,h2⟩,_⟩ := hsg
  rw [hk] at h1; cases h1
  have hq := h2.queue
  have hd := List.nodup_append.1 hnd
  have hd2 := List.nodup_cons.1 hd.2.1
  refine ⟨⟨by omega,by omega⟩,h2.q2,?_,?_⟩
  · rw [h2.ahead]
    rcases qS l1 with rfl | ⟨x,j,rfl,e⟩
    · exact .inl rfl
    · have hj : j ∈ x ++ [j] := by simp
      have hjl := (h.mem hl (List.mem_append_left _ hj)).1
      rw [e,h.len]
      refine .inr ⟨by omega,by omega,fun e2 => ?_⟩
      have : j = k := by omega
      exact hd.2.2 j hj k List.mem_cons_self this
  · rw [h2.back]
    cases l2 with
    | nil => exact .inl rfl
    | cons j x =>
      have hjl := (h.mem hl (List.mem_append_right _ (List.mem_cons_of_mem _ List.mem_cons_self))).1
      rw [kK,h.len]
      refine .inr ⟨by omega,by omega,fun e2 => ?_⟩
      have : j = k := by omega
      exact hd2.1 (this ▸ List.mem_cons_self)
theorem Arena.Wf0.open {a : Arena} {Q : List (List Nat)} (h : a.Wf0 Q) : a.openQ.Wf0 (Q ++ [[]]) := by
  have g : ∀ {n : Nat} {l : List Nat},(Q ++ [[]])[n]? = some l → Q[n]? = some l ∨ (n = Q.length ∧ l = []) := by
    intro n l hl
    rw [List.getElem?_append] at hl
    split at hl
    · exact .inl hl
    · rename_i hn
      have := (List.getElem?_eq_some_iff.1 hl).1
      simp only [List.length_singleton] at this
      have e : n - Q.length = 0 := by omega
      rw [e] at hl
      cases hl
      exact .inr ⟨by omega,rfl⟩
  refine ⟨h.len,by simp [Arena.openQ,h.ql],fun n l hl => ?_,fun n l hl => ?_,fun n l hl => ?_,fun k s hk hu => ?_,h.free⟩
  · rcases g hl with hl | ⟨rfl,rfl⟩
    · show (a.queues ++ [vH])[n]? = _
      rw [List.getElem?_append_left (by have := (List.getElem?_eq_some_iff.1 hl).1; have := h.ql; omega)]
      exact h.q n l hl
    · show (a.queues ++ [vH])[_]? = _
      rw [← h.ql,List.getElem?_append_right (Nat.le_refl _),Nat.sub_self]
      rfl
  · rcases g hl with hl | ⟨rfl,rfl⟩
    · exact h.sg n l hl
    · trivial
  · rcases g hl with hl | ⟨rfl,rfl⟩
    · exact h.nd n l hl
    · exact List.nodup_nil
  · obtain ⟨n,l,hl,hkl⟩ := h.us k s hk hu
    exact ⟨n,l,by rw [List.getElem?_append_left (List.getElem?_eq_some_iff.1 hl).1]; exact hl,hkl⟩
theorem Arena.Wf.open {a : Arena} {Q : List (List Nat)} (h : a.Wf Q) : a.openQ.Wf (Q ++ [[]]) := by
  refine ⟨h.toWf0.open,fun n l hl k hk => ?_⟩
  rw [List.getElem?_append] at hl
  split at hl
  · exact h.pos n l hl k hk
  · have := (List.getElem?_eq_some_iff.1 hl).1
    simp only [List.length_singleton] at this
    have e : n - Q.length = 0 := by omega
    rw [e] at hl
    cases hl
    cases hk
theorem rJ {sl sl' : List Slot} {n : Nat} : ∀ {l : List Nat} {p t : Int},(∀ k ∈ l,∀ s,sl[k]? = some s → ∃ s',sl'[k]? = some s' ∧ s'.used = s.used ∧ s'.n = s.n ∧ s'.queue = s.queue ∧ s'.ahead = s.ahead ∧ s'.back = s.back ∧ 0 ≤ s'.qty ∧ s'.qty ≤ 1000000) → seg sl n p l t → seg sl' n p l t
  | [],p,t,_,h => h
  | k :: l,p,t,e,⟨⟨s,h1,h2⟩,h3⟩ => by
    obtain ⟨s',q0,q1,q2,q3,q4,q5,q6,q7⟩ := e k List.mem_cons_self s h1
    exact ⟨⟨s',q0,⟨q1.trans h2.used,q2.trans h2.no,q3.trans h2.queue,q4.trans h2.ahead,q5.trans h2.back,q6,q7⟩⟩,rJ (fun j hj => e j (List.mem_cons_of_mem _ hj)) h3⟩
theorem zEk (a : Arena) (n : Int) (t : Bool) (j : Nat) : (a.topF n t).slotAt j = if a.usedAt n = true ∧ j = n.toNat then { a.slotAt j with top := t } else a.slotAt j := by
  rw [Arena.topF]
  by_cases hu : a.usedAt n = true
  · rw [if_pos hu]
    by_cases e : j = n.toNat
    · subst e
      rw [if_pos ⟨hu,rfl⟩]
      have hlt : n.toNat < a.slots.length := by
        simp only [Arena.usedAt,Bool.and_eq_true,decide_eq_true_eq] at hu
        omega
      show (a.slots.modify n.toNat _).getD n.toNat slot0 = _
      obtain ⟨s,hs⟩ := z9 hlt
      rw [zU (fJ hs),yZ hs]
    · rw [if_neg (fun h => e h.2)]
      show (a.slots.modify n.toNat _).getD j slot0 = a.slots.getD j slot0
      rw [List.getD_eq_getElem?_getD,wA (fun h => e h.symm),List.getD_eq_getElem?_getD]
  · rw [if_neg hu,if_neg (fun h => hu h.1)]
theorem Arena.Wf.top {a : Arena} {Q : List (List Nat)} (h : a.Wf Q) (n : Int) (t : Bool) : (a.topF n t).Wf Q := by
  have hq : ∀ j,((a.topF n t).slotAt j).qty = (a.slotAt j).qty := by
    intro j
    rw [zEk]
    split <;> rfl
  by_cases hu : a.usedAt n = true
  · have e : a.topF n t = { a with slots := a.slots.modify n.toNat fun s => { s with top := t } } := by rw [Arena.topF,if_pos hu]
    have hm : ∀ (k : Nat) (s : Slot),a.slots[k]? = some s → ∃ s',(a.topF n t).slots[k]? = some s' ∧ s'.used = s.used ∧ s'.n = s.n ∧ s'.queue = s.queue ∧ s'.ahead = s.ahead ∧ s'.back = s.back ∧ s'.qty = s.qty := by
      intro k s hk
      rw [e]
      by_cases ek : n.toNat = k
      · subst ek
        exact ⟨_,fJ hk,rfl,rfl,rfl,rfl,rfl,rfl⟩
      · exact ⟨s,by rw [wA ek]; exact hk,rfl,rfl,rfl,rfl,rfl,rfl⟩
    have hl : (a.topF n t).slots.length = 250 := by rw [e]; simpa using h.len
    have hmu : (a.topF n t).slots.map (·.used) = a.slots.map (·.used) := by rw [e]; exact fV (g := fun s : Slot => s.used) (f := fun s : Slot => { s with top := t }) (fun _ => rfl) _ _
    refine ⟨⟨hl,by rw [e]; exact h.ql,fun m l hm' => ?_,fun m l hm' => ?_,h.nd,fun k s hk hs => ?_,by rw [hmu]; rw [e]; exact h.free⟩,fun m l hm' k hk => by rw [hq]; exact h.pos m l hm' k hk⟩
    · rw [vP fun k _ => hq k]
      rw [e]; exact h.q m l hm'
    · refine rJ (fun k hk s hs => ?_) (h.sg m l hm')
      obtain ⟨s',q0,q1,q2,q3,q4,q5,q6⟩ := hm k s hs
      obtain ⟨_,⟨_,_,h2⟩,h3⟩ := h.mem hm' hk
      rw [hs] at h3; cases h3
      exact ⟨s',q0,q1,q2,q3,q4,q5,by rw [q6]; exact h2.q1,by rw [q6]; exact h2.q2⟩
    · have hlt := (List.getElem?_eq_some_iff.1 hk).1
      rw [hl,← h.len] at hlt
      obtain ⟨s0,h0⟩ := z9 hlt
      obtain ⟨s',q0,q1,_⟩ := hm k s0 h0
      rw [hk] at q0; cases q0
      exact h.us k s0 h0 (by rw [← q1]; exact hs)
  · have e : a.topF n t = a := by rw [Arena.topF,if_neg hu]
    rw [e]; exact h
theorem rB {sl : List Slot} {k : Nat} {s x : Slot} (hk : sl[k]? = some s) : ((sl.set k x).map (·.used)).countP (!·) + (if s.used = true then 0 else 1) = (sl.map (·.used)).countP (!·) + (if x.used = true then 0 else 1) := by
  have hlt := (List.getElem?_eq_some_iff.1 hk).1
  have e : (sl.map (·.used))[k]'(by simpa using hlt) = s.used := by
    rw [List.getElem_map,(List.getElem?_eq_some_iff.1 hk).2]
  rw [List.map_set,List.countP_set (by simpa using hlt),e]
  have hp : s.used = false → 1 ≤ (sl.map (·.used)).countP (!·) := by
    intro h
    apply List.countP_pos_iff.2
    exact ⟨s.used,List.mem_map_of_mem (List.mem_of_getElem? hk),by rw [h]; rfl⟩
  generalize (sl.map (·.used)).countP (!·) = c at hp ⊢
  cases h1 : s.used <;> cases h2 : x.used
  all_goals
    simp only [h1,Bool.not_false,Bool.not_true,Bool.false_eq_true,↓reduceIte,if_true,if_false] at hp ⊢
    try have hp := hp trivial
    omega
theorem zMq {sl : List Slot} : (sl.map (·.used)).countP (!·) ≤ sl.length := by
  have := List.countP_le_length (p := fun b : Bool => !b) (l := sl.map (·.used))
  simpa using this
theorem Arena.Wf0.unused {a : Arena} {Q : List (List Nat)} (h : a.Wf0 Q) (hf : a.free ≠ 0) : ∃ k : Nat,y7 a.slots = k ∧ k < 250 ∧ a.slots[k]? = some (a.slotAt k) ∧ (a.slotAt k).used = false ∧ ∀ (n : Nat) (l : List Nat),Q[n]? = some l → k ∉ l := by
  have hx : ∃ s ∈ a.slots,s.used = false := by
    have hp : 0 < (a.slots.map (·.used)).countP (!·) := by have := h.free; omega
    obtain ⟨b,hb,hb2⟩ := List.countP_pos_iff.1 hp
    obtain ⟨s,hs,rfl⟩ := List.mem_map.1 hb
    exact ⟨s,hs,by simpa using hb2⟩
  obtain ⟨s,hs,hu⟩ := hx
  cases hi : a.slots.findIdx? fun s => !s.used with
  | none =>
    rw [List.findIdx?_eq_none_iff] at hi
    have := hi s hs
    rw [hu] at this; cases this
  | some k =>
    have hi' := hi
    rw [List.findIdx?_eq_some_iff_getElem] at hi
    obtain ⟨hk,hku,_⟩ := hi
    have hk1 : a.slots[k]? = some a.slots[k] := List.getElem?_eq_getElem hk
    have e := yZ hk1
    rw [← e] at hku
    have hku : (a.slotAt k).used = false := by simpa using hku
    refine ⟨k,by rw [y7,hi']; rfl,by rw [← h.len]; exact hk,by rw [e]; exact hk1,hku,fun n l hl hkl => ?_⟩
    obtain ⟨_,⟨_,_,h2⟩,_⟩ := h.mem hl hkl
    have := h2.used
    rw [hku] at this
    cases this
theorem Arena.Wf.put {a : Arena} {Q : List (List Nat)} (h : a.Wf Q) {n : Nat} {l : List Nat} (hl : Q[n]? = some l) (hf : a.free ≠ 0) {id qty : Int} (top : Bool) (hq : 1 ≤ qty ∧ qty ≤ 1000000) :
    ∃ k : Nat,y7 a.slots = k ∧ k < 250 ∧ (a.slotAt k).used = false ∧ (∀ (m : Nat) (l : List Nat),Q[m]? = some l → k ∉ l) ∧ (a.put n id qty top).Wf (Q.set n (l ++ [k])) ∧
      (∀ j,((a.put n id qty top).slotAt j).ent = if j = k then ⟨k,id,qty,top⟩ else (a.slotAt j).ent) ∧ (a.put n id qty top).free = a.free - 1 := by
  obtain ⟨k,hk,hk2,hk1,hku,hkn⟩ := h.toWf0.unused hf
  have hkl := hkn n l hl
  have hnQ := (List.getElem?_eq_some_iff.1 hl).1
  have hqn := h.q n l hl
  have hnq : a.queues.getD n vH = ⟨kK l (-1),x0 l (-1),a.qsum l,l.length⟩ := zU hqn
  have hsum := h.toWf0.sum hl
  have hsh := h.toWf0.short hl
  have hlen := h.len
  have hcl := zMq (sl := a.slots)
  have hfree := h.free
  obtain ⟨x,hx⟩ : ∃ x : Slot,x = ⟨true,k,id,qty,top,n,x0 l (-1),-1⟩ := ⟨_,rfl⟩
  have hS : (a.put n id qty top).slots = if x0 l (-1) = -1 then a.slots.set k x else (a.slots.set k x).modify (x0 l (-1)).toNat fun s => { s with back := k } := by
    simp only [Arena.put,Int.toNat_natCast,hnq,hk,hx]
  have hQs : (a.put n id qty top).queues = a.queues.set n ⟨kK (l ++ [k]) (-1),k,a.qsum l + qty,(l.length : Int) + 1⟩ := by
    simp only [Arena.put,Int.toNat_natCast,hnq,hk]
    rw [w64 (by omega),w64 (by omega)]
    congr 2
    by_cases e : l = []
    · subst e; rfl
    · rw [if_neg (fun c => e ((uT l).1 c)),mG]
      cases l with
      | nil => exact absurd rfl e
      | cons y ys => rfl
  have hF : (a.put n id qty top).free = a.free - 1 := by
    simp only [Arena.put]
    rw [w64 (by omega)]
  have hset : (a.slots.set k x)[k]? = some x := jX (by omega)
  have hlo : x0 l (-1) = -1 ∨ ∃ (y : List Nat) (j : Nat),l = y ++ [j] ∧ x0 l (-1) = (j : Int) := by
    rcases qS l with e | ⟨y,j,e,e2⟩
    · exact .inl ((uT l).2 e)
    · exact .inr ⟨y,j,e,e2 _⟩
  have hoth : ∀ j,j ≠ k → (x0 l (-1) ≠ (j : Int)) → (a.put n id qty top).slots[j]? = a.slots[j]? := by
    intro j hj hj2
    rw [hS]
    split
    · exact kO (fun e => hj e.symm)
    · rcases hlo with e | ⟨y,i,_,e⟩
      · contradiction
      · rw [wA (by omega),kO (fun e => hj e.symm)]
  have hself : (a.put n id qty top).slots[k]? = some x := by
    rw [hS]
    split
    · exact hset
    · rcases hlo with e | ⟨y,i,e1,e⟩
      · contradiction
      · have : i ≠ k := by rintro rfl; exact hkl (by rw [e1]; simp)
        rw [wA (by omega)]; exact hset
  have hlike : ∀ j,j ≠ k → ((a.put n id qty top).slotAt j).ent = (a.slotAt j).ent ∧ ((a.put n id qty top).slotAt j).used = (a.slotAt j).used ∧ ((a.put n id qty top).slotAt j).qty = (a.slotAt j).qty := by
    intro j hj
    by_cases c : x0 l (-1) = (j : Int)
    · have e : (a.put n id qty top).slots = (a.slots.set k x).modify j fun s => { s with back := k } := by
        rw [hS,if_neg (by omega),c]; rfl
      by_cases hjl : j < a.slots.length
      · obtain ⟨s,hs⟩ := z9 hjl
        have h1 : (a.put n id qty top).slots[j]? = some { s with back := k } := by rw [e]; exact fJ (by rw [kO (fun e => hj e.symm)]; exact hs)
        rw [yZ h1,yZ hs]; exact ⟨rfl,rfl,rfl⟩
      · have h1 : (a.put n id qty top).slots[j]? = none := List.getElem?_eq_none (by rw [e]; simpa using hjl)
        have h2 : a.slots[j]? = none := List.getElem?_eq_none (by omega)
        rw [Arena.slotAt,Arena.slotAt,List.getD_eq_getElem?_getD,List.getD_eq_getElem?_getD,h1,h2]
        exact ⟨rfl,rfl,rfl⟩
    · have := hoth j hj c
      rw [Arena.slotAt,Arena.slotAt,List.getD_eq_getElem?_getD,List.getD_eq_getElem?_getD,this]
      exact ⟨rfl,rfl,rfl⟩
  have hselfA : (a.put n id qty top).slotAt k = x := yZ hself
  have hent : ∀ j,((a.put n id qty top).slotAt j).ent = if j = k then ⟨k,id,qty,top⟩ else (a.slotAt j).ent := by
    intro j
    split
    · rename_i e; rw [e,hselfA,hx]; rfl
    · rename_i e; exact (hlike j e).1
  have gQ : ∀ {m : Nat} {l' : List Nat},(Q.set n (l ++ [k]))[m]? = some l' → (m = n ∧ l' = l ++ [k]) ∨ (m ≠ n ∧ Q[m]? = some l') := by
    intro m l' hm
    exact wO hm
  have hsgn : seg (a.put n id qty top).slots n (-1) (l ++ [k]) (-1) := by
    rw [dO]
    refine ⟨?_,⟨x,hself,?_⟩,trivial⟩
    · rcases qS l with e | ⟨y,j,e,e2⟩
      · subst e; trivial
      · have h0 := h.sg n l hl
        have hnd := h.nd n l hl
        rw [hS,if_neg (by rw [e2]; omega),e2,Int.toNat_natCast]
        rw [e] at h0 hnd hkl ⊢
        have hd := List.nodup_append.1 hnd
        refine zFv (k : Int) (fun hj => hd.2.2 j hj j List.mem_cons_self rfl) (t := -1) ?_
        exact kE (fun i hi => kO (fun e => hkl (e ▸ hi))) h0
    · rw [hx]
      exact ⟨rfl,rfl,rfl,rfl,rfl,by dsimp only;omega,hq.2⟩
  refine ⟨k,hk,hk2,hku,hkn,⟨⟨?_,?_,?_,?_,?_,?_,?_⟩,?_⟩,hent,hF⟩
  · rw [hS]; split <;> simp [hlen]
  · rw [hQs]; simp [h.ql]
  · intro m l' hm
    rcases gQ hm with ⟨rfl,rfl⟩ | ⟨e,hm⟩
    · rw [hQs,jX (by rw [h.ql]; exact hnQ),wW]
      have : (a.put m id qty top).qsum (l ++ [k]) = a.qsum l + qty := by
        rw [Arena.qsum,List.map_append,List.sum_append]
        have e1 : l.map (fun k => ((a.put m id qty top).slotAt k).qty) = l.map fun k => (a.slotAt k).qty := List.map_congr_left fun j hj => (hlike j (fun e => hkl (e ▸ hj))).2.2
        rw [e1]
        simp only [List.map_cons,List.map_nil,List.sum_cons,List.sum_nil,hselfA]
        rw [hx,Arena.qsum]; dsimp only; omega
      rw [this]
      simp [x0]
    · rw [hQs,kO (fun c => e c.symm),h.q m l' hm,vP]
      intro j hj
      exact (hlike j (fun e => hkn m l' hm (e ▸ hj))).2.2.symm
  · intro m l' hm
    rcases gQ hm with ⟨rfl,rfl⟩ | ⟨e,hm⟩
    · exact hsgn
    · refine kE (fun j hj => hoth j (fun e => hkn m l' hm (e ▸ hj)) fun c => ?_) (h.sg m l' hm)
      rcases hlo with e2 | ⟨y,i,e1,e2⟩
      · omega
      · have : i = j := by omega
        exact e (h.toWf0.one hm hl hj (by rw [e1]; simp [this]))
  · intro m l' hm
    rcases gQ hm with ⟨rfl,rfl⟩ | ⟨e,hm⟩
    · refine List.nodup_append.2 ⟨h.nd m l hl,by simp,?_⟩
      rintro i hi j hj rfl
      rw [List.mem_singleton.1 hj] at hi
      exact hkl hi
    · exact h.nd m l' hm
  · intro j s hj hs
    by_cases e : j = k
    · exact ⟨n,l ++ [k],jX hnQ,by rw [e]; simp⟩
    · have hu : (a.slotAt j).used = true := by rw [← (hlike j e).2.1,yZ hj]; exact hs
      have hjl : j < a.slots.length := by
        have := (List.getElem?_eq_some_iff.1 hj).1
        rw [hS] at this
        split at this <;> simpa using this
      obtain ⟨s',hs'⟩ := z9 hjl
      rw [yZ hs'] at hu
      obtain ⟨m,l',hm,hjm⟩ := h.us j s' hs' hu
      by_cases em : m = n
      · subst em
        rw [hl] at hm; cases hm
        exact ⟨m,l ++ [k],jX hnQ,List.mem_append_left _ hjm⟩
      · exact ⟨m,l',by rw [kO (fun c => em c.symm)]; exact hm,hjm⟩
  · have hmu : (a.put n id qty top).slots.map (·.used) = (a.slots.set k x).map (·.used) := by
      rw [hS]
      split
      · rfl
      · exact fV (g := fun s : Slot => s.used) (f := fun s : Slot => { s with back := k }) (fun _ => rfl) _ _
    have := rB (x := x) hk1
    rw [hku,if_neg (by decide),show x.used = true by rw [hx],if_pos rfl] at this
    rw [hmu,hF,hfree]
    omega
  · intro m l' hm j hj
    rcases gQ hm with ⟨rfl,rfl⟩ | ⟨e,hm⟩
    · rcases List.mem_append.1 hj with hj | hj
      · rw [(hlike j (fun e => hkl (e ▸ hj))).2.2]; exact h.pos m l hl j hj
      · rw [List.mem_singleton.1 hj,hselfA,hx]; exact hq.1
    · rw [(hlike j (fun e => hkn m l' hm (e ▸ hj))).2.2]; exact h.pos m l' hm j hj
end Sx
