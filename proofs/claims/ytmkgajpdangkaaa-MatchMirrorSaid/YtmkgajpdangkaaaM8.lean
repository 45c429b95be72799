/- Texts of ours, one behind the other: a walk that the kernel reckons, and contracts of functions. No condition. -/
import Derived.Test.YtmkgajpdangkaaaM7
namespace Sx
set_option linter.unusedVariables false
set_option maxRecDepth 100000
open Go Cv Go.Proofs
def zCo (b : Bool) : Prop :=
  ∃ (o : Unit),(zB !b) = IntKind.i64.wrap (3 - zB b)∧True
theorem zVf (b : Bool) : zCo b = walk Try.prog ([]) 0 ([]) ([]) [] Try.f26 (Try.f26.body.getD .skip) (motherC.pat b) (motherC.pre b) (motherC.alts b) := by kernel_rfl
theorem zUz (hG : GOk Try.prog ([])) (h : ∀ (b : Bool),motherC.cnd b → zCo b) : motherC.ok Try.prog 26 := zE mixed ([]) hG 0 (fun (b : Bool) => []) (fun (b : Bool) => []) [] Try.func26 (by kernel_rfl) (by kernel_rfl) (by kernel_rfl) (fun _ => by kernel_rfl) (fun (b : Bool) hc => Eq.mp (zVf b) (h b hc))
def zLf (i : GoI) : Prop :=
  cnd (zB i.s == 1) (cnd (decide (i.x ≤ i.p)) (∃ (o : Unit),v9 i.s i.p i.x = true∧True) (cnd (zB i.s == 2) (∃ (o : Unit),v9 i.s i.p i.x = decide (i.x ≥ i.p)∧True) (∃ (o : Unit),v9 i.s i.p i.x = false∧True))) (cnd (zB i.s == 2) (∃ (o : Unit),v9 i.s i.p i.x = decide (i.x ≥ i.p)∧True) (∃ (o : Unit),v9 i.s i.p i.x = false∧True))
theorem z0d (i : GoI) : zLf i = walk Try.prog ([]) 0 ([]) ([]) [] Try.f27 (Try.f27.body.getD .skip) (mgoodC.pat i) (mgoodC.pre i) (mgoodC.alts i) := by kernel_rfl
theorem z2t (hG : GOk Try.prog ([])) (h : ∀ (i : GoI),mgoodC.cnd i → zLf i) : mgoodC.ok Try.prog 27 := zE mixed ([]) hG 0 (fun (i : GoI) => []) (fun (i : GoI) => []) [] Try.func27 (by kernel_rfl) (by kernel_rfl) (by kernel_rfl) (fun _ => by kernel_rfl) (fun (i : GoI) hc => Eq.mp (z0d i) (h i hc))
@[reducible] def zDe (i : NxI) (i_1 : MSt) (o : Unit) : Prop := ∃ (i_2 : dY),sb i_2.i.p.code = sb i.s.p.code∧iE i_2.i.p.months = iE i_1.p.months∧i_2.i.p.tick = i.s.p.tick∧i_2.i.p.low = i.s.p.low∧i_2.i.p.high = i.s.p.high∧i_2.i.p.wide = i.s.p.wide∧i_2.i.p.rule = i.s.p.rule∧i_2.i.p.top = i.s.p.top∧i_2.i.p.least = i.s.p.least∧i_2.i.p.part = i.s.p.part∧iE i_2.i.p.settle = iE i_1.p.settle∧List.map zR i_2.i.tops = List.map zR i_1.tops∧i_2.i.inst = i.inst∧zB i_2.s = zB i.sd∧((i_2.i.p.code.length ≤ 1099511627776∧i_2.i.p.months.length ≤ 1099511627776∧i_2.i.p.settle.length ≤ 1099511627776)∧i_2.i.tops.length ≤ 1000000∧∀ (t : Top),t ∈ i_2.i.tops→((-9223372036854775808) ≤ t.p1∧t.p1 ≤ 9223372036854775807)∧(-9223372036854775808) ≤ t.p2∧t.p2 ≤ 9223372036854775807)∧∀ (o : Unit),True→∃ (i_3 : BsI),List.map zI i_3.l = List.map zI (xO i_2.i (zB i_2.s))∧i_3.s = zB i.sd∧((i_3.s = 1 ∨ i_3.s = 2)∧i_3.l.length ≤ 1000000)∧∀ (o : Unit),True→(0 ≤ i.inst∧i.inst < (↑i_1.books.length : Int))∧i.inst.toNat < i_1.books.length∧∃ (x : Book),i_1.books[i.inst.toNat]? = some x∧∃ (i_4 : BkS),zB i_4.side = zB i.sd∧yF i_4.b = yF x∧(∀ (q : qW),q ∈ i_4.b.a.queues→(-9223372036854775808) ≤ q.count∧q.count ≤ 9223372036854775807)∧∀ (o : Unit),True→∃ (x : Book),yF i_4.b = yF x∧i.inst.toNat = i.inst.toNat∧i.inst.toNat < i_1.books.length∧cnd (i_4.b.best (i_4.b.side i_4.side)).snd (cnd (zT i_3.l i_3.s).snd (∃ (i_5 : I3'),i_5.side = zB i.sd∧i_5.x = (zT i_3.l i_3.s).fst.price∧i_5.y = (i_4.b.best (i_4.b.side i_4.side)).fst.price∧True∧∀ (o : Unit),True→cnd (!btr i_5.side i_5.x i_5.y) (∃ (o : Unit),(zL i.p i.B i.inst (zB i.sd)).fst.price = (i_4.b.best (i_4.b.side i_4.side)).fst.price∧(zL i.p i.B i.inst (zB i.sd)).fst.qty = (i_4.b.best (i_4.b.side i_4.side)).fst.qty∧(zL i.p i.B i.inst (zB i.sd)).fst.a.inst = 0∧(zL i.p i.B i.inst (zB i.sd)).fst.a.side = 0∧(zL i.p i.B i.inst (zB i.sd)).fst.b.inst = 0∧(zL i.p i.B i.inst (zB i.sd)).fst.b.side = 0∧(zL i.p i.B i.inst (zB i.sd)).snd.fst = false∧(zL i.p i.B i.inst (zB i.sd)).snd.snd = true∧sb i.s.p.code = sb i_1.p.code∧i.s.p.tick = i_1.p.tick∧i.s.p.low = i_1.p.low∧i.s.p.high = i_1.p.high∧i.s.p.wide = i_1.p.wide∧i.s.p.rule = i_1.p.rule∧i.s.p.top = i_1.p.top∧i.s.p.least = i_1.p.least∧i.s.p.part = i_1.p.part∧AObj.objs 64 Book 6 zQ i.s.books none = AObj.objs 64 Book 6 zQ (i_1.books.set i.inst.toNat x) none∧yJ i.s.wh = yJ i_1.wh∧AObj.fro 1 (iE i.s.p.months) = AObj.fro 1 (iE i_1.p.months)∧AObj.fro 1 (iE i.s.p.settle) = AObj.fro 1 (iE i_1.p.settle)∧True) (∃ (o : Unit),(zL i.p i.B i.inst (zB i.sd)).fst.price = (zT i_3.l i_3.s).fst.price∧(zL i.p i.B i.inst (zB i.sd)).fst.qty = (zT i_3.l i_3.s).fst.qty∧(zL i.p i.B i.inst (zB i.sd)).fst.a.inst = (zT i_3.l i_3.s).fst.a.inst∧(zL i.p i.B i.inst (zB i.sd)).fst.a.side = (zT i_3.l i_3.s).fst.a.side∧(zL i.p i.B i.inst (zB i.sd)).fst.b.inst = (zT i_3.l i_3.s).fst.b.inst∧(zL i.p i.B i.inst (zB i.sd)).fst.b.side = (zT i_3.l i_3.s).fst.b.side∧(zL i.p i.B i.inst (zB i.sd)).snd.fst = (zT i_3.l i_3.s).snd∧(zL i.p i.B i.inst (zB i.sd)).snd.snd = (zT i_3.l i_3.s).snd∧sb i.s.p.code = sb i_1.p.code∧i.s.p.tick = i_1.p.tick∧i.s.p.low = i_1.p.low∧i.s.p.high = i_1.p.high∧i.s.p.wide = i_1.p.wide∧i.s.p.rule = i_1.p.rule∧i.s.p.top = i_1.p.top∧i.s.p.least = i_1.p.least∧i.s.p.part = i_1.p.part∧AObj.objs 64 Book 6 zQ i.s.books none = AObj.objs 64 Book 6 zQ (i_1.books.set i.inst.toNat x) none∧yJ i.s.wh = yJ i_1.wh∧AObj.fro 1 (iE i.s.p.months) = AObj.fro 1 (iE i_1.p.months)∧AObj.fro 1 (iE i.s.p.settle) = AObj.fro 1 (iE i_1.p.settle)∧True)) (∃ (o : Unit),(zL i.p i.B i.inst (zB i.sd)).fst.price = (i_4.b.best (i_4.b.side i_4.side)).fst.price∧(zL i.p i.B i.inst (zB i.sd)).fst.qty = (i_4.b.best (i_4.b.side i_4.side)).fst.qty∧(zL i.p i.B i.inst (zB i.sd)).fst.a.inst = 0∧(zL i.p i.B i.inst (zB i.sd)).fst.a.side = 0∧(zL i.p i.B i.inst (zB i.sd)).fst.b.inst = 0∧(zL i.p i.B i.inst (zB i.sd)).fst.b.side = 0∧(zL i.p i.B i.inst (zB i.sd)).snd.fst = false∧(zL i.p i.B i.inst (zB i.sd)).snd.snd = true∧sb i.s.p.code = sb i_1.p.code∧i.s.p.tick = i_1.p.tick∧i.s.p.low = i_1.p.low∧i.s.p.high = i_1.p.high∧i.s.p.wide = i_1.p.wide∧i.s.p.rule = i_1.p.rule∧i.s.p.top = i_1.p.top∧i.s.p.least = i_1.p.least∧i.s.p.part = i_1.p.part∧AObj.objs 64 Book 6 zQ i.s.books none = AObj.objs 64 Book 6 zQ (i_1.books.set i.inst.toNat x) none∧yJ i.s.wh = yJ i_1.wh∧AObj.fro 1 (iE i.s.p.months) = AObj.fro 1 (iE i_1.p.months)∧AObj.fro 1 (iE i.s.p.settle) = AObj.fro 1 (iE i_1.p.settle)∧True)) (∃ (o : Unit),(zL i.p i.B i.inst (zB i.sd)).fst.price = (zT i_3.l i_3.s).fst.price∧(zL i.p i.B i.inst (zB i.sd)).fst.qty = (zT i_3.l i_3.s).fst.qty∧(zL i.p i.B i.inst (zB i.sd)).fst.a.inst = (zT i_3.l i_3.s).fst.a.inst∧(zL i.p i.B i.inst (zB i.sd)).fst.a.side = (zT i_3.l i_3.s).fst.a.side∧(zL i.p i.B i.inst (zB i.sd)).fst.b.inst = (zT i_3.l i_3.s).fst.b.inst∧(zL i.p i.B i.inst (zB i.sd)).fst.b.side = (zT i_3.l i_3.s).fst.b.side∧(zL i.p i.B i.inst (zB i.sd)).snd.fst = (zT i_3.l i_3.s).snd∧(zL i.p i.B i.inst (zB i.sd)).snd.snd = (zT i_3.l i_3.s).snd∧sb i.s.p.code = sb i_1.p.code∧i.s.p.tick = i_1.p.tick∧i.s.p.low = i_1.p.low∧i.s.p.high = i_1.p.high∧i.s.p.wide = i_1.p.wide∧i.s.p.rule = i_1.p.rule∧i.s.p.top = i_1.p.top∧i.s.p.least = i_1.p.least∧i.s.p.part = i_1.p.part∧AObj.objs 64 Book 6 zQ i.s.books none = AObj.objs 64 Book 6 zQ (i_1.books.set i.inst.toNat x) none∧yJ i.s.wh = yJ i_1.wh∧AObj.fro 1 (iE i.s.p.months) = AObj.fro 1 (iE i_1.p.months)∧AObj.fro 1 (iE i.s.p.settle) = AObj.fro 1 (iE i_1.p.settle)∧True)
@[reducible] def zEn (i : NxI) (i_1 : MSt) (o : Unit) (i_2 : dY) : Prop := ∃ (i_3 : BsI),List.map zI i_3.l = List.map zI (xO i_2.i (zB i_2.s))∧i_3.s = zB i.sd∧((i_3.s = 1 ∨ i_3.s = 2)∧i_3.l.length ≤ 1000000)∧∀ (o : Unit),True→(0 ≤ i.inst∧i.inst < (↑i_1.books.length : Int))∧i.inst.toNat < i_1.books.length∧∃ (x : Book),i_1.books[i.inst.toNat]? = some x∧∃ (i_4 : BkS),zB i_4.side = zB i.sd∧yF i_4.b = yF x∧(∀ (q : qW),q ∈ i_4.b.a.queues→(-9223372036854775808) ≤ q.count∧q.count ≤ 9223372036854775807)∧∀ (o : Unit),True→∃ (x : Book),yF i_4.b = yF x∧i.inst.toNat = i.inst.toNat∧i.inst.toNat < i_1.books.length∧cnd (i_4.b.best (i_4.b.side i_4.side)).snd (cnd (zT i_3.l i_3.s).snd (∃ (i_5 : I3'),i_5.side = zB i.sd∧i_5.x = (zT i_3.l i_3.s).fst.price∧i_5.y = (i_4.b.best (i_4.b.side i_4.side)).fst.price∧True∧∀ (o : Unit),True→cnd (!btr i_5.side i_5.x i_5.y) (∃ (o : Unit),(zL i.p i.B i.inst (zB i.sd)).fst.price = (i_4.b.best (i_4.b.side i_4.side)).fst.price∧(zL i.p i.B i.inst (zB i.sd)).fst.qty = (i_4.b.best (i_4.b.side i_4.side)).fst.qty∧(zL i.p i.B i.inst (zB i.sd)).fst.a.inst = 0∧(zL i.p i.B i.inst (zB i.sd)).fst.a.side = 0∧(zL i.p i.B i.inst (zB i.sd)).fst.b.inst = 0∧(zL i.p i.B i.inst (zB i.sd)).fst.b.side = 0∧(zL i.p i.B i.inst (zB i.sd)).snd.fst = false∧(zL i.p i.B i.inst (zB i.sd)).snd.snd = true∧sb i.s.p.code = sb i_1.p.code∧i.s.p.tick = i_1.p.tick∧i.s.p.low = i_1.p.low∧i.s.p.high = i_1.p.high∧i.s.p.wide = i_1.p.wide∧i.s.p.rule = i_1.p.rule∧i.s.p.top = i_1.p.top∧i.s.p.least = i_1.p.least∧i.s.p.part = i_1.p.part∧AObj.objs 64 Book 6 zQ i.s.books none = AObj.objs 64 Book 6 zQ (i_1.books.set i.inst.toNat x) none∧yJ i.s.wh = yJ i_1.wh∧AObj.fro 1 (iE i.s.p.months) = AObj.fro 1 (iE i_1.p.months)∧AObj.fro 1 (iE i.s.p.settle) = AObj.fro 1 (iE i_1.p.settle)∧True) (∃ (o : Unit),(zL i.p i.B i.inst (zB i.sd)).fst.price = (zT i_3.l i_3.s).fst.price∧(zL i.p i.B i.inst (zB i.sd)).fst.qty = (zT i_3.l i_3.s).fst.qty∧(zL i.p i.B i.inst (zB i.sd)).fst.a.inst = (zT i_3.l i_3.s).fst.a.inst∧(zL i.p i.B i.inst (zB i.sd)).fst.a.side = (zT i_3.l i_3.s).fst.a.side∧(zL i.p i.B i.inst (zB i.sd)).fst.b.inst = (zT i_3.l i_3.s).fst.b.inst∧(zL i.p i.B i.inst (zB i.sd)).fst.b.side = (zT i_3.l i_3.s).fst.b.side∧(zL i.p i.B i.inst (zB i.sd)).snd.fst = (zT i_3.l i_3.s).snd∧(zL i.p i.B i.inst (zB i.sd)).snd.snd = (zT i_3.l i_3.s).snd∧sb i.s.p.code = sb i_1.p.code∧i.s.p.tick = i_1.p.tick∧i.s.p.low = i_1.p.low∧i.s.p.high = i_1.p.high∧i.s.p.wide = i_1.p.wide∧i.s.p.rule = i_1.p.rule∧i.s.p.top = i_1.p.top∧i.s.p.least = i_1.p.least∧i.s.p.part = i_1.p.part∧AObj.objs 64 Book 6 zQ i.s.books none = AObj.objs 64 Book 6 zQ (i_1.books.set i.inst.toNat x) none∧yJ i.s.wh = yJ i_1.wh∧AObj.fro 1 (iE i.s.p.months) = AObj.fro 1 (iE i_1.p.months)∧AObj.fro 1 (iE i.s.p.settle) = AObj.fro 1 (iE i_1.p.settle)∧True)) (∃ (o : Unit),(zL i.p i.B i.inst (zB i.sd)).fst.price = (i_4.b.best (i_4.b.side i_4.side)).fst.price∧(zL i.p i.B i.inst (zB i.sd)).fst.qty = (i_4.b.best (i_4.b.side i_4.side)).fst.qty∧(zL i.p i.B i.inst (zB i.sd)).fst.a.inst = 0∧(zL i.p i.B i.inst (zB i.sd)).fst.a.side = 0∧(zL i.p i.B i.inst (zB i.sd)).fst.b.inst = 0∧(zL i.p i.B i.inst (zB i.sd)).fst.b.side = 0∧(zL i.p i.B i.inst (zB i.sd)).snd.fst = false∧(zL i.p i.B i.inst (zB i.sd)).snd.snd = true∧sb i.s.p.code = sb i_1.p.code∧i.s.p.tick = i_1.p.tick∧i.s.p.low = i_1.p.low∧i.s.p.high = i_1.p.high∧i.s.p.wide = i_1.p.wide∧i.s.p.rule = i_1.p.rule∧i.s.p.top = i_1.p.top∧i.s.p.least = i_1.p.least∧i.s.p.part = i_1.p.part∧AObj.objs 64 Book 6 zQ i.s.books none = AObj.objs 64 Book 6 zQ (i_1.books.set i.inst.toNat x) none∧yJ i.s.wh = yJ i_1.wh∧AObj.fro 1 (iE i.s.p.months) = AObj.fro 1 (iE i_1.p.months)∧AObj.fro 1 (iE i.s.p.settle) = AObj.fro 1 (iE i_1.p.settle)∧True)) (∃ (o : Unit),(zL i.p i.B i.inst (zB i.sd)).fst.price = (zT i_3.l i_3.s).fst.price∧(zL i.p i.B i.inst (zB i.sd)).fst.qty = (zT i_3.l i_3.s).fst.qty∧(zL i.p i.B i.inst (zB i.sd)).fst.a.inst = (zT i_3.l i_3.s).fst.a.inst∧(zL i.p i.B i.inst (zB i.sd)).fst.a.side = (zT i_3.l i_3.s).fst.a.side∧(zL i.p i.B i.inst (zB i.sd)).fst.b.inst = (zT i_3.l i_3.s).fst.b.inst∧(zL i.p i.B i.inst (zB i.sd)).fst.b.side = (zT i_3.l i_3.s).fst.b.side∧(zL i.p i.B i.inst (zB i.sd)).snd.fst = (zT i_3.l i_3.s).snd∧(zL i.p i.B i.inst (zB i.sd)).snd.snd = (zT i_3.l i_3.s).snd∧sb i.s.p.code = sb i_1.p.code∧i.s.p.tick = i_1.p.tick∧i.s.p.low = i_1.p.low∧i.s.p.high = i_1.p.high∧i.s.p.wide = i_1.p.wide∧i.s.p.rule = i_1.p.rule∧i.s.p.top = i_1.p.top∧i.s.p.least = i_1.p.least∧i.s.p.part = i_1.p.part∧AObj.objs 64 Book 6 zQ i.s.books none = AObj.objs 64 Book 6 zQ (i_1.books.set i.inst.toNat x) none∧yJ i.s.wh = yJ i_1.wh∧AObj.fro 1 (iE i.s.p.months) = AObj.fro 1 (iE i_1.p.months)∧AObj.fro 1 (iE i.s.p.settle) = AObj.fro 1 (iE i_1.p.settle)∧True)
def zPc (i : NxI) : Prop :=
  (∃ (i_1 : MSt),sb i_1.p.code = sb i.s.p.code∧i_1.p.tick = i.s.p.tick∧i_1.p.low = i.s.p.low∧i_1.p.high = i.s.p.high∧i_1.p.wide = i.s.p.wide∧i_1.p.rule = i.s.p.rule∧i_1.p.top = i.s.p.top∧i_1.p.least = i.s.p.least∧i_1.p.part = i.s.p.part∧AObj.objs 64 Book 6 zQ i_1.books none = AObj.objs 64 Book 6 zQ i.s.books none∧yJ i_1.wh = yJ i.s.wh∧AObj.fro 1 (iE i_1.p.months) = AObj.fro 1 (iE i.s.p.months)∧AObj.fro 1 (iE i_1.p.settle) = AObj.fro 1 (iE i.s.p.settle)∧(i_1.books.length ≤ 1000000∧∀ (b : Book),b ∈ i_1.books→∀ (q : qW),q ∈ b.a.queues→(-9223372036854775808) ≤ q.count∧q.count ≤ 9223372036854775807)∧∀ (o : Unit),True→(sb i_1.p.code = sb i.s.p.code∧True∧i_1.p.tick = i.s.p.tick∧i_1.p.low = i.s.p.low∧i_1.p.high = i.s.p.high∧i_1.p.wide = i.s.p.wide∧i_1.p.rule = i.s.p.rule∧i_1.p.top = i.s.p.top∧i_1.p.least = i.s.p.least∧i_1.p.part = i.s.p.part∧True∧True)∧(∃ (i_2 : dY),sb i_2.i.p.code = sb i.s.p.code∧iE i_2.i.p.months = iE i_1.p.months∧i_2.i.p.tick = i.s.p.tick∧i_2.i.p.low = i.s.p.low∧i_2.i.p.high = i.s.p.high∧i_2.i.p.wide = i.s.p.wide∧i_2.i.p.rule = i.s.p.rule∧i_2.i.p.top = i.s.p.top∧i_2.i.p.least = i.s.p.least∧i_2.i.p.part = i.s.p.part∧iE i_2.i.p.settle = iE i_1.p.settle∧List.map zR i_2.i.tops = List.map zR i_1.tops∧i_2.i.inst = i.inst∧zB i_2.s = zB i.sd∧((i_2.i.p.code.length ≤ 1099511627776∧i_2.i.p.months.length ≤ 1099511627776∧i_2.i.p.settle.length ≤ 1099511627776)∧i_2.i.tops.length ≤ 1000000∧∀ (t : Top),t ∈ i_2.i.tops→((-9223372036854775808) ≤ t.p1∧t.p1 ≤ 9223372036854775807)∧(-9223372036854775808) ≤ t.p2∧t.p2 ≤ 9223372036854775807)∧∀ (o : Unit),True→(zEn i i_1 o i_2)∧zEn i i_1 o i_2)∧(sb i_1.p.code = sb i.s.p.code∧True∧i_1.p.tick = i.s.p.tick∧i_1.p.low = i.s.p.low∧i_1.p.high = i.s.p.high∧i_1.p.wide = i.s.p.wide∧i_1.p.rule = i.s.p.rule∧i_1.p.top = i.s.p.top∧i_1.p.least = i.s.p.least∧i_1.p.part = i.s.p.part∧True∧True)∧zDe i i_1 o)∧(sb i.s.p.code = sb i.s.p.code∧True∧i.s.p.tick = i.s.p.tick∧i.s.p.low = i.s.p.low∧i.s.p.high = i.s.p.high∧i.s.p.wide = i.s.p.wide∧i.s.p.rule = i.s.p.rule∧i.s.p.top = i.s.p.top∧i.s.p.least = i.s.p.least∧i.s.p.part = i.s.p.part∧True∧True)∧∃ (i_1 : MSt),sb i_1.p.code = sb i.s.p.code∧i_1.p.tick = i.s.p.tick∧i_1.p.low = i.s.p.low∧i_1.p.high = i.s.p.high∧i_1.p.wide = i.s.p.wide∧i_1.p.rule = i.s.p.rule∧i_1.p.top = i.s.p.top∧i_1.p.least = i.s.p.least∧i_1.p.part = i.s.p.part∧AObj.objs 64 Book 6 zQ i_1.books none = AObj.objs 64 Book 6 zQ i.s.books none∧yJ i_1.wh = yJ i.s.wh∧AObj.fro 1 (iE i_1.p.months) = AObj.fro 1 (iE i.s.p.months)∧AObj.fro 1 (iE i_1.p.settle) = AObj.fro 1 (iE i.s.p.settle)∧(i_1.books.length ≤ 1000000∧∀ (b : Book),b ∈ i_1.books→∀ (q : qW),q ∈ b.a.queues→(-9223372036854775808) ≤ q.count∧q.count ≤ 9223372036854775807)∧∀ (o : Unit),True→(sb i_1.p.code = sb i.s.p.code∧True∧i_1.p.tick = i.s.p.tick∧i_1.p.low = i.s.p.low∧i_1.p.high = i.s.p.high∧i_1.p.wide = i.s.p.wide∧i_1.p.rule = i.s.p.rule∧i_1.p.top = i.s.p.top∧i_1.p.least = i.s.p.least∧i_1.p.part = i.s.p.part∧True∧True)∧zDe i i_1 o
theorem z7n (i : NxI) : zPc i = walk Try.prog ([(51,topsOC),(50,quotesC),(49,bestQC),(52,bestC),(45,bbetterC)]) 0 ([]) ([]) [0] Try.f25 (Try.f25.body.getD .skip) (nextC.pat i) (nextC.pre i) (nextC.alts i) := by kernel_rfl
theorem z6s (hG : GOk Try.prog ([(51,topsOC),(50,quotesC),(49,bestQC),(52,bestC),(45,bbetterC)])) (h : ∀ (i : NxI),nextC.cnd i → zPc i) : nextC.ok Try.prog 25 := zE mixed ([(51,topsOC),(50,quotesC),(49,bestQC),(52,bestC),(45,bbetterC)]) hG 0 (fun (i : NxI) => []) (fun (i : NxI) => []) [0] Try.func25 (by kernel_rfl) (by kernel_rfl) (by kernel_rfl) (fun _ => by kernel_rfl) (fun (i : NxI) hc => Eq.mp (z7n i) (h i hc))
@[reducible] def zGu (i_1 : BkS) (b : Bool) : AObj := Sx.AObj.cells [V.d (D.v (.int .i64 (i_1.b.best (i_1.b.side i_1.side)).fst.price)),V.d (D.v (.int .i64 (i_1.b.best (i_1.b.side i_1.side)).fst.qty)),V.d (D.v (.int .i64 (i_1.b.best (i_1.b.side i_1.side)).fst.count))] (58 : Nat)
@[reducible] def aN (i : TrI) : AObj := Sx.AObj.cells [V.d (D.v (.int .i64 i.inst)),V.d (D.v (.int .i64 (zB i.sd)))] (74 : Nat)
@[reducible] def zHr (i_1 : BkS) : AObj := Sx.AObj.cells [V.d (D.v (.int .i64 (i_1.b.best (i_1.b.side i_1.side)).fst.price)),V.d (D.v (.int .i64 (i_1.b.best (i_1.b.side i_1.side)).fst.qty)),V.d (D.v (.int .i64 (i_1.b.best (i_1.b.side i_1.side)).fst.count))] (58 : Nat)
def zDt (i : TrI) : Prop :=
  (0 ≤ i.inst∧i.inst < (↑i.s.books.length : Int))∧i.inst.toNat < i.s.books.length∧∃ (x : Book),i.s.books[i.inst.toNat]? = some x∧∃ (i_1 : BkS),zB i_1.side = zB i.sd∧yF i_1.b = yF x∧(∀ (q : qW),q ∈ i_1.b.a.queues→(-9223372036854775808) ≤ q.count∧q.count ≤ 9223372036854775807)∧∀ (o : Unit),True→∃ (x : Book),yF i_1.b = yF x∧i.inst.toNat = i.inst.toNat∧i.inst.toNat < i.s.books.length∧∃ (x_1 : Book),(i.s.books.set i.inst.toNat x)[i.inst.toNat]? = some x_1∧∃ (i_2 : AtI),zB i_2.s = zB i.sd∧i_2.price = (i_1.b.best (i_1.b.side i_1.side)).fst.price∧yF i_2.b = yF x_1∧i_2.b.Rep i_2.L∧∀ (o : Unit),True→∃ (x_2 : Book),yF i_2.b = yF x_2∧i.inst.toNat = i.inst.toNat∧i.inst.toNat < (i.s.books.set i.inst.toNat x).length∧∃ (i_3 : AlI),sb i_3.p.code = sb i.s.p.code∧iE i_3.p.months = iE i.s.p.months∧i_3.p.tick = i.s.p.tick∧i_3.p.low = i.s.p.low∧i_3.p.high = i.s.p.high∧i_3.p.wide = i.s.p.wide∧i_3.p.rule = i.s.p.rule∧i_3.p.top = i.s.p.top∧i_3.p.least = i.s.p.least∧i_3.p.part = i.s.p.part∧iE i_3.p.settle = iE i.s.p.settle∧List.map qM i_3.l = List.map qM (atL i_2.L (zB i_2.s) i_2.price)∧i_3.q = i.q∧(i_3.l.length ≤ 1000∧((-9223372036854775808) ≤ i_3.q∧i_3.q ≤ 9223372036854775807)∧((-9223372036854775808) ≤ i_3.p.least∧i_3.p.least ≤ 9223372036854775807)∧((-9223372036854775808) ≤ i_3.p.top∧i_3.p.top ≤ 9223372036854775807)∧(-9223372036854775808) ≤ i_3.p.part∧i_3.p.part ≤ 9223372036854775807)∧∀ (o : Unit),True→∃ (i0 : Nat × MSt),(↑i0.fst : Int) = 0∧sb i0.snd.p.code = sb i.s.p.code∧i0.snd.p.tick = i.s.p.tick∧i0.snd.p.low = i.s.p.low∧i0.snd.p.high = i.s.p.high∧i0.snd.p.wide = i.s.p.wide∧i0.snd.p.rule = i.s.p.rule∧i0.snd.p.top = i.s.p.top∧i0.snd.p.least = i.s.p.least∧i0.snd.p.part = i.s.p.part∧AObj.objs 64 Book 6 zQ i0.snd.books none = AObj.objs 64 Book 6 zQ ((i.s.books.set i.inst.toNat x).set i.inst.toNat x_2) none∧yJ i0.snd.wh = yJ i.s.wh∧AObj.fro 1 (iE i0.snd.p.months) = AObj.fro 1 (iE i.s.p.months)∧AObj.fro 1 (iE i0.snd.p.settle) = AObj.fro 1 (iE i.s.p.settle)∧List.map xU (i.fs i0.fst) = []∧∃ (I : Nat × MSt→Prop),∃ (μ : Nat × MSt→Nat),I i0∧∀ (i_4 : Nat × MSt),I i_4→cnd (decide ((↑i_4.fst : Int) < (↑(iE (xD i_3)).length : Int))) ((0 ≤ (↑i_4.fst : Int)∧(↑i_4.fst : Int) < (↑(iE (xD i_3)).length : Int))∧∃ (n : Int),zH (iE (xD i_3)) (↑i_4.fst : Int).toNat 0 1 = some [D.v (.int .i64 n)]∧cnd (decide (n > 0)) ((0 ≤ (↑i_4.fst : Int)∧(↑i_4.fst : Int) < (↑(List.map qM (atL i_2.L (zB i_2.s) i_2.price)).length : Int))∧∃ (n_1 : Int),∃ (n_2 : Int),∃ (n_3 : Int),∃ (n_4 : Int),∃ (b : Bool),zH (List.map qM (atL i_2.L (zB i_2.s) i_2.price)) (↑i_4.fst : Int).toNat 0 5 = some [D.v (.int .i64 n_1),D.v (.int .i64 n_2),D.v (.int .i64 n_3),D.v (.int .i64 n_4),D.v (.bool b)]∧∃ (i_5 : StI),i_5.id = n_1∧i_5.q = n∧zO i_5.s = zO i_4.snd∧(i_5.s.Rep i_5.p i_5.B∧i_5.B.length ≤ 1000)∧∀ (o : MSt),o.Rep i_5.p (xW i_5.B i_5.id i_5.q).fst→((List.map xU (i.fs i_4.fst)).length + 1) * (48 : Nat) ≤ (70368744177664 : Nat)∧∃ (i' : Nat × MSt),(↑i'.fst : Int) = IntKind.i64.wrap ((↑i_4.fst : Int) + 1)∧zO i'.snd = zO o∧List.map xU (i.fs i'.fst) = List.map xU (i.fs i_4.fst) ++ [[D.v (.int .i64 n_1),D.v (.int .i64 i.inst),D.v (.int .i64 (zB i.sd)),D.v (.int .i64 n_3),D.v (.int .i64 n),D.v (.int .i64 (IntKind.i64.wrap (n_4 - n)))]]∧I i'∧μ i' < μ i_4∧AObj.own 2 1 (iE (xD i_3)) = AObj.own 2 1 (iE (xD i_3))∧AObj.fro 5 (List.map qM (atL i_2.L (zB i_2.s) i_2.price)) = AObj.fro 5 (List.map qM (atL i_2.L (zB i_2.s) i_2.price))∧zGu i_1 b = zGu i_1 b∧aN i = aN i∧AObj.fro 1 (iE i.s.p.months) = AObj.fro 1 (iE i.s.p.months)∧AObj.fro 1 (iE i.s.p.settle) = AObj.fro 1 (iE i.s.p.settle)) (∃ (i' : Nat × MSt),(↑i'.fst : Int) = IntKind.i64.wrap ((↑i_4.fst : Int) + 1)∧zO i'.snd = zO i_4.snd∧List.map xU (i.fs i'.fst) = List.map xU (i.fs i_4.fst)∧I i'∧μ i' < μ i_4∧AObj.own 2 1 (iE (xD i_3)) = AObj.own 2 1 (iE (xD i_3))∧AObj.fro 5 (List.map qM (atL i_2.L (zB i_2.s) i_2.price)) = AObj.fro 5 (List.map qM (atL i_2.L (zB i_2.s) i_2.price))∧zHr i_1 = zHr i_1∧aN i = aN i∧AObj.fro 1 (iE i.s.p.months) = AObj.fro 1 (iE i.s.p.months)∧AObj.fro 1 (iE i.s.p.settle) = AObj.fro 1 (iE i.s.p.settle))) (∃ (o : MSt),zO o = zO i_4.snd∧List.map xU (yH i.p i.B i.inst (zB i.sd) i.q) = List.map xU (i.fs i_4.fst)∧o.Rep i.p (xC i.B (yH i.p i.B i.inst (zB i.sd) i.q)))
theorem z2d (i : TrI) : zDt i = walk Try.prog ([(52,bestC),(53,atC),(14,allocC),(54,stakeC)]) 0 ([]) (zXm i) [0] Try.f28 (Try.f28.body.getD .skip) (tradeC.pat i) (tradeC.pre i) (tradeC.alts i) := by kernel_rfl
theorem zZd (hG : GOk Try.prog ([(52,bestC),(53,atC),(14,allocC),(54,stakeC)])) (h : ∀ (i : TrI),tradeC.cnd i → zDt i) : tradeC.ok Try.prog 28 := zE mixed ([(52,bestC),(53,atC),(14,allocC),(54,stakeC)]) hG 0 (fun (i : TrI) => []) (fun (i : TrI) => zXm i) [0] Try.func28 (by kernel_rfl) (by kernel_rfl) (by kernel_rfl) (fun _ => by kernel_rfl) (fun (i : TrI) hc => Eq.mp (z2d i) (h i hc))
set_option linter.unusedSimpArgs false
open Go Cv Go.Proofs
theorem zGe {p : Prd} (hc : p.check = 0) {k v : Int} (h : p.price k v = 0) : -2000000 ≤ v ∧ v ≤ 2000000 := by
  have ok := xL hc
  have := ok.b1
  have := ok.b2
  have := ok.b3
  have := ok.b4
  have := ok.b5
  rw [Prd.price] at h
  by_cases c1 : p.count = 0
  · rw [if_pos c1] at h; cases h
  by_cases c2 : k < 0 ∨ (p.count : Int) ≤ k
  · rw [if_neg c1,if_pos c2] at h; cases h
  cases c3 : y8 p.tick v with
  | true => rw [if_neg c1,if_neg c2,if_pos c3] at h; cases h
  | false =>
    rw [if_neg c1,if_neg c2,if_neg (by rw [c3]; decide)] at h
    by_cases c4 : (p.months.length : Int) ≤ k
    · simp only [if_pos c4] at h
      by_cases c5 : v < -p.wide ∨ p.wide < v
      · rw [if_pos c5] at h; cases h
      · omega
    · simp only [if_neg c4] at h
      by_cases c5 : v < p.low ∨ p.high < v
      · rw [if_pos c5] at h; cases h
      · omega
theorem pU {t : Int} (k : Int) : y8 t (t * k) = false := by
  simp [y8,Int.mul_tmod_right]
theorem zGh (x : Prd) : (j9 x).small := by
  have := zTd x
  refine ⟨by simp [j9],?_,?_⟩
  · show (yB _).length ≤ _
    rw [fG]; omega
  · show (yX _ _).length ≤ _
    rw [vY]; omega
theorem zIh (x : Prd) : (j9 x).check = 0 := by
  have ht := zHa x
  have hn := zTd x
  have hw := yV (n := x.wide) (lo := 0) (hi := 60) (by omega)
  have hr := yV (n := x.rule) (lo := 0) (hi := 2) (by omega)
  have ho := yV (n := x.top) (lo := 0) (hi := 9) (by omega)
  have hl := yV (n := x.least) (lo := 0) (hi := 4) (by omega)
  have hp := yV (n := x.part) (lo := 0) (hi := 100) (by omega)
  have h1 : qA (j9 x).code = true := by show qA [206,169] = true; decide +kernel
  obtain ⟨k,hk,hk1⟩ : ∃ k : Nat,(kN x).toNat = k ∧ (2 ≤ k ∧ k ≤ 5) := ⟨_,rfl,by omega⟩
  have h2 : yL (j9 x).months = true := by
    show yL (yB (kN x).toNat) = true
    rw [hk]
    have : k = 2 ∨ k = 3 ∨ k = 4 ∨ k = 5 := by omega
    rcases this with rfl | rfl | rfl | rfl <;> decide
  have h3 : xA (j9 x) = true := by
    have a : y8 (zX x) (-20 * zX x) = false := by rw [Int.mul_comm]; exact pU _
    have b : y8 (zX x) (100 * zX x) = false := by rw [Int.mul_comm]; exact pU _
    have c : (yX (zX x) (kN x).toNat).any (y8 (zX x)) = false := by
      rw [List.any_eq_false]
      intro y hy
      obtain ⟨j,_,rfl⟩ := List.mem_map.1 hy
      rw [pU]; decide
    simp only [xA,j9,a,b,c,pU,Bool.not_false,Bool.and_true,Bool.and_eq_true]
    exact ⟨decide_eq_true (by omega),decide_eq_true (by omega)⟩
  have mw := zBn (a := zX x) (b := 5 + zC x.wide 0 60) (m := zX x) (n := 65) (by omega) (by omega)
  have h4 : y9 (j9 x) = false := by
    simp only [y9,j9,Bool.or_eq_false_iff]
    exact ⟨⟨⟨⟨decide_eq_false (by omega),decide_eq_false (by omega)⟩,decide_eq_false (by omega)⟩,decide_eq_false (by omega)⟩,decide_eq_false (by omega)⟩
  have h5 : yM (j9 x) = false := by
    have e : (yX (zX x) (kN x).toNat).length = (yB (kN x).toNat).length := by rw [vY,fG]
    have ne : yX (zX x) (kN x).toNat ≠ [] := by
      intro hc
      have := vY (zX x) (kN x).toNat
      rw [hc] at this
      simp at this
      omega
    have bd : ∀ y ∈ yX (zX x) (kN x).toNat,0 ≤ y ∧ y ≤ zX x * 15 := by
      intro y hy
      obtain ⟨j,hj,rfl⟩ := List.mem_map.1 hy
      have := List.mem_range.1 hj
      exact zBn (by omega) (by omega)
    have m1 := bd _ (sC ne)
    have m2 := bd _ (eW ne)
    simp only [yM,j9,e,ne_eq,not_true_eq_false,decide_false,Bool.false_or,Bool.or_eq_false_iff]
    exact ⟨decide_eq_false (by omega),decide_eq_false (by omega)⟩
  have h6 : xG (j9 x) = false := by
    simp only [xG,j9,Bool.or_eq_false_iff]
    exact ⟨decide_eq_false (by omega),decide_eq_false (by omega)⟩
  have h7 : y5 (j9 x) = false := by
    simp only [y5,j9,Bool.or_eq_false_iff]
    exact ⟨⟨⟨⟨⟨decide_eq_false (by omega),decide_eq_false (by omega)⟩,decide_eq_false (by omega)⟩,decide_eq_false (by omega)⟩,decide_eq_false (by omega)⟩,decide_eq_false (by omega)⟩
  rw [Prd.check,h1,h2,h3,h4,h5,h6,h7]
  rfl
open Go Cv Go.Proofs
structure zDy (qs sh : List Int) (q : Int) : Prop where
  len : sh.length = qs.length
  bd : ∀ n,0 ≤ sh.getD n 0 ∧ sh.getD n 0 ≤ qs.getD n 0
  sum : sh.sum = q
theorem zYd : ∀ {l : List Int},(∀ x ∈ l,0 ≤ x) → 0 ≤ l.sum
  | [],_ => Int.le_refl 0
  | a :: l,h => by
    have := zYd (l := l) fun x hx => h x (List.mem_cons_of_mem _ hx)
    have := h a List.mem_cons_self
    rw [List.sum_cons]; omega
theorem zLs : ∀ {z : List (Int × Int)},(∀ y ∈ z,0 ≤ y.2 ∧ y.2 ≤ y.1) → (z.map (·.2)).sum ≤ (z.map (·.1)).sum
  | [],_ => Int.le_refl 0
  | a :: l,h => by
    have := zLs (z := l) fun x hx => h x (List.mem_cons_of_mem _ hx)
    have := h a List.mem_cons_self
    rw [List.map_cons,List.map_cons,List.sum_cons,List.sum_cons]; omega
theorem fM : ∀ (l : List Int) (q : Int),(∀ x ∈ l,0 ≤ x) → 0 ≤ q → q ≤ l.sum → zDy l (x0 l q) q
  | [],q,_,h0,h1 => ⟨rfl,fun n => by simp [x0],by simp at h1; simp [x0]; omega⟩
  | n :: l,q,h,h0,h1 => by
    have hn := h n List.mem_cons_self
    rw [List.sum_cons] at h1
    have := zYd fun x hx => h x (List.mem_cons_of_mem _ hx)
    have ih := fM l (q - min n q) (fun x hx => h x (List.mem_cons_of_mem _ hx)) (by omega) (by omega)
    refine ⟨by rw [x0,List.length_cons,List.length_cons,ih.len],fun k => ?_,by rw [x0,List.sum_cons,ih.sum]; omega⟩
    cases k with
    | zero => exact ⟨by show 0 ≤ min n q; omega,by show min n q ≤ n; omega⟩
    | succ k => exact ih.bd k
theorem cH : ∀ (z : List (Int × Int)) (q : Int),(∀ y ∈ z,0 ≤ y.2 ∧ y.2 ≤ y.1) → 0 ≤ q → q ≤ (z.map (·.1)).sum - (z.map (·.2)).sum → (qT z q).length = z.length ∧ (∀ n,0 ≤ (qT z q).getD n 0 ∧ (qT z q).getD n 0 ≤ (z.map (·.1)).getD n 0) ∧ (qT z q).sum = (z.map (·.2)).sum + q
  | [],q,_,h0,h1 => ⟨rfl,fun n => by simp [qT],by simp at h1; simp [qT]; omega⟩
  | (n,x) :: r,q,h,h0,h1 => by
    have hn := h (n,x) List.mem_cons_self
    simp only [List.map_cons,List.sum_cons] at h1
    have := zLs fun y hy => h y (List.mem_cons_of_mem _ hy)
    have ih := cH r (q - min (n - x) q) (fun y hy => h y (List.mem_cons_of_mem _ hy)) (by omega) (by omega)
    refine ⟨by rw [qT,List.length_cons,List.length_cons,ih.1],fun k => ?_,by rw [qT,List.sum_cons,ih.2.2,List.map_cons,List.sum_cons]; omega⟩
    cases k with
    | zero => exact ⟨by show 0 ≤ x + min (n - x) q; have := hn.1; have := hn.2; dsimp only at *; omega,by show x + min (n - x) q ≤ n; have := hn.2; dsimp only at *; omega⟩
    | succ k => exact ih.2.1 k
theorem zWa {l : List Int} {q : Int} (h1 : l.length ≤ 250) (h2 : 0 ≤ q) (h3 : ∀ x ∈ l,1 ≤ x ∧ x ≤ 1000000) (h4 : q ≤ l.sum) : yI l q = true := by
  rw [yI,decide_eq_true h1,decide_eq_true h2,decide_eq_true h4]
  simp only [Bool.true_and,Bool.and_true,List.all_eq_true,Bool.and_eq_true,decide_eq_true_eq]
  exact h3
theorem zCq {i : PlI} (h : yI i.l i.q = true) (hl : 1 ≤ i.least) : zDy i.l (qB i) i.q := by
  obtain ⟨r1,r2,r3,r4⟩ := qD h
  rw [qB,if_pos ⟨h,hl⟩]
  by_cases hne : i.l.length = 0
  · have e : i.l = [] := List.eq_nil_of_length_eq_zero hne
    have hq : i.q = 0 := by rw [e] at r4; simp at r4; omega
    have e0 : i.p1 = [] := by rw [PlI.p1,e]; rfl
    rw [e0,e,hq]
    exact ⟨rfl,fun n => by simp,rfl⟩
  · obtain ⟨_,_,f1,f2⟩ := aD h (by omega)
    have hpl := zKm i
    have m1 : (i.l.zip i.p0).map (·.1) = i.l := List.map_fst_zip (by omega)
    have m2 : (i.l.zip i.p0).map (·.2) = i.p0 := List.map_snd_zip (by omega)
    have hp := cH (i.l.zip i.p0) (i.q - i.p0.sum) (fun y hy => by
      obtain ⟨j,hj⟩ := List.mem_iff_getElem?.1 hy
      rw [List.getElem?_zip_eq_some] at hj
      exact f1 j _ _ hj.1 hj.2) (by omega) (by rw [m1,m2]; omega)
    rw [m1,m2] at hp
    refine ⟨?_,hp.2.1,?_⟩
    · rw [PlI.p1,hp.1,List.length_zip,hpl,Nat.min_self]
    · rw [PlI.p1,hp.2.2]; omega
theorem zDq : ∀ {l : List Int} {k : Nat} {x : Int},k < l.length → (l.set k x).sum = l.sum + (x - l.getD k 0)
  | [],k,x,h => absurd h (by simp)
  | a :: l,0,x,_ => by
    show x + l.sum = a + l.sum + (x - a); omega
  | a :: l,k + 1,x,h => by
    have := zDq (l := l) (k := k) (x := x) (by simpa using h)
    show a + (l.set k x).sum = a + l.sum + (x - l.getD k 0)
    omega
theorem tK {l : List Int} {k n : Nat} {x : Int} (h : k < l.length) : (l.set k x).getD n 0 = if n = k then x else l.getD n 0 := by
  rw [List.getD_eq_getElem?_getD,List.getElem?_set]
  by_cases e : k = n
  · subst e; rw [if_pos rfl,if_pos h,if_pos rfl]; rfl
  · rw [if_neg e,if_neg (fun e2 => e e2.symm),List.getD_eq_getElem?_getD]
theorem zHb {l : List Int} : ∀ (z : List (Nat × Int)) (o : List Int),(z.map (·.1)).Nodup → (∀ y ∈ z,y.1 < o.length ∧ 0 ≤ y.2 ∧ o.getD y.1 0 + y.2 ≤ l.getD y.1 0) → (∀ n,0 ≤ o.getD n 0 ∧ o.getD n 0 ≤ l.getD n 0 ∧ l.getD n 0 ≤ 1000000) →
    (z.foldl (fun o y => o.set y.1 (IntKind.i64.wrap (o.getD y.1 0 + y.2))) o).length = o.length ∧ (z.foldl (fun o y => o.set y.1 (IntKind.i64.wrap (o.getD y.1 0 + y.2))) o).sum = o.sum + (z.map (·.2)).sum ∧ ∀ n,0 ≤ (z.foldl (fun o y => o.set y.1 (IntKind.i64.wrap (o.getD y.1 0 + y.2))) o).getD n 0 ∧ (z.foldl (fun o y => o.set y.1 (IntKind.i64.wrap (o.getD y.1 0 + y.2))) o).getD n 0 ≤ l.getD n 0
  | [],o,_,_,h => ⟨rfl,by simp,fun n => ⟨(h n).1,(h n).2.1⟩⟩
  | y :: z,o,hn,hz,h => by
    obtain ⟨h1,h2,h3⟩ := hz y List.mem_cons_self
    rw [List.map_cons,List.nodup_cons] at hn
    have hw : IntKind.i64.wrap (o.getD y.1 0 + y.2) = o.getD y.1 0 + y.2 := by
      have := h y.1
      exact w64 (by omega)
    rw [List.foldl_cons,hw]
    have ih := zHb (l := l) z (o.set y.1 (o.getD y.1 0 + y.2)) hn.2 (fun x hx => by
      obtain ⟨g1,g2,g3⟩ := hz x (List.mem_cons_of_mem _ hx)
      have hne : x.1 ≠ y.1 := fun e => hn.1 (e ▸ List.mem_map_of_mem (f := (·.1)) hx)
      rw [List.length_set,tK h1,if_neg hne]
      exact ⟨g1,g2,g3⟩) (fun n => by
      rw [tK h1]
      split
      · rename_i e
        rw [e]
        exact ⟨by have := h y.1; omega,h3,(h y.1).2.2⟩
      · exact h n)
    refine ⟨by rw [ih.1,List.length_set],?_,ih.2.2⟩
    rw [ih.2.1,zDq h1,List.map_cons,List.sum_cons]; omega
theorem rZ (l : List Int) : (List.range l.length).map (fun n => l.getD n 0) = l := by
  apply List.ext_getElem?
  intro n
  rw [List.getElem?_map]
  by_cases h : n < l.length
  · rw [List.getElem?_range h,List.getElem?_eq_getElem h,Option.map_some,List.getD_eq_getElem?_getD,List.getElem?_eq_getElem h]; rfl
  · rw [List.getElem?_eq_none (by simpa using h),List.getElem?_eq_none (by omega)]; rfl
theorem zNt {f g : Nat → Int} : ∀ l : List Nat,(l.map fun n => f n - g n).sum = (l.map f).sum - (l.map g).sum
  | [] => rfl
  | a :: l => by rw [List.map_cons,List.map_cons,List.map_cons,List.sum_cons,List.sum_cons,List.sum_cons,zNt l]; omega
theorem sQ {f : Nat → Int} {p : Nat → Bool} : ∀ {l : List Nat},(∀ n ∈ l,p n = false → f n = 0) → ((l.filter p).map f).sum = (l.map f).sum
  | [],_ => rfl
  | a :: l,h => by
    have ih := sQ (l := l) fun n hn => h n (List.mem_cons_of_mem _ hn)
    rw [List.map_cons,List.sum_cons]
    by_cases e : p a = true
    · rw [List.filter_cons_of_pos e,List.map_cons,List.sum_cons,ih]
    · rw [List.filter_cons_of_neg e,ih,h a List.mem_cons_self (by simpa using e)]; omega
theorem fL {i : RsI} (hl : i.l.length ≤ 250) (ho : i.out.length = i.l.length) (hn : ∀ n,0 ≤ i.out.getD n 0 ∧ i.out.getD n 0 ≤ i.l.getD n 0 ∧ i.l.getD n 0 ≤ 1000000) (hq : 0 ≤ i.q ∧ i.q ≤ i.l.sum - i.out.sum) (hle : 1 ≤ i.least) :
    zDy i.l (uA i) (i.out.sum + i.q) := by
  have hidx : (i.idx i.l.length).length ≤ 250 := Nat.le_trans (List.length_filter_le _ _) (by simpa using hl)
  have hmem : ∀ n ∈ i.idx i.l.length,n < i.l.length ∧ i.out.getD n 0 < i.l.getD n 0 := by
    intro n hn
    obtain ⟨a,b⟩ := List.mem_filter.1 hn
    exact ⟨List.mem_range.1 a,of_decide_eq_true b⟩
  have hls : (i.left i.l.length).sum = i.l.sum - i.out.sum := by
    rw [RsI.left,RsI.idx,sQ,zNt,rZ]
    · rw [← ho,rZ]
    · intro n _ e
      have := of_decide_eq_false e
      have := hn n
      omega
  have hr : yI (i.left i.l.length) i.q = true := by
    refine zWa (by rw [RsI.left,List.length_map]; exact hidx) hq.1 (fun x hx => ?_) (by omega)
    obtain ⟨n,hm,rfl⟩ := List.mem_map.1 hx
    have := hmem n hm
    have := hn n
    omega
  have hp := zCq (i := ⟨i.left i.l.length,i.least,i.q⟩) hr hle
  have hpl : i.pl.length = (i.idx i.l.length).length := by
    have := hp.len
    rw [RsI.pl,this,RsI.left,List.length_map]
  have hnd : (i.idx i.l.length).Nodup := List.nodup_range.sublist List.filter_sublist
  have z1 : ((i.idx i.l.length).zip i.pl).map (·.1) = i.idx i.l.length := List.map_fst_zip (by omega)
  have z2 : ((i.idx i.l.length).zip i.pl).map (·.2) = i.pl := List.map_snd_zip (by omega)
  have hf := zHb (l := i.l) ((i.idx i.l.length).zip i.pl) i.out (by rw [z1]; exact hnd) (fun y hy => by
    obtain ⟨j,hj⟩ := List.mem_iff_getElem?.1 hy
    rw [List.getElem?_zip_eq_some] at hj
    have hm := hmem y.1 (List.mem_of_getElem? hj.1)
    have hb := hp.bd j
    have e1 : (qB ⟨i.left i.l.length,i.least,i.q⟩).getD j 0 = y.2 := by
      rw [List.getD_eq_getElem?_getD]
      have : (qB ⟨i.left i.l.length,i.least,i.q⟩)[j]? = some y.2 := hj.2
      rw [this]; rfl
    have e2 : (i.left i.l.length).getD j 0 = i.l.getD y.1 0 - i.out.getD y.1 0 := by
      rw [List.getD_eq_getElem?_getD,RsI.left,List.getElem?_map,hj.1]; rfl
    dsimp only at hb
    rw [e1,e2] at hb
    exact ⟨by omega,hb.1,by omega⟩) hn
  have hall : uA i = ((i.idx i.l.length).zip i.pl).foldl (fun o y => o.set y.1 (IntKind.i64.wrap (o.getD y.1 0 + y.2))) i.out := by
    rw [uA,RsI.add,List.take_of_length_le (by rw [List.length_zip]; omega)]
  rw [hall]
  refine ⟨by rw [hf.1,ho],hf.2.2,?_⟩
  rw [hf.2.1,z2]
  have := hp.sum
  rw [RsI.pl,this]
theorem zNp {l : List Int} (h : ∀ x ∈ l,1 ≤ x ∧ x ≤ 1000000) (n : Nat) : 0 ≤ l.getD n 0 ∧ l.getD n 0 ≤ 1000000 := by
  by_cases hn : n < l.length
  · obtain ⟨x,hx⟩ := yC hn
    have := h x (List.mem_of_getElem? hx)
    rw [zV hx]; omega
  · rw [List.getD_eq_getElem?_getD,List.getElem?_eq_none (by omega)]; decide
theorem z7o (n k : Nat) : (List.replicate n (0 : Int)).getD k 0 = 0 := by
  rw [List.getD_eq_getElem?_getD,List.getElem?_replicate]
  split <;> rfl
theorem sN (n : Nat) : (List.replicate n (0 : Int)).sum = 0 := by
  induction n with
  | zero => rfl
  | succ n ih => rw [List.replicate_succ,List.sum_cons,ih]; rfl
theorem z7m {q part : Int} (hq : 0 ≤ q) (h0 : 0 ≤ part) (h1 : part ≤ 100) : 0 ≤ q * part / 100 ∧ q * part / 100 ≤ q := by
  have h2 : 0 ≤ q * part := Int.mul_nonneg hq h0
  have h3 : q * part ≤ q * 100 := Int.mul_le_mul_of_nonneg_left h1 hq
  constructor <;> omega
theorem zDa {p : Prd} (hc : p.check = 0) {l : List zG} {q : Int} (hr : yI (l.map (·.qty)) q = true) : zDy (l.map (·.qty)) (xD ⟨p,l,q⟩) q := by
  have ok := xL hc
  obtain ⟨r1,r2,r3,r4⟩ := qD hr
  have q1 := ok.q1
  have q3 := ok.q3
  have q5 := ok.q5
  have q6 := ok.q6
  have r5 := ok.r1
  have r6 := ok.r2
  have gb := zNp r3
  have eqs : (AlI.qs ⟨p,l,q⟩) = l.map (·.qty) := rfl
  rw [xD]
  simp only [eqs]
  generalize l.map (·.qty) = qs at *
  by_cases c1 : p.rule = 1
  · rw [if_pos c1,jB,if_pos hr]
    exact fM _ _ (fun x hx => by have := r3 x hx; omega) r2 r4
  by_cases c2 : p.rule = 2
  · rw [if_neg c1,if_pos c2,cX,if_pos ⟨hr,q3,q1⟩]
    rw [PsI.rs]
    dsimp only
    split
    · rename_i ht
      have hk : (topI l).toNat < (List.replicate qs.length (0 : Int)).length := by simp; omega
      have hf : 0 ≤ PsI.first ⟨qs,topI l,p.top,p.least,q⟩ ∧ PsI.first ⟨qs,topI l,p.top,p.least,q⟩ ≤ qs.getD (topI l).toNat 0 ∧ PsI.first ⟨qs,topI l,p.top,p.least,q⟩ ≤ q := by
        have := gb (topI l).toNat
        simp only [PsI.first]
        omega
      have hs : ((List.replicate qs.length (0 : Int)).set (topI l).toNat (PsI.first ⟨qs,topI l,p.top,p.least,q⟩)).sum = PsI.first ⟨qs,topI l,p.top,p.least,q⟩ := by
        rw [zDq hk,sN,z7o]; omega
      have := fL (i := ⟨qs,(List.replicate qs.length 0).set (topI l).toNat (PsI.first ⟨qs,topI l,p.top,p.least,q⟩),p.least,q - PsI.first ⟨qs,topI l,p.top,p.least,q⟩⟩) r1 (by simp) (fun n => by
        dsimp only
        rw [tK hk,z7o]
        have := gb n
        split
        · rename_i e; rw [e]; exact ⟨hf.1,hf.2.1,(gb _).2⟩
        · omega) (by dsimp only; rw [hs]; omega) q3
      dsimp only at this
      rw [hs] at this
      have e : PsI.first ⟨qs,topI l,p.top,p.least,q⟩ + (q - PsI.first ⟨qs,topI l,p.top,p.least,q⟩) = q := by omega
      rw [e] at this
      exact this
    · have := fL (i := ⟨qs,List.replicate qs.length 0,p.least,q⟩) r1 (by simp) (fun n => by
        dsimp only
        rw [z7o]
        have := gb n
        omega) (by dsimp only; rw [sN]; omega) q3
      dsimp only at this
      rw [sN,Int.zero_add] at this
      exact this
  · have c3 : p.rule = 3 := by omega
    rw [if_neg c1,if_neg c2,if_pos c3,cU,if_pos ⟨hr,q5,q6,q3⟩]
    rw [SpI.rs]
    dsimp only
    obtain ⟨d1,d2⟩ := z7m r2 q5 q6
    have hr2 : yI qs (q * p.part / 100) = true   := zWa r1 d1 r3 (by omega)
    have hfs := fM qs (q * p.part / 100) (fun x hx => by have := r3 x hx; omega) d1 (by omega)
    have e0 : jB qs (q * p.part / 100) = x0 qs (q * p.part / 100) := by rw [jB,if_pos hr2]
    have := fL (i := ⟨qs,jB qs (q * p.part / 100),p.least,q - q * p.part / 100⟩) r1 (by dsimp only; rw [e0]; exact hfs.len) (fun n => by
      dsimp only
      rw [e0]
      exact ⟨(hfs.bd n).1,(hfs.bd n).2,(gb n).2⟩) (by dsimp only; rw [e0,hfs.sum]; omega) q3
    dsimp only at this
    rw [e0,hfs.sum] at this
    rw [e0]
    have e : q * p.part / 100 + (q - q * p.part / 100) = q := by omega
    rw [e] at this
    exact this
theorem zJf {p : Prd} {l : List zG} {q : Int} (hr : yI (l.map (·.qty)) q = false) : xD ⟨p,l,q⟩ = [] := by
  have eqs : (AlI.qs ⟨p,l,q⟩) = l.map (·.qty) := rfl
  rw [xD]
  simp only [eqs,jB,cX,cU,hr]
  simp
open Go Cv Go.Proofs
theorem zQq : motherC.ok Try.prog 26 := zUz gok0 fun b _ => by
  unfold zCo
  cases b <;> exact ⟨(),by decide,trivial⟩
theorem zUr : mgoodC.ok Try.prog 27 := z2t gok0 fun i _ => by
  obtain ⟨s,p,x⟩ := i
  unfold zLf
  cases s
  · refine Cv.cnd.mk (fun _ => zU (fun c => ⟨(),?_,trivial⟩) (fun c => Cv.cnd.mk (fun e => by simp [zB] at e) (fun _ => ⟨(),?_,trivial⟩))) (fun e => by simp [zB] at e)
    · exact decide_eq_true c
    · exact decide_eq_false c
  · exact Cv.cnd.mk (fun e => by simp [zB] at e) (fun _ => Cv.cnd.mk (fun _ => ⟨(),rfl,trivial⟩) (fun e => by simp [zB] at e))
theorem zIu {L : List zG} {s : Int} : ((bestL L s).2 = true ∧ ∃ o ∈ L,o.side = s ∧ o.price = (bestL L s).1.price) ∨ (bestL L s = (⟨0,0,0⟩,false) ∧ ∀ o ∈ L,o.side ≠ s) := by
  rw [bestL]
  cases hl : mI L s with
  | nil =>
    refine .inr ⟨rfl,fun o ho e => ?_⟩
    rw [mI] at hl
    cases hf : L.filter fun o => decide (o.side = s) with
    | nil =>
      rw [List.filter_eq_nil_iff] at hf
      have := hf o ho
      simp [e] at this
    | cons x y =>
      rw [hf,grp] at hl
      split at hl
      · cases hl
      · split at hl <;> cases hl
  | cons v vs =>
    refine .inl ⟨rfl,?_⟩
    rw [mI] at hl
    obtain ⟨o,r,e1,e2⟩ := zGb hl
    have : o ∈ L.filter fun o => decide (o.side = s) := by rw [e1]; exact List.mem_cons_self
    rw [List.mem_filter] at this
    exact ⟨o,this.1,by simpa using this.2,e2⟩
theorem bX {L : List zG} {s : Int} (h : ∀ o ∈ L,-2000000 ≤ o.price ∧ o.price ≤ 2000000) : -2000000 ≤ (bestL L s).1.price ∧ (bestL L s).1.price ≤ 2000000 := by
  rcases zIu (L := L) (s := s) with ⟨_,o,ho,_,e⟩ | ⟨e,_⟩
  · rw [← e]; exact h o ho
  · rw [e]; constructor <;> decide
theorem gR (L : List zG) : (kW L).p1 = (bestL L 1).1.price ∧ (kW L).q1 = (bestL L 1).1.qty ∧ (kW L).has1 = (bestL L 1).2 ∧ (kW L).p2 = (bestL L 2).1.price ∧ (kW L).q2 = (bestL L 2).1.qty ∧ (kW L).has2 = (bestL L 2).2 := by
  have h : ∀ s,(bestL L s).2 = true ∨ bestL L s = (⟨0,0,0⟩,false) := fun s => by
    rcases zIu (L := L) (s := s) with ⟨h,_⟩ | ⟨h,_⟩
    · exact .inl h
    · exact .inr h
  rw [kW,Top.sell,Top.buy]
  rcases h 1 with h1 | h1 <;> rcases h 2 with h2 | h2 <;> simp [h1,h2,top0]
theorem BOk.prices {p : Prd} {B : List (List zG)} (h : BOk p B) {k : Nat} {L : List zG} (hL : B[k]? = some L) : ∀ o ∈ L,-2000000 ≤ o.price ∧ o.price ≤ 2000000 := fun o ho => zGe h.pc (h.pr k L hL o ho)
theorem BOk.tops {p : Prd} {B : List (List zG)} (h : BOk p B) : jA (B.map kW) := by
  have := j1 p
  refine ⟨by rw [List.length_map,h.bl]; omega,fun t ht => ?_⟩
  obtain ⟨L,hL,rfl⟩ := List.mem_map.1 ht
  obtain ⟨k,hk⟩ := List.mem_iff_getElem?.1 hL
  have b1 := bX (s := 1) (h.prices hk)
  have b2 := bX (s := 2) (h.prices hk)
  rw [(gR L).1,(gR L).2.2.2.1]
  exact ⟨by constructor <;> omega,by constructor <;> omega⟩
theorem MSt.Rep.tops {s : MSt} {p : Prd} {B : List (List zG)} (h : s.Rep p B) : s.tops = B.map kW := by
  rw [MSt.tops]
  apply List.ext_getElem?
  intro k
  rw [List.getElem?_map,List.getElem?_map]
  by_cases hk : k < B.length
  · obtain ⟨L,hL⟩ := yC hk
    obtain ⟨b,hb⟩ := yC (l := s.books) (i := k) (by rw [h.bl]; exact hk)
    rw [hL,hb,Option.map_some,Option.map_some,(h.bk k b L hb hL).top]
  · rw [List.getElem?_eq_none (by rw [h.bl]; omega),List.getElem?_eq_none (by omega)]; rfl
theorem MSt.Rep.cnt {s : MSt} {p : Prd} {B : List (List zG)} (h : s.Rep p B) (hB : B.length ≤ 1000000) : s.cntOk := by
  refine ⟨by rw [h.bl]; exact hB,fun b hb => ?_⟩
  obtain ⟨k,hk⟩ := List.mem_iff_getElem?.1 hb
  have hlt := (List.getElem?_eq_some_iff.1 hk).1
  rw [h.bl] at hlt
  obtain ⟨L,hL⟩ := yC hlt
  exact (h.bk k b L hk hL).cnt
theorem zFk {b : Book} {L : List zG} (h : b.Rep L) (sd : Bool) : b.best (b.side sd) = bestL L (zB sd) := by
  obtain ⟨Q,c,ht,rfl⟩ := h
  cases sd
  · exact c.bestL (.inl rfl)
  · exact c.bestL (.inr rfl)
theorem mD (sd : Bool) : zB sd = 1 ∨ zB sd = 2 := by cases sd; exact .inl rfl; exact .inr rfl
theorem yCp (i : NxI) (h : nextC.cnd i) : zPc i := by
  obtain ⟨hR,hB,h0,h1⟩ : i.s.Rep i.p i.B ∧ BOk i.p i.B ∧ 0 ≤ i.inst ∧ i.inst < i.B.length := h
  have hcl := j1 i.p
  have hbl := hB.bl
  have hsl := hR.bl
  obtain ⟨k,hk⟩ : ∃ k : Nat,i.inst = k := ⟨i.inst.toNat,by omega⟩
  obtain ⟨L,hL⟩ := yC (l := i.B) (i := k) (by omega)
  obtain ⟨b,hb⟩ := yC (l := i.s.books) (i := k) (by omega)
  have hbR := hR.bk k b L hb hL
  have hps : i.s.p.small := by rw [hR.ep]; exact hB.ps
  have hto : jA i.s.tops := by rw [hR.tops]; exact hB.tops
  have hnx : zL i.p i.B i.inst (zB i.sd) = if ((bestL L (zB i.sd)).2 && !((zT (xO ⟨i.s.p,i.s.tops,i.inst⟩ (zB i.sd)) (zB i.sd)).2 && btr (zB i.sd) (zT (xO ⟨i.s.p,i.s.tops,i.inst⟩ (zB i.sd)) (zB i.sd)).1.price (bestL L (zB i.sd)).1.price)) = true then (⟨(bestL L (zB i.sd)).1.price,(bestL L (zB i.sd)).1.qty,⟨0,0⟩,⟨0,0⟩⟩,false,true) else ((zT (xO ⟨i.s.p,i.s.tops,i.inst⟩ (zB i.sd)) (zB i.sd)).1,(zT (xO ⟨i.s.p,i.s.tops,i.inst⟩ (zB i.sd)) (zB i.sd)).2,(zT (xO ⟨i.s.p,i.s.tops,i.inst⟩ (zB i.sd)) (zB i.sd)).2) := by
    rw [zL,hR.tops,hR.ep,hk,Int.toNat_natCast,zV hL]
  have hbest := zFk hbR i.sd
  unfold zPc zDe zEn
  have hcnt : i.s.cntOk := hR.cnt (by omega)
  have hql : (xO ⟨i.s.p,i.s.tops,i.inst⟩ (zB i.sd)).length ≤ 1000000 := by
    have := Nat.le_trans (List.length_filter_le (fun q => decide (i.s.p.price i.inst q.price = 0)) _) (zHl ⟨i.s.p,i.s.tops,i.inst⟩ (zB i.sd))
    exact Nat.le_trans this (by decide)
  refine (fun hT => ⟨⟨i.s,rfl,rfl,rfl,rfl,rfl,rfl,rfl,rfl,rfl,rfl,rfl,rfl,rfl,hcnt,fun _ _ => ⟨⟨rfl,trivial,rfl,rfl,rfl,rfl,rfl,rfl,rfl,rfl,trivial,trivial⟩,⟨⟨⟨i.s.p,i.s.tops,i.inst⟩,i.sd⟩,rfl,rfl,rfl,rfl,rfl,rfl,rfl,rfl,rfl,rfl,rfl,rfl,rfl,rfl,⟨hps,hto⟩,fun _ _ => ⟨hT,hT⟩⟩,⟨rfl,trivial,rfl,rfl,rfl,rfl,rfl,rfl,rfl,rfl,trivial,trivial⟩,⟨⟨⟨i.s.p,i.s.tops,i.inst⟩,i.sd⟩,rfl,rfl,rfl,rfl,rfl,rfl,rfl,rfl,rfl,rfl,rfl,rfl,rfl,rfl,⟨hps,hto⟩,fun _ _ => hT⟩⟩⟩,
    ⟨rfl,trivial,rfl,rfl,rfl,rfl,rfl,rfl,rfl,rfl,trivial,trivial⟩,⟨i.s,rfl,rfl,rfl,rfl,rfl,rfl,rfl,rfl,rfl,rfl,rfl,rfl,rfl,hcnt,fun _ _ => ⟨⟨rfl,trivial,rfl,rfl,rfl,rfl,rfl,rfl,rfl,rfl,trivial,trivial⟩,⟨⟨⟨i.s.p,i.s.tops,i.inst⟩,i.sd⟩,rfl,rfl,rfl,rfl,rfl,rfl,rfl,rfl,rfl,rfl,rfl,rfl,rfl,rfl,⟨hps,hto⟩,fun _ _ => hT⟩⟩⟩⟩) ?_
  refine ⟨⟨xO ⟨i.s.p,i.s.tops,i.inst⟩ (zB i.sd),zB i.sd⟩,rfl,rfl,⟨mD _,hql⟩,fun _ _ => ⟨⟨h0,by omega⟩,by omega,b,by rw [hk]; exact hb,⟨i.sd,b⟩,rfl,rfl,hbR.cnt,fun _ _ => ⟨b,rfl,rfl,by omega,?_⟩⟩⟩
  dsimp only
  rw [hbest]
  generalize bestL L (zB i.sd) = l at *
  generalize zT (xO ⟨i.s.p,i.s.tops,i.inst⟩ (zB i.sd)) (zB i.sd) = bq at *
  have hset : i.s.books.set i.inst.toNat b = i.s.books := wF (by rw [hk]; exact hb)
  rw [hset]
  refine Cv.cnd.mk (fun c1 => Cv.cnd.mk (fun c2 => ⟨⟨zB i.sd,bq.1.price,l.1.price⟩,rfl,rfl,rfl,trivial,fun _ _ => Cv.cnd.mk (fun c3 => ?_) (fun c3 => ?_)⟩) (fun c2 => ?_)) (fun c1 => ?_)
  · dsimp only at c3
    rw [if_pos (by rw [c1,c2]; simpa using c3)] at hnx
    rw [hnx]; exact ⟨(),by (repeat' (first|exact trivial|exact rfl|apply And.intro))⟩
  · dsimp only at c3
    rw [if_neg (by rw [c1,c2]; simpa using c3)] at hnx
    rw [hnx]; exact ⟨(),by (repeat' (first|exact trivial|exact rfl|apply And.intro))⟩
  · rw [if_pos (by rw [c1,c2]; rfl)] at hnx
    rw [hnx]; exact ⟨(),by (repeat' (first|exact trivial|exact rfl|apply And.intro))⟩
  · rw [if_neg (by rw [c1]; simp)] at hnx
    rw [hnx]; exact ⟨(),by (repeat' (first|exact trivial|exact rfl|apply And.intro))⟩
theorem zZi : nextC.ok Try.prog 25 := z6s (gokc zTk (gokc zQa (gokc zSz (gokc zDl (gokc vL gok0))))) yCp
theorem zLr (i : RsI) (k : Nat) : (i.add k).length = i.out.length := by
  have : ∀ (l : List (Nat × Int)) (o : List Int),(l.foldl (fun o y => o.set y.1 (IntKind.i64.wrap (o.getD y.1 0 + y.2))) o).length = o.length := by
    intro l
    induction l with
    | nil => intro o; rfl
    | cons x l ih => intro o; rw [List.foldl_cons,ih,List.length_set]
  exact this _ _
theorem zFd (l : List Int) (q : Int) : (jB l q).length ≤ l.length := by
  rw [jB]; split
  · rw [fC]; exact Nat.le_refl _
  · exact Nat.zero_le _
theorem zPv (i : AlI) : (xD i).length ≤ i.l.length := by
  have hq : i.qs.length = i.l.length := by simp [AlI.qs]
  rw [xD,← hq]
  repeat' split
  · exact zFd _ _
  · rw [cX]; split
    · rw [uA,zLr,PsI.rs]
      split
      · simp
      · simp
    · exact Nat.zero_le _
  · rw [cU]; split
    · rw [uA,zLr]; exact zFd _ _
    · exact Nat.zero_le _
  · exact Nat.zero_le _
theorem tJ {inst s : Int} : ∀ {os : List zG} {sh : List Int} {j : Nat} {o : zG} {k : Int},os[j]? = some o → sh[j]? = some k → yW inst s (os.take (j + 1)) (sh.take (j + 1)) = yW inst s (os.take j) (sh.take j) ++ (if 0 < k then [⟨o.id,inst,s,o.price,k,o.qty - k⟩] else [])
  | [],_,_,_,_,h,_ => by simp at h
  | _ :: _,[],_,_,_,_,h => by simp at h
  | o :: os,k :: sh,0,_,_,h,h2 => by
    cases h; cases h2
    rw [List.take_succ_cons,List.take_succ_cons,List.take_zero,List.take_zero,List.take_zero,List.take_zero,yW]
    split <;> rfl
  | o :: os,k :: sh,j + 1,o',k',h,h2 => by
    rw [List.take_succ_cons,List.take_succ_cons,yW,List.take_succ_cons,List.take_succ_cons,yW,tJ (os := os) (sh := sh) (j := j) h h2]
    split <;> rfl
theorem zAw {inst s : Int} : ∀ (os : List zG) (sh : List Int),yW inst s (os.take sh.length) (sh.take sh.length) = yW inst s os sh
  | [],sh => by simp
  | _ :: _,[] => by simp [yW]
  | o :: os,k :: sh => by
    rw [List.length_cons,List.take_succ_cons,List.take_succ_cons,yW,yW,zAw os sh]
theorem zRi (B : List (List zG)) (a b : List wR) : xC B (a ++ b) = xC (xC B a) b := List.foldl_append
theorem zFp (B : List (List zG)) (id q : Int) : (xW B id q).1.length = B.length := by
  rw [xW]; split
  · rfl
  · simp
theorem kU : ∀ (fs : List wR) (B : List (List zG)),(xC B fs).length = B.length
  | [],B => rfl
  | f :: fs,B => by
    show (xC (xW B f.id f.qty).1 fs).length = _
    rw [kU fs,zFp]
theorem z8m {p : Prd} (h : p.check = 0) : yN p.least ∧ yN p.top ∧ yN p.part := by
  have ok := xL h
  have := ok.q1
  have := ok.q2
  have := ok.q3
  have := ok.q4
  have := ok.q5
  have := ok.q6
  exact ⟨⟨by omega,by omega⟩,⟨by omega,by omega⟩,⟨by omega,by omega⟩⟩
theorem z6k (i : TrI) (h : tradeC.cnd i) : zDt i := by
  obtain ⟨hR,hB,h0,h1,hq⟩ : i.s.Rep i.p i.B ∧ BOk i.p i.B ∧ 0 ≤ i.inst ∧ i.inst < i.B.length ∧ yN i.q := h
  have hcl := j1 i.p
  have hbl := hB.bl
  have hsl := hR.bl
  have ep := hR.ep
  obtain ⟨k,hk⟩ : ∃ k : Nat,i.inst = k := ⟨i.inst.toNat,by omega⟩
  obtain ⟨L,hL⟩ := yC (l := i.B) (i := k) (by omega)
  obtain ⟨b,hb⟩ := yC (l := i.s.books) (i := k) (by omega)
  have hbR := hR.bk k b L hb hL
  have hbest := zFk hbR i.sd
  have hos : atL L (zB i.sd) (bestL L (zB i.sd)).1.price = i.os := by rw [TrI.os,fN,hk,Int.toNat_natCast,zV hL]
  have hset : i.s.books.set i.inst.toNat b = i.s.books := wF (by rw [hk]; exact hb)
  have hosl : i.os.length ≤ 250 := by
    rw [← hos]; exact Nat.le_trans (List.length_filter_le _ _) hbR.ords.2.2
  have hsh : i.sh.length ≤ i.os.length := zPv _
  obtain ⟨k1,k2,k3⟩ := z8m hB.pc
  have hsb : ∀ (j : Nat) (n : Int),i.sh[j]? = some n → n ≤ 1000000 := by
    intro j n hn
    cases hr : yI (i.os.map (·.qty)) i.q with
    | false =>
      have : i.sh = [] := zJf hr
      rw [this] at hn; cases hn
    | true =>
      have := (zDa hB.pc hr).bd j
      have e : (xD ⟨i.p,i.os,i.q⟩).getD j 0 = n := zV hn
      rw [e] at this
      have := (zNp (qD hr).2.2.1 j).2
      omega
  unfold zDt
  refine ⟨⟨h0,by omega⟩,by omega,b,by rw [hk]; exact hb,⟨i.sd,b⟩,rfl,rfl,hbR.cnt,fun _ _ => ?_⟩
  refine ⟨b,rfl,rfl,by omega,b,by rw [hset,hk]; exact hb,⟨b,L,i.sd,(bestL L (zB i.sd)).1.price⟩,rfl,by dsimp only; rw [hbest],rfl,hbR,fun _ _ => ?_⟩
  dsimp only
  try rw [hbest]
  rw [hset,hos]
  refine ⟨b,rfl,rfl,by omega,⟨i.p,i.os,i.q⟩,by rw [ep],by rw [ep],by rw [ep],by rw [ep],by rw [ep],by rw [ep],by rw [ep],by rw [ep],by rw [ep],by rw [ep],by rw [ep],rfl,rfl,⟨by dsimp only;omega,hq,k1,k2,k3⟩,fun _ _ => ?_⟩
  have esh : xD ⟨i.p,i.os,i.q⟩ = i.sh := rfl
  rw [esh,hset,yY,List.length_map]
  refine ⟨(0,i.s),rfl,rfl,rfl,rfl,rfl,rfl,rfl,rfl,rfl,rfl,rfl,rfl,rfl,rfl,rfl,fun j => j.2.Rep i.p (xC i.B (i.fs j.1)) ∧ j.1 ≤ i.sh.length,fun j => i.sh.length - j.1,⟨hR,Nat.zero_le _⟩,fun j hj => ?_⟩
  obtain ⟨hjR,hjl⟩ := hj
  obtain ⟨j,sj⟩ := j
  dsimp only at hjR hjl ⊢
  refine zU (fun c => ?_) (fun c => ?_)
  · obtain ⟨n,hn⟩ := yC (l := i.sh) (i := j) (by omega)
    obtain ⟨o,ho⟩ := yC (l := i.os) (i := j) (by omega)
    have hst := tJ (inst := i.inst) (s := zB i.sd) ho hn
    have hoL : o ∈ L := by
      have := List.mem_of_getElem? ho
      rw [← hos] at this
      exact (List.mem_filter.1 this).1
    have hoq := (hbR.ords.1 o hoL).q
    have hnb := hsb j n hn
    refine ⟨⟨by omega,by omega⟩,n,elI hn,zU (fun c2 => ?_) (fun c2 => ?_)⟩
    · rw [if_pos (show 0 < n from c2)] at hst
      have hfl : (i.fs j).length ≤ j := by
        have : ∀ (os : List zG) (sh : List Int),(yW i.inst (zB i.sd) os sh).length ≤ os.length := by
          intro os
          induction os with
          | nil => intro sh; exact Nat.le_refl 0
          | cons o os ih =>
            intro sh
            cases sh with
            | nil => exact Nat.zero_le _
            | cons k sh =>
              have := ih sh
              rw [yW]
              split
              · simp only [List.length_cons]; omega
              · simp only [List.length_cons]; omega
        exact Nat.le_trans (this _ _) (by rw [List.length_take]; omega)
      refine ⟨⟨by omega,by omega⟩,o.id,o.side,o.price,o.qty,o.top,z6n ho,⟨sj,i.p,xC i.B (i.fs j),o.id,n⟩,rfl,rfl,rfl,⟨hjR,by dsimp only; rw [kU]; omega⟩,fun s' hs' => ⟨by rw [List.length_map]; omega,(j + 1,s'),wjn (by omega),rfl,?_,⟨?_,by dsimp only;omega⟩,by dsimp only;omega,by (repeat' (first|exact trivial|exact rfl|apply And.intro))⟩⟩
      · show List.map xU (yW i.inst (zB i.sd) (i.os.take (j + 1)) (i.sh.take (j + 1))) = _
        rw [hst,List.map_append,w64 (by omega)]; rfl
      · show s'.Rep i.p (xC i.B (yW i.inst (zB i.sd) (i.os.take (j + 1)) (i.sh.take (j + 1))))
        rw [hst,zRi]; exact hs'
    · rw [if_neg (show ¬ 0 < n from c2),List.append_nil] at hst
      refine ⟨(j + 1,sj),wjn (by omega),rfl,?_,⟨?_,by dsimp only;omega⟩,by dsimp only;omega,by (repeat' (first|exact trivial|exact rfl|apply And.intro))⟩
      · show List.map xU (yW i.inst (zB i.sd) (i.os.take (j + 1)) (i.sh.take (j + 1))) = _
        rw [hst]; rfl
      · show sj.Rep i.p (xC i.B (yW i.inst (zB i.sd) (i.os.take (j + 1)) (i.sh.take (j + 1))))
        rw [hst]; exact hjR
  · have hje : j = i.sh.length := by omega
    subst hje
    have hfa : i.fs i.sh.length = yH i.p i.B i.inst (zB i.sd) i.q := zAw _ _
    rw [hfa] at hjR ⊢
    exact ⟨sj,rfl,rfl,hjR⟩
theorem zVh : tradeC.ok Try.prog 28 := zZd (gokc zDl (gokc yBx (gokc zUo (gokc zTj gok0)))) z6k
open Go Cv Go.Proofs
structure wY where
  price : Int
  qty : Int
  implied : Bool
  fills : List wR
  deriving DecidableEq
def zZ (t : wY) : List D := [.v (.int .i64 t.price),.v (.int .i64 t.qty),.v (.bool t.implied),.ro 6 (t.fills.map xU)]
def jU (p : Prd) (B : List (List zG)) (inst : Int) (sd : Bool) (price qty : Int) : Option (wY × List (List zG)) :=
  let n := zL p B inst (zB (!sd))
  if (n.2.2 && (v9 sd price n.1.price && decide (1 ≤ n.1.qty))) = true then
    if n.2.1 = true then
      let f1 := yH p B n.1.a.inst n.1.a.side (min qty n.1.qty)
      let f2 := yH p (xC B f1) n.1.b.inst n.1.b.side (min qty n.1.qty)
      some (⟨n.1.price,min qty n.1.qty,true,f1 ++ f2⟩,xC (xC B f1) f2)
    else
      let f := yH p B inst (zB (!sd)) (min qty n.1.qty)
      some (⟨n.1.price,min qty n.1.qty,false,f⟩,xC B f)
  else none
structure z2q where
  steps : List wY
  left : Int
  B : List (List zG)
def wE (p : Prd) (inst : Int) (sd : Bool) (price : Int) : Nat → List (List zG) → Int → z2q
  | 0,B,q => ⟨[],q,B⟩
  | n + 1,B,q => if q ≤ 0 then ⟨[],q,B⟩ else match jU p B inst sd price q with
    | none => ⟨[],q,B⟩
    | some (t,B') => let r := wE p inst sd price n B' (q - t.qty); ⟨t :: r.steps,r.left,r.B⟩
def uM (p : Prd) (B : List (List zG)) (inst : Int) (sd : Bool) (price q : Int) : z2q := wE p inst sd price q.toNat B q
structure RunI where
  s : MSt
  p : Prd
  B : List (List zG)
  inst : Int
  sd : Bool
  price : Int
  q : Int
def RunI.r (i : RunI) : z2q := uM i.p i.B i.inst i.sd i.price i.q
def runC : Con where
  ι := RunI
  pat := fun i => [.nm 0 0,zF i.inst,zF (zB i.sd),zF i.price,zF i.q]
  pre := fun i => [zO i.s]
  cnd := fun i => i.s.Rep i.p i.B ∧ BOk i.p i.B ∧ (0 ≤ i.inst ∧ i.inst < i.B.length) ∧ 1 ≤ i.q ∧ i.q ≤ 1000000
  alts := fun i => [{ o := MSt,res := fun _ => .tup [.own 1,zF i.r.left],post := fun s => [zO s,.own 41 4 (i.r.steps.map zZ)],rel := fun s => s.Rep i.p i.r.B }]
structure zKi where
  s : MSt
  B : List (List zG)
  steps : List wY
  q : Int
def yAh : List SAnn := [
  { ι := zKi,slots := fun j => [(0,.nm 0 0),(12,.own 1),(4,zF j.q)],rows := fun j => [zO j.s,.own 41 4 (j.steps.map zZ)] },
  { ι := Unit,slots := fun _ => [],rows := fun _ => [],un := 3 }]
structure RbI where
  s : MSt
  inst : Int
  side : Int
  price : Int
  q : Int
open Go Cv Go.Proofs
@[reducible] def zJz (i : RunI) : Prop := ∃ (i0 : zKi),i0.q = i.q∧sb i0.s.p.code = sb i.s.p.code∧i0.s.p.tick = i.s.p.tick∧i0.s.p.low = i.s.p.low∧i0.s.p.high = i.s.p.high∧i0.s.p.wide = i.s.p.wide∧i0.s.p.rule = i.s.p.rule∧i0.s.p.top = i.s.p.top∧i0.s.p.least = i.s.p.least∧i0.s.p.part = i.s.p.part∧AObj.objs 64 Book 6 zQ i0.s.books none = AObj.objs 64 Book 6 zQ i.s.books none∧yJ i0.s.wh = yJ i.s.wh∧AObj.fro 1 (iE i0.s.p.months) = AObj.fro 1 (iE i.s.p.months)∧AObj.fro 1 (iE i0.s.p.settle) = AObj.fro 1 (iE i.s.p.settle)∧List.map zZ i0.steps = []∧∃ (I : zKi→Prop),∃ (μ : zKi→Nat),I i0∧∀ (i_1 : zKi),I i_1→cnd (decide (i_1.q > 0)) (∃ (i_2 : Bool),zB i_2 = zB i.sd∧True∧∀ (o : Unit),True→∃ (i_3 : NxI),i_3.inst = i.inst∧zB i_3.sd = zB !i_2∧zO i_3.s = zO i_1.s∧(i_3.s.Rep i_3.p i_3.B∧BOk i_3.p i_3.B∧0 ≤ i_3.inst∧i_3.inst < (↑i_3.B.length : Int))∧∀ (o : Unit),True→cnd (!(zL i_3.p i_3.B i_3.inst (zB i_3.sd)).snd.snd) (∃ (o : MSt),i.r.left = i_1.q∧zO o = zO i_3.s∧List.map zZ i.r.steps = List.map zZ i_1.steps∧o.Rep i.p i.r.B) (∃ (i_4 : GoI),zB i_4.s = zB i.sd∧i_4.p = i.price∧i_4.x = (zL i_3.p i_3.B i_3.inst (zB i_3.sd)).fst.price∧True∧∀ (o : Unit),True→cnd (!v9 i_4.s i_4.p i_4.x) (∃ (o : MSt),i.r.left = i_1.q∧zO o = zO i_3.s∧List.map zZ i.r.steps = List.map zZ i_1.steps∧o.Rep i.p i.r.B) (cnd (zL i_3.p i_3.B i_3.inst (zB i_3.sd)).snd.fst (∃ (i_5 : TrI),i_5.inst = (zL i_3.p i_3.B i_3.inst (zB i_3.sd)).fst.a.inst∧zB i_5.sd = (zL i_3.p i_3.B i_3.inst (zB i_3.sd)).fst.a.side∧i_5.q = min i_1.q (zL i_3.p i_3.B i_3.inst (zB i_3.sd)).fst.qty∧zO i_5.s = zO i_3.s∧(i_5.s.Rep i_5.p i_5.B∧BOk i_5.p i_5.B∧0 ≤ i_5.inst∧i_5.inst < (↑i_5.B.length : Int)∧(-9223372036854775808) ≤ i_5.q∧i_5.q ≤ 9223372036854775807)∧∀ (o : MSt),o.Rep i_5.p (xC i_5.B (yH i_5.p i_5.B i_5.inst (zB i_5.sd) i_5.q))→True∧(List.map xU (yH i_5.p i_5.B i_5.inst (zB i_5.sd) i_5.q)).length * (48 : Nat) ≤ (70368744177664 : Nat)∧∃ (i_6 : TrI),i_6.inst = (zL i_3.p i_3.B i_3.inst (zB i_3.sd)).fst.b.inst∧zB i_6.sd = (zL i_3.p i_3.B i_3.inst (zB i_3.sd)).fst.b.side∧i_6.q = min i_1.q (zL i_3.p i_3.B i_3.inst (zB i_3.sd)).fst.qty∧zO i_6.s = zO o∧(i_6.s.Rep i_6.p i_6.B∧BOk i_6.p i_6.B∧0 ≤ i_6.inst∧i_6.inst < (↑i_6.B.length : Int)∧(-9223372036854775808) ≤ i_6.q∧i_6.q ≤ 9223372036854775807)∧∀ (o : MSt),o.Rep i_6.p (xC i_6.B (yH i_6.p i_6.B i_6.inst (zB i_6.sd) i_6.q))→True∧((List.map xU (yH i_5.p i_5.B i_5.inst (zB i_5.sd) i_5.q)).length + (List.map xU (yH i_6.p i_6.B i_6.inst (zB i_6.sd) i_6.q)).length) * (48 : Nat) ≤ (70368744177664 : Nat)∧((List.map zZ i_1.steps).length + 1) * (48 : Nat) ≤ (70368744177664 : Nat)∧∃ (i' : zKi),i'.q = IntKind.i64.wrap (i_1.q - min i_1.q (zL i_3.p i_3.B i_3.inst (zB i_3.sd)).fst.qty)∧zO i'.s = zO o∧List.map zZ i'.steps = List.map zZ i_1.steps ++ [[D.v (.int .i64 (zL i_3.p i_3.B i_3.inst (zB i_3.sd)).fst.price),D.v (.int .i64 (min i_1.q (zL i_3.p i_3.B i_3.inst (zB i_3.sd)).fst.qty)),D.v (.bool (zL i_3.p i_3.B i_3.inst (zB i_3.sd)).snd.fst),D.ro 6 (List.map xU (yH i_5.p i_5.B i_5.inst (zB i_5.sd) i_5.q) ++ List.map xU (yH i_6.p i_6.B i_6.inst (zB i_6.sd) i_6.q))]]∧I i'∧μ i' < μ i_1∧AObj.fro 1 (iE i.s.p.months) = AObj.fro 1 (iE i.s.p.months)∧AObj.fro 1 (iE i.s.p.settle) = AObj.fro 1 (iE i.s.p.settle)) (∃ (i_5 : Bool),zB i_5 = zB i.sd∧True∧∀ (o : Unit),True→min i_1.q (zL i_3.p i_3.B i_3.inst (zB i_3.sd)).fst.qty = min i_1.q (zL i_3.p i_3.B i_3.inst (zB i_3.sd)).fst.qty∧∃ (i_6 : TrI),i_6.inst = i.inst∧zB i_6.sd = zB !i_5∧i_6.q = min i_1.q (zL i_3.p i_3.B i_3.inst (zB i_3.sd)).fst.qty∧zO i_6.s = zO i_3.s∧(i_6.s.Rep i_6.p i_6.B∧BOk i_6.p i_6.B∧0 ≤ i_6.inst∧i_6.inst < (↑i_6.B.length : Int)∧(-9223372036854775808) ≤ i_6.q∧i_6.q ≤ 9223372036854775807)∧∀ (o : MSt),o.Rep i_6.p (xC i_6.B (yH i_6.p i_6.B i_6.inst (zB i_6.sd) i_6.q))→((List.map zZ i_1.steps).length + 1) * (48 : Nat) ≤ (70368744177664 : Nat)∧∃ (i' : zKi),i'.q = IntKind.i64.wrap (i_1.q - min i_1.q (zL i_3.p i_3.B i_3.inst (zB i_3.sd)).fst.qty)∧zO i'.s = zO o∧List.map zZ i'.steps = List.map zZ i_1.steps ++ [[D.v (.int .i64 (zL i_3.p i_3.B i_3.inst (zB i_3.sd)).fst.price),D.v (.int .i64 (min i_1.q (zL i_3.p i_3.B i_3.inst (zB i_3.sd)).fst.qty)),D.v (.bool (zL i_3.p i_3.B i_3.inst (zB i_3.sd)).snd.fst),D.ro 6 (List.map xU (yH i_6.p i_6.B i_6.inst (zB i_6.sd) i_6.q))]]∧I i'∧μ i' < μ i_1∧AObj.fro 1 (iE i.s.p.months) = AObj.fro 1 (iE i.s.p.months)∧AObj.fro 1 (iE i.s.p.settle) = AObj.fro 1 (iE i.s.p.settle))))) (∃ (o : MSt),i.r.left = i_1.q∧zO o = zO i_1.s∧List.map zZ i.r.steps = List.map zZ i_1.steps∧o.Rep i.p i.r.B)
@[reducible] def fP (i : RunI) : Prop := ∃ (o : MSt),i.r.left = i.q∧sb o.p.code = sb i.s.p.code∧o.p.tick = i.s.p.tick∧o.p.low = i.s.p.low∧o.p.high = i.s.p.high∧o.p.wide = i.s.p.wide∧o.p.rule = i.s.p.rule∧o.p.top = i.s.p.top∧o.p.least = i.s.p.least∧o.p.part = i.s.p.part∧AObj.objs 64 Book 6 zQ o.books none = AObj.objs 64 Book 6 zQ i.s.books none∧yJ o.wh = yJ i.s.wh∧AObj.fro 1 (iE o.p.months) = AObj.fro 1 (iE i.s.p.months)∧AObj.fro 1 (iE o.p.settle) = AObj.fro 1 (iE i.s.p.settle)∧List.map zZ i.r.steps = []∧o.Rep i.p i.r.B
def z0t (i : RunI) : Prop :=
  cnd (decide (i.inst ≥ 0)) (cnd (decide (i.inst < (↑i.s.books.length : Int))) (cnd (zB i.sd == 1) (cnd (decide (i.q ≥ 1)) (cnd (!decide (i.q ≤ 1000000)) (fP i) (zJz i)) (fP i)) (cnd (zB i.sd == 2) (cnd (decide (i.q ≥ 1)) (cnd (!decide (i.q ≤ 1000000)) (fP i) (zJz i)) (fP i)) (fP i))) (fP i)) (fP i)
theorem yBf (i : RunI) : z0t i = walk Try.prog ([(25,nextC),(26,motherC),(27,mgoodC),(28,tradeC)]) 2 ([]) (yAh) [0] Try.f10 (Try.f10.body.getD .skip) (runC.pat i) (runC.pre i) (runC.alts i) := by kernel_rfl
theorem yCi (hG : GOk Try.prog ([(25,nextC),(26,motherC),(27,mgoodC),(28,tradeC)])) (h : ∀ (i : RunI),runC.cnd i → z0t i) : runC.ok Try.prog 10 := zE mixed ([(25,nextC),(26,motherC),(27,mgoodC),(28,tradeC)]) hG 2 (fun (i : RunI) => []) (fun (i : RunI) => yAh) [0] Try.func10 (by kernel_rfl) (by kernel_rfl) (by kernel_rfl) (fun _ => by kernel_rfl) (fun (i : RunI) hc => Eq.mp (yBf i) (h i hc))
open Go Cv Go.Proofs
structure QOk (T : List Top) (q : Quote) : Prop where
  a : 0 ≤ q.a.inst ∧ q.a.inst < T.length
  b : 0 ≤ q.b.inst ∧ q.b.inst < T.length
  sa : q.a.side = 1 ∨ q.a.side = 2
  sb : q.b.side = 1 ∨ q.b.side = 2
  ne : q.a.inst ≠ q.b.inst
  ha : (T.getD q.a.inst.toNat top0).has q.a.side = true
  hb : (T.getD q.b.inst.toNat top0).has q.b.side = true
  qty : q.qty = min ((T.getD q.a.inst.toNat top0).qty q.a.side) ((T.getD q.b.inst.toNat top0).qty q.b.side)
theorem zLj {T : List Top} {a b : Leg} {less : Bool} {q : Quote} (h : q ∈ mkq T a b less) (h1 : 0 ≤ a.inst ∧ a.inst < T.length) (h2 : 0 ≤ b.inst ∧ b.inst < T.length) (h3 : a.side = 1 ∨ a.side = 2) (h4 : b.side = 1 ∨ b.side = 2) (hne : a.inst ≠ b.inst) : QOk T q ∧ q.a = a ∧ q.b = b := by
  cases less
  all_goals
    simp only [mkq,Bool.false_eq_true,↓reduceIte] at h
    split at h
    · rename_i hc
      simp only [Bool.and_eq_true] at hc
      rw [List.mem_singleton] at h
      subst h
      exact ⟨⟨h1,h2,h3,h4,hne,hc.1.1,hc.1.2,rfl⟩,rfl,rfl⟩
    · cases h
theorem z7d : ∀ n ≤ 6,∀ k < n + n * (n - 1) / 2,n ≤ k → (xZ n k n 0).1 ≠ (xZ n k n 0).2.1 := by decide
theorem zOl {p : Prd} (hc : p.check = 0) {k : Nat} (hk : k < p.count) (hs : (p.legs k).2.2 = true) : (p.legs k).1 ≠ (p.legs k).2.1 := by
  have m6 := (xL hc).m6
  have hk' := hk
  rw [Prd.count,if_pos hc] at hk'
  by_cases h : k < p.months.length
  · rw [Prd.legs,if_neg (by omega),if_pos (by omega)] at hs
    cases hs
  · rw [Prd.legs,if_neg (by omega),if_neg (by omega)]
    exact z7d p.months.length m6 k hk' (by omega)
theorem zQi : ∀ n ≤ 6,∀ a < n,∀ b < n,a < b → (z5 n a : Int) + b - a - 1 ≥ n := by decide
theorem lS {p : Prd} (hc : p.check = 0) {a b : Nat} (hab : a < b) (hb : b < p.months.length) : (p.months.length : Int) ≤ (p.spread a b).1 := by
  have m6 := (xL hc).m6
  have := zQi p.months.length m6 a (by omega) b hb hab
  rw [Prd.spread,if_neg (by omega)]
  simpa using this
theorem z3o {p : Prd} (hc : p.check = 0) {T : List Top} (hT : T.length = p.count) {inst : Int} {s : Int} (hs : s = 1 ∨ s = 2) {q : Quote} (h : q ∈ xI ⟨p,T,inst⟩ s) : QOk T q ∧ 0 ≤ inst ∧ inst < p.count ∧
    (((p.legs inst).2.2 = true ∧ q.a = ⟨(p.legs inst).1,s⟩ ∧ q.b = ⟨(p.legs inst).2.1,3 - s⟩) ∨ (inst < p.months.length ∧ q.a.inst ≠ inst ∧ (p.months.length : Int) ≤ q.a.inst)) := by
  rw [xI] at h
  dsimp only at h
  split at h
  · cases h
  · rename_i hn
    have h0 : 0 ≤ inst ∧ inst < p.count := by omega
    obtain ⟨k,rfl⟩ : ∃ k : Nat,inst = k := ⟨inst.toNat,by omega⟩
    have hk : k < p.count := by omega
    have hge := fA hc
    split at h
    · rename_i hl
      obtain ⟨q',hq',rfl⟩ := List.mem_map.1 h
      have hle := jR hc hk
      rcases hle with ⟨_,l1,l2,l3,l4⟩ | ⟨e,_⟩
      · obtain ⟨ok,e1,e2⟩ := zLj hq' (by dsimp only;omega) (by dsimp only;omega) (by dsimp only;omega) hs (fun e => zOl hc hk hl e.symm)
        refine ⟨⟨by dsimp only [qR]; omega,by dsimp only [qR]; omega,hs,by dsimp only [qR]; omega,zOl hc hk hl,?_,?_,?_⟩,h0.1,h0.2,.inl ⟨hl,rfl,rfl⟩⟩
        · have := ok.hb; rw [e2] at this; exact this
        · have := ok.ha; rw [e1] at this; exact this
        · have := ok.qty; rw [e1,e2] at this; dsimp only [qR]; rw [this]; exact Int.min_comm _ _
      · rw [e] at hl; cases hl
    · rename_i hl
      have hm : k < p.months.length := by
        rcases jR hc hk with ⟨e,_⟩ | ⟨_,e⟩
        · exact absurd e hl
        · exact e
      rcases List.mem_append.1 h with h | h
      · obtain ⟨j,hj,h⟩ := List.mem_flatMap.1 h
        have hj := List.mem_range.1 hj
        rw [Int.toNat_natCast] at hj
        have s1 := jV hc (a := k) (b := k + 1 + j) (by omega) (by omega)
        have s2 := lS hc (a := k) (b := k + 1 + j) (by omega) (by omega)
        have ec : ((k : Int) + 1 + j) = ((k + 1 + j : Nat) : Int) := by omega
        rw [ec] at h
        obtain ⟨ok,e1,e2⟩ := zLj h (by dsimp only;omega) (by dsimp only;omega) hs hs (by dsimp only;omega)
        exact ⟨ok,h0.1,h0.2,.inr ⟨by omega,by rw [e1]; dsimp only; omega,by rw [e1]; exact s2⟩⟩
      · obtain ⟨j,hj,h⟩ := List.mem_flatMap.1 h
        have hj := List.mem_range.1 hj
        rw [Int.toNat_natCast] at hj
        have s1 := jV hc (a := j) (b := k) (by omega) (by omega)
        have s2 := lS hc (a := j) (b := k) (by omega) (by omega)
        obtain ⟨ok,e1,e2⟩ := zLj h (by dsimp only;omega) (by dsimp only;omega) (by dsimp only;omega) hs (by dsimp only;omega)
        exact ⟨ok,h0.1,h0.2,.inr ⟨by omega,by rw [e1]; dsimp only; omega,by rw [e1]; exact s2⟩⟩
theorem l8 {s : Int} : ∀ (r : List Quote) (q : Quote),r.foldl (fun b q => if btr s q.price b.price then q else b) q ∈ q :: r
  | [],q => List.mem_cons_self
  | x :: r,q => by
    rw [List.foldl_cons]
    have := l8 (s := s) r (if btr s x.price q.price then x else q)
    rcases List.mem_cons.1 this with e | h
    · rw [e]; split
      · exact List.mem_cons_of_mem _ List.mem_cons_self
      · exact List.mem_cons_self
    · exact List.mem_cons_of_mem _ (List.mem_cons_of_mem _ h)
theorem zAr {l : List Quote} {s : Int} (h : (zT l s).2 = true) : (zT l s).1 ∈ l := by
  cases l with
  | nil => cases h
  | cons q r => exact l8 r q
def zVl (B : List (List zG)) : Prop := ∀ (k : Nat) (L : List zG),B[k]? = some L→(∀ o ∈ L,u0 o)∧(L.map (·.id)).Nodup∧L.length ≤ 250
theorem MSt.Rep.ords {s : MSt} {p : Prd} {B : List (List zG)} (h : s.Rep p B) : zVl B := by
  intro k L hL
  obtain ⟨b,hb⟩ := yC (l := s.books) (i := k) (by rw [h.bl]; exact (List.getElem?_eq_some_iff.1 hL).1)
  exact (h.bk k b L hb hL).ords
theorem z5h : ∀ {l : List zG} {v : Lv},(∀ o ∈ l,u0 o) → v ∈ grp l → 1 ≤ v.qty ∧ v.qty ≤ 1000000 * l.length
  | [],v,_,h => by cases h
  | o :: l,v,ho,h => by
    have h0 := (ho o List.mem_cons_self).q
    have ih : ∀ v ∈ grp l,1 ≤ v.qty ∧ v.qty ≤ 1000000 * l.length := fun v hv => z5h (fun x hx => ho x (List.mem_cons_of_mem _ hx)) hv
    rw [grp] at h
    rw [List.length_cons]
    split at h
    · rw [List.mem_singleton] at h
      subst h; dsimp only; omega
    · rename_i w ws e
      rw [e] at ih
      have hw := ih w List.mem_cons_self
      split at h
      · rcases List.mem_cons.1 h with rfl | h
        · dsimp only; omega
        · have := ih v (List.mem_cons_of_mem _ h); omega
      · rcases List.mem_cons.1 h with rfl | h
        · dsimp only; omega
        · have := ih v h; omega
theorem zJw {L : List zG} {s : Int} (h : ∀ o ∈ L,u0 o) (hl : L.length ≤ 250) (hb : (bestL L s).2 = true) : 1 ≤ (bestL L s).1.qty ∧ (bestL L s).1.qty ≤ 250000000 := by
  rw [bestL] at hb ⊢
  cases hl2 : mI L s with
  | nil => rw [hl2] at hb; cases hb
  | cons v vs =>
    dsimp only
    have hm : v ∈ grp (L.filter fun o => decide (o.side = s)) := by rw [← mI,hl2]; exact List.mem_cons_self
    have := z5h (fun o ho => h o (List.mem_filter.1 ho).1) hm
    have := List.length_filter_le (fun o : zG => decide (o.side = s)) L
    omega
theorem zUh {B : List (List zG)} {k : Nat} {L : List zG} (hL : B[k]? = some L) : (B.map kW).getD k top0 = kW L := zV (by rw [List.getElem?_map,hL]; rfl)
theorem pW (L : List zG) {s : Int} (hs : s = 1 ∨ s = 2) : (kW L).has s = (bestL L s).2 ∧ (kW L).qty s = (bestL L s).1.qty ∧ (kW L).price s = (bestL L s).1.price := by
  obtain ⟨e1,e2,e3,e4,e5,e6⟩ := gR L
  rcases hs with rfl | rfl
  · exact ⟨e3,e2,e1⟩
  · exact ⟨e6,e5,e4⟩
theorem zDn {p : Prd} {B : List (List zG)} (h : BOk p B) (ho : zVl B) {inst : Int} (hi : 0 ≤ inst ∧ inst < B.length) {s : Int} (hs : s = 1 ∨ s = 2) (hn : (zL p B inst s).2.2 = true) :
    (1 ≤ (zL p B inst s).1.qty ∧ (zL p B inst s).1.qty ≤ 250000000) ∧ ((zL p B inst s).2.1 = true → (zL p B inst s).1 ∈ xI ⟨p,B.map kW,inst⟩ s ∧ QOk (B.map kW) (zL p B inst s).1) ∧
    ((zL p B inst s).2.1 = false → (bestL (B.getD inst.toNat []) s).2 = true ∧ (zL p B inst s).1.price = (bestL (B.getD inst.toNat []) s).1.price ∧ (zL p B inst s).1.qty = (bestL (B.getD inst.toNat []) s).1.qty) := by
  obtain ⟨k,rfl⟩ : ∃ k : Nat,inst = k := ⟨inst.toNat,by omega⟩
  obtain ⟨L,hL⟩ := yC (l := B) (i := k) (by omega)
  have hLo := ho k L hL
  rw [zL] at hn ⊢
  rw [Int.toNat_natCast,zV hL] at hn ⊢
  split
  · rename_i c
    simp only [Bool.and_eq_true] at c
    exact ⟨zJw hLo.1 hLo.2.2 c.1,⟨fun e => (by cases e),fun _ => ⟨c.1,rfl,rfl⟩⟩⟩
  · rename_i c
    rw [if_neg c] at hn
    dsimp only at hn ⊢
    have hm := zAr hn
    have ha : (zT (xO ⟨p,B.map kW,k⟩ s) s).1 ∈ xI ⟨p,B.map kW,k⟩ s := (List.mem_filter.1 hm).1
    obtain ⟨ok,_⟩ := z3o h.pc (by rw [List.length_map]; exact h.bl) hs ha
    refine ⟨?_,fun _ => ⟨ha,ok⟩,fun e => by rw [hn] at e; cases e⟩
    generalize (zT (xO ⟨p,B.map kW,k⟩ s) s).1 = q at ok
    have a := ok.a
    have b := ok.b
    rw [List.length_map] at a b
    obtain ⟨La,hLa⟩ := yC (l := B) (i := q.a.inst.toNat) (by omega)
    obtain ⟨Lb,hLb⟩ := yC (l := B) (i := q.b.inst.toNat) (by omega)
    have e1 := ok.ha
    have e2 := ok.hb
    have e3 := ok.qty
    rw [zUh hLa] at e1 e3
    rw [zUh hLb] at e2 e3
    rw [(pW La ok.sa).1] at e1
    rw [(pW Lb ok.sb).1] at e2
    rw [(pW La ok.sa).2.1,(pW Lb ok.sb).2.1] at e3
    have := zJw (ho _ _ hLa).1 (ho _ _ hLa).2.2 e1
    have := zJw (ho _ _ hLb).1 (ho _ _ hLb).2.2 e2
    omega
theorem zTn {L : List zG} {id q : Int} {o : zG} (h : o ∈ (yT L id q).1) : ∃ o' ∈ L,o.price = o'.price ∧ o.side = o'.side ∧ o.id = o'.id := by
  rw [yT] at h
  split at h
  · exact ⟨o,h,rfl,rfl,rfl⟩
  split at h
  · exact ⟨o,h,rfl,rfl,rfl⟩
  obtain ⟨o',ho',e⟩ := List.mem_filterMap.1 h
  refine ⟨o',ho',?_⟩
  split at e
  · split at e
    · cases e
    · cases e; exact ⟨rfl,rfl,rfl⟩
  · cases e; exact ⟨rfl,rfl,rfl⟩
theorem BOk.take {p : Prd} {B : List (List zG)} (h : BOk p B) (id q : Int) : BOk p (xW B id q).1 := by
  refine ⟨h.pc,h.ps,by rw [zFp]; exact h.bl,fun k L hL o ho => ?_⟩
  rw [xW] at hL
  split at hL
  · exact h.pr k L hL o ho
  · rename_i j hj
    dsimp only at hL
    rcases jZ hL with ⟨rfl,rfl⟩ | ⟨_,hL⟩
    · obtain ⟨o',ho',e,_⟩ := zTn ho
      obtain ⟨L',hL',_⟩ := jM hj
      rw [zV hL'] at ho'
      rw [e]; exact h.pr k L' hL' o' ho'
    · exact h.pr k L hL o ho
theorem BOk.takes {p : Prd} : ∀ {fs : List wR} {B : List (List zG)},BOk p B → BOk p (xC B fs)
  | [],B,h => h
  | f :: fs,B,h => BOk.takes (fs := fs) (h.take f.id f.qty)
theorem zHm (inst s : Int) : ∀ (os : List zG) (sh : List Int),(yW inst s os sh).length ≤ os.length
  | [],sh => Nat.le_refl 0
  | o :: os,[] => Nat.zero_le _
  | o :: os,k :: sh => by
    have := zHm inst s os sh
    rw [yW]
    split
    · simp only [List.length_cons]; omega
    · simp only [List.length_cons]; omega
theorem uV {p : Prd} {B : List (List zG)} (ho : zVl B) (inst s q : Int) : (yH p B inst s q).length ≤ 250 := by
  refine Nat.le_trans (zHm _ _ _ _) (Nat.le_trans (List.length_filter_le _ _) ?_)
  by_cases h : inst.toNat < B.length
  · obtain ⟨L,hL⟩ := yC h
    rw [zV hL]; exact (ho _ _ hL).2.2
  · rw [List.getD_eq_getElem?_getD,List.getElem?_eq_none (by omega)]; exact Nat.zero_le _
theorem zJq {p : Prd} {B : List (List zG)} {inst : Int} {sd : Bool} {price q : Int} {t : wY} {B' : List (List zG)} (hq : 1 ≤ q) (h : jU p B inst sd price q = some (t,B')) : 1 ≤ t.qty ∧ t.qty ≤ q := by
  rw [jU] at h
  dsimp only at h
  split at h
  · rename_i c
    simp only [Bool.and_eq_true,decide_eq_true_eq] at c
    split at h
    · cases h; dsimp only; omega
    · cases h; dsimp only; omega
  · cases h
theorem zFq {p : Prd} {inst : Int} {sd : Bool} {price : Int} : ∀ (m n : Nat) (B : List (List zG)) (q : Int),q.toNat ≤ m → q.toNat ≤ n → wE p inst sd price m B q = wE p inst sd price n B q
  | 0,0,B,q,_,_ => rfl
  | 0,n + 1,B,q,h,_ => by rw [wE,wE,if_pos (by omega)]
  | m + 1,0,B,q,_,h => by rw [wE,wE,if_pos (by omega)]
  | m + 1,n + 1,B,q,h1,h2 => by
    rw [wE,wE]
    split
    · rfl
    · rename_i hq
      cases hs : jU p B inst sd price q with
      | none => rfl
      | some x =>
        obtain ⟨t,B'⟩ := x
        have := zJq (by omega) hs
        dsimp only
        rw [zFq m n B' (q - t.qty) (by omega) (by omega)]
theorem zYr {p : Prd} {B : List (List zG)} {inst : Int} {sd : Bool} {price q : Int} (h : q ≤ 0 ∨ jU p B inst sd price q = none) : uM p B inst sd price q = ⟨[],q,B⟩ := by
  rw [uM]
  cases hn : q.toNat with
  | zero => rfl
  | succ n =>
    rw [wE]
    rcases h with h | h
    · rw [if_pos h]
    · rw [if_neg (by omega),h]
theorem zUp {p : Prd} {B : List (List zG)} {inst : Int} {sd : Bool} {price q : Int} {t : wY} {B' : List (List zG)} (hq : 1 ≤ q) (h : jU p B inst sd price q = some (t,B')) :
    uM p B inst sd price q = ⟨t :: (uM p B' inst sd price (q - t.qty)).steps,(uM p B' inst sd price (q - t.qty)).left,(uM p B' inst sd price (q - t.qty)).B⟩ := by
  have ht := zJq hq h
  rw [uM]
  cases hn : q.toNat with
  | zero => omega
  | succ n =>
    rw [wE,if_neg (by omega),h]
    dsimp only
    rw [zFq n (q - t.qty).toNat B' (q - t.qty) (by omega) (Nat.le_refl _)]
    rfl
open Go Cv Go.Proofs
theorem vE {s : Int} (h : s = 1 ∨ s = 2) : zB (decide (s = 2)) = s := by
  rcases h with rfl | rfl <;> rfl
theorem yCz (i : RunI) (h : runC.cnd i) : z0t i := by
  obtain ⟨hR,hB,⟨h0,h1⟩,hq1,hq2⟩ : i.s.Rep i.p i.B ∧ BOk i.p i.B ∧ (0 ≤ i.inst ∧ i.inst < i.B.length) ∧ 1 ≤ i.q ∧ i.q ≤ 1000000 := h
  have hbl := hR.bl
  have hcl := j1 i.p
  have hbB := hB.bl
  unfold z0t zJz fP
  refine (fun hT => zU (fun c => zU (fun c2 => Cv.cnd.mk (fun _ => zU (fun _ => Cv.cnd.mk (fun e => absurd hq2 (by simpa using e)) (fun _ => hT)) (fun e => absurd hq1 e)) (fun e1 => Cv.cnd.mk (fun _ => zU (fun _ => Cv.cnd.mk (fun e => absurd hq2 (by simpa using e)) (fun _ => hT)) (fun e => absurd hq1 e)) (fun e2 => by
    rcases mD i.sd with e | e
    · rw [e] at e1; cases e1
    · rw [e] at e2; cases e2))) (fun c2 => absurd (by omega) c2)) (fun c => absurd h0 c)) ?_
  refine ⟨⟨i.s,i.B,[],i.q⟩,rfl,rfl,rfl,rfl,rfl,rfl,rfl,rfl,rfl,rfl,rfl,rfl,rfl,rfl,rfl,fun j => j.s.Rep i.p j.B ∧ BOk i.p j.B ∧ j.B.length = i.B.length ∧ (0 ≤ j.q ∧ j.q ≤ i.q) ∧ (j.steps.length : Int) ≤ i.q - j.q ∧ i.r = ⟨j.steps ++ (uM i.p j.B i.inst i.sd i.price j.q).steps,(uM i.p j.B i.inst i.sd i.price j.q).left,(uM i.p j.B i.inst i.sd i.price j.q).B⟩,fun j => j.q.toNat,⟨hR,hB,rfl,⟨by dsimp only;omega,Int.le_refl _⟩,by dsimp only; simp,rfl⟩,?_⟩
  rintro ⟨s,B,st,q⟩ ⟨r1,r2,r3,⟨r4,r4'⟩,r5,r6⟩
  dsimp only at r1 r2 r3 r4 r4' r5 r6 ⊢
  have hno (hn : q ≤ 0 ∨ jU i.p B i.inst i.sd i.price q = none) : ∃ (o : MSt),i.r.left = q ∧ AObj.adt MSt (5 : Nat) yA o = AObj.adt MSt (5 : Nat) yA s ∧ List.map zZ i.r.steps = List.map zZ st ∧ o.Rep i.p i.r.B := by
    rw [zYr hn,List.append_nil] at r6
    rw [r6]; exact ⟨s,rfl,rfl,rfl,r1⟩
  refine zU (fun c => ?_) (fun c => hno (.inl (by omega)))
  have c : 0 < q := c
  refine ⟨i.sd,rfl,trivial,fun _ _ => ⟨⟨s,i.p,B,i.inst,!i.sd⟩,rfl,rfl,rfl,⟨r1,r2,h0,by dsimp only;omega⟩,fun _ _ => ?_⟩⟩
  dsimp only
  have hni := zDn r2 r1.ords (inst := i.inst) ⟨h0,by omega⟩ (mD (!i.sd))
  have hsb : jU i.p B i.inst i.sd i.price q = (if ((zL i.p B i.inst (zB (!i.sd))).2.2 && (v9 i.sd i.price (zL i.p B i.inst (zB (!i.sd))).1.price && decide (1 ≤ (zL i.p B i.inst (zB (!i.sd))).1.qty))) = true then
    if (zL i.p B i.inst (zB (!i.sd))).2.1 = true then
      some (⟨(zL i.p B i.inst (zB (!i.sd))).1.price,min q (zL i.p B i.inst (zB (!i.sd))).1.qty,true,yH i.p B (zL i.p B i.inst (zB (!i.sd))).1.a.inst (zL i.p B i.inst (zB (!i.sd))).1.a.side (min q (zL i.p B i.inst (zB (!i.sd))).1.qty) ++ yH i.p (xC B (yH i.p B (zL i.p B i.inst (zB (!i.sd))).1.a.inst (zL i.p B i.inst (zB (!i.sd))).1.a.side (min q (zL i.p B i.inst (zB (!i.sd))).1.qty))) (zL i.p B i.inst (zB (!i.sd))).1.b.inst (zL i.p B i.inst (zB (!i.sd))).1.b.side (min q (zL i.p B i.inst (zB (!i.sd))).1.qty)⟩,xC (xC B (yH i.p B (zL i.p B i.inst (zB (!i.sd))).1.a.inst (zL i.p B i.inst (zB (!i.sd))).1.a.side (min q (zL i.p B i.inst (zB (!i.sd))).1.qty))) (yH i.p (xC B (yH i.p B (zL i.p B i.inst (zB (!i.sd))).1.a.inst (zL i.p B i.inst (zB (!i.sd))).1.a.side (min q (zL i.p B i.inst (zB (!i.sd))).1.qty))) (zL i.p B i.inst (zB (!i.sd))).1.b.inst (zL i.p B i.inst (zB (!i.sd))).1.b.side (min q (zL i.p B i.inst (zB (!i.sd))).1.qty)))
    else some (⟨(zL i.p B i.inst (zB (!i.sd))).1.price,min q (zL i.p B i.inst (zB (!i.sd))).1.qty,false,yH i.p B i.inst (zB (!i.sd)) (min q (zL i.p B i.inst (zB (!i.sd))).1.qty)⟩,xC B (yH i.p B i.inst (zB (!i.sd)) (min q (zL i.p B i.inst (zB (!i.sd))).1.qty))) else none) := rfl
  generalize zL i.p B i.inst (zB (!i.sd)) = nb at hni hsb ⊢
  refine Cv.cnd.mk (fun n1 => ?_) (fun n1 => ⟨⟨i.sd,i.price,nb.1.price⟩,rfl,rfl,rfl,trivial,fun _ _ => Cv.cnd.mk (fun n2 => ?_) (fun n2 => ?_)⟩)
  · have n1 : nb.2.2 = false := by simpa using n1
    rw [n1,if_neg (by simp)] at hsb
    exact hno (.inr hsb)
  · have n2 : v9 i.sd i.price nb.1.price = false := by simpa using n2
    rw [n2,if_neg (by simp)] at hsb
    exact hno (.inr hsb)
  have n1 : nb.2.2 = true := by simpa using n1
  have n2 : v9 i.sd i.price nb.1.price = true := by simpa using n2
  obtain ⟨⟨b1,b2⟩,hi,hr⟩ := hni n1
  rw [n1,n2,decide_eq_true b1,if_pos (by rfl)] at hsb
  have hk : yN (min q nb.1.qty) := by constructor <;> omega
  have hsl : (st.length + 1) * 48 ≤ 70368744177664 := by omega
  have beh : ∀ (t : wY) (B' : List (List zG)) (s' : MSt),jU i.p B i.inst i.sd i.price q = some (t,B') → s'.Rep i.p B' → BOk i.p B' → B'.length = B.length →
      (s'.Rep i.p B' ∧ BOk i.p B' ∧ B'.length = i.B.length ∧ (0 ≤ q - t.qty ∧ q - t.qty ≤ i.q) ∧ ((st ++ [t]).length : Int) ≤ i.q - (q - t.qty) ∧ i.r = ⟨(st ++ [t]) ++ (uM i.p B' i.inst i.sd i.price (q - t.qty)).steps,(uM i.p B' i.inst i.sd i.price (q - t.qty)).left,(uM i.p B' i.inst i.sd i.price (q - t.qty)).B⟩) ∧ (q - t.qty).toNat < q.toNat := by
    intro t B' s' h1 h2 h3 h4
    have ht := zJq (by omega) h1
    refine ⟨⟨h2,h3,by omega,⟨by omega,by omega⟩,by rw [List.length_append,List.length_singleton]; omega,?_⟩,by omega⟩
    rw [zUp (by omega) h1] at r6
    rw [r6,List.append_assoc]; rfl
  refine Cv.cnd.mk (fun n3 => ?_) (fun n3 => ?_)
  · obtain ⟨_,ok⟩ := hi n3
    rw [n3,if_pos rfl] at hsb
    have oka := ok.a
    have okb := ok.b
    rw [List.length_map] at oka okb
    have ea := vE ok.sa
    have eb := vE ok.sb
    refine ⟨⟨s,i.p,B,nb.1.a.inst,decide (nb.1.a.side = 2),min q nb.1.qty⟩,rfl,ea,rfl,rfl,⟨r1,r2,oka.1,oka.2,hk⟩,fun s1 hs1 => ?_⟩
    dsimp only at hs1 ⊢
    rw [ea] at hs1 ⊢
    have l1 := uV (p := i.p) r1.ords nb.1.a.inst nb.1.a.side (min q nb.1.qty)
    have hB1 := r2.takes (fs := yH i.p B nb.1.a.inst nb.1.a.side (min q nb.1.qty))
    have l2 := uV (p := i.p) hs1.ords nb.1.b.inst nb.1.b.side (min q nb.1.qty)
    refine ⟨trivial,by rw [List.length_map]; omega,⟨s1,i.p,xC B (yH i.p B nb.1.a.inst nb.1.a.side (min q nb.1.qty)),nb.1.b.inst,decide (nb.1.b.side = 2),min q nb.1.qty⟩,rfl,eb,rfl,rfl,⟨hs1,hB1,okb.1,by dsimp only; rw [kU]; exact okb.2,hk⟩,fun s2 hs2 => ?_⟩
    dsimp only at hs2 ⊢
    rw [eb] at hs2 ⊢
    obtain ⟨g1,g2⟩ := beh _ _ s2 hsb hs2 hB1.takes (by rw [kU,kU])
    refine ⟨trivial,by rw [List.length_map,List.length_map]; omega,by rw [List.length_map]; exact hsl,⟨s2,_,st ++ [_],_⟩,?_,rfl,?_,g1,g2,by (repeat' (first|exact trivial|exact rfl|apply And.intro))⟩
    · dsimp only; rw [w64 (by omega)]
    · dsimp only
      rw [List.map_append,n3]
      simp [zZ]
  · rw [n3,if_neg (by decide)] at hsb
    refine ⟨i.sd,rfl,trivial,fun _ _ => ⟨rfl,⟨s,i.p,B,i.inst,!i.sd,min q nb.1.qty⟩,rfl,rfl,rfl,rfl,⟨r1,r2,h0,by dsimp only;omega,hk⟩,fun s1 hs1 => ?_⟩⟩
    dsimp only at hs1 ⊢
    obtain ⟨g1,g2⟩ := beh _ _ s1 hsb hs1 r2.takes (by rw [kU])
    refine ⟨by rw [List.length_map]; exact hsl,⟨s1,_,st ++ [_],_⟩,?_,rfl,?_,g1,g2,by (repeat' (first|exact trivial|exact rfl|apply And.intro))⟩
    · dsimp only; rw [w64 (by omega)]
    · dsimp only
      rw [List.map_append,n3]
      simp [zZ]
theorem run_ok : runC.ok Try.prog 10 := yCi (gokc zZi (gokc zQq (gokc zUr (gokc zVh gok0)))) yCz
open Go Cv Go.Proofs
structure Ask where
  kind : Int
  inst : Int
  side : Int
  id : Int
  price : Int
  qty : Int
  deriving DecidableEq
@[reducible] def Ask.cells (c : Ask) : List V := [zF c.kind,zF c.inst,zF c.side,zF c.id,zF c.price,zF c.qty]
@[reducible] def yCo (c : Ask) : V := .agg c.cells
def askE (c : Ask) : List D := [.v (.int .i64 c.kind),.v (.int .i64 c.inst),.v (.int .i64 c.side),.v (.int .i64 c.id),.v (.int .i64 c.price),.v (.int .i64 c.qty)]
def z8f : Ask := ⟨0,0,0,0,0,0⟩
@[reducible] def Ask.raw (c : Ask) : Prop := yN c.kind ∧ yN c.inst ∧ yN c.side ∧ yN c.id ∧ yN c.price ∧ yN c.qty
structure SmI where
  p : Prd
  x : Ask
  i : Int
def wI (x : Ask) : Int := [1,1,1,2,3,3,4].getD (zC x.kind 0 6).toNat 0
def jX (t : SmI) : Ask := ⟨wI t.x,zC t.x.inst 0 (t.p.count - 1),1 + zC t.x.side 0 1,if wI t.x = 1 then t.i else zC t.x.id 0 t.i,
  if (t.p.legs (zC t.x.inst 0 (t.p.count - 1))).2.2 = true then t.p.tick * (zC t.x.price 0 7 - 4) else t.p.tick * (zC t.x.price 0 7 + 8),1 + zC t.x.qty 0 11⟩
def smallC : Con := con1 SmI (fun t => [prdV t.p,yCo t.x,zF t.i]) (fun _ => []) (fun t => t.p.check = 0 ∧ t.p.small ∧ t.x.raw ∧ 0 ≤ t.i ∧ t.i ≤ 1000000) (fun t => yCo (jX t)) (fun _ => [])
def known16C : Con := con1 Unit (fun _ => []) (fun _ => []) (fun _ => True) (fun _ => yP true) (fun _ => [])
open Go Cv Go.Proofs
def zEj (t : SmI) : Prop :=
  ∃ (i : Prd),sb i.code = sb t.p.code∧iE i.months = iE t.p.months∧i.tick = t.p.tick∧i.low = t.p.low∧i.high = t.p.high∧i.wide = t.p.wide∧i.rule = t.p.rule∧i.top = t.p.top∧i.least = t.p.least∧i.part = t.p.part∧iE i.settle = iE t.p.settle∧(i.code.length ≤ 1099511627776∧i.months.length ≤ 1099511627776∧i.settle.length ≤ 1099511627776)∧∀ (o : Unit),True→∃ (i_1 : WiI),i_1.n = t.x.kind∧i_1.lo = 0∧i_1.hi = 6∧(((-9223372036854775808) ≤ i_1.n∧i_1.n ≤ 9223372036854775807)∧(-1000000) ≤ i_1.lo∧i_1.lo ≤ i_1.hi∧i_1.hi ≤ 1000000)∧∀ (o : Unit),True→(0 ≤ zC i_1.n i_1.lo i_1.hi∧zC i_1.n i_1.lo i_1.hi < (↑(7 : Nat) : Int))∧∃ (n : Int),zH [[D.v (.int .i64 1)],[D.v (.int .i64 1)],[D.v (.int .i64 1)],[D.v (.int .i64 2)],[D.v (.int .i64 3)],[D.v (.int .i64 3)],[D.v (.int .i64 4)]] (zC i_1.n i_1.lo i_1.hi).toNat 0 1 = some [D.v (.int .i64 n)]∧∃ (i_2 : WiI),i_2.n = t.x.inst∧i_2.lo = 0∧i_2.hi = IntKind.i64.wrap ((↑i.count : Int) - 1)∧(((-9223372036854775808) ≤ i_2.n∧i_2.n ≤ 9223372036854775807)∧(-1000000) ≤ i_2.lo∧i_2.lo ≤ i_2.hi∧i_2.hi ≤ 1000000)∧∀ (o : Unit),True→∃ (i : WiI),i.n = t.x.side∧i.lo = 0∧i.hi = 1∧(((-9223372036854775808) ≤ i.n∧i.n ≤ 9223372036854775807)∧(-1000000) ≤ i.lo∧i.lo ≤ i.hi∧i.hi ≤ 1000000)∧∀ (o : Unit),True→∃ (i_3 : WiI),i_3.n = t.x.qty∧i_3.lo = 0∧i_3.hi = 11∧(((-9223372036854775808) ≤ i_3.n∧i_3.n ≤ 9223372036854775807)∧(-1000000) ≤ i_3.lo∧i_3.lo ≤ i_3.hi∧i_3.hi ≤ 1000000)∧∀ (o : Unit),True→∃ (i_4 : WiI),i_4.n = t.x.price∧i_4.lo = 0∧i_4.hi = 7∧(((-9223372036854775808) ≤ i_4.n∧i_4.n ≤ 9223372036854775807)∧(-1000000) ≤ i_4.lo∧i_4.lo ≤ i_4.hi∧i_4.hi ≤ 1000000)∧∀ (o : Unit),True→∃ (i_5 : wA),sb i_5.p.code = sb t.p.code∧iE i_5.p.months = iE t.p.months∧i_5.p.tick = t.p.tick∧i_5.p.low = t.p.low∧i_5.p.high = t.p.high∧i_5.p.wide = t.p.wide∧i_5.p.rule = t.p.rule∧i_5.p.top = t.p.top∧i_5.p.least = t.p.least∧i_5.p.part = t.p.part∧iE i_5.p.settle = iE t.p.settle∧i_5.n = zC i_2.n i_2.lo i_2.hi∧(i_5.p.code.length ≤ 1099511627776∧i_5.p.months.length ≤ 1099511627776∧i_5.p.settle.length ≤ 1099511627776)∧∀ (o : Unit),True→cnd (i_5.p.legs i_5.n).snd.snd (cnd (n == 1) (∃ (o : Unit),wI t.x = n∧zC t.x.inst 0 ((↑t.p.count : Int) - 1) = zC i_2.n i_2.lo i_2.hi∧1 + zC t.x.side 0 1 = IntKind.i64.wrap (1 + zC i.n i.lo i.hi)∧(if wI t.x = 1 then t.i else zC t.x.id 0 t.i) = t.i∧(if (t.p.legs (zC t.x.inst 0 ((↑t.p.count : Int) - 1))).snd.snd = true then t.p.tick * (zC t.x.price 0 (7 : Int) - (4 : Int)) else t.p.tick * (zC t.x.price 0 (7 : Int) + (8 : Int))) = IntKind.i64.wrap (t.p.tick * IntKind.i64.wrap (zC i_4.n i_4.lo i_4.hi - 4))∧1 + zC t.x.qty 0 11 = IntKind.i64.wrap (1 + zC i_3.n i_3.lo i_3.hi)∧True) (∃ (i_6 : WiI),i_6.n = t.x.id∧i_6.lo = 0∧i_6.hi = t.i∧(((-9223372036854775808) ≤ i_6.n∧i_6.n ≤ 9223372036854775807)∧(-1000000) ≤ i_6.lo∧i_6.lo ≤ i_6.hi∧i_6.hi ≤ 1000000)∧∀ (o : Unit),True→∃ (o : Unit),wI t.x = n∧zC t.x.inst 0 ((↑t.p.count : Int) - 1) = zC i_2.n i_2.lo i_2.hi∧1 + zC t.x.side 0 1 = IntKind.i64.wrap (1 + zC i.n i.lo i.hi)∧(if wI t.x = 1 then t.i else zC t.x.id 0 t.i) = zC i_6.n i_6.lo i_6.hi∧(if (t.p.legs (zC t.x.inst 0 ((↑t.p.count : Int) - 1))).snd.snd = true then t.p.tick * (zC t.x.price 0 (7 : Int) - (4 : Int)) else t.p.tick * (zC t.x.price 0 (7 : Int) + (8 : Int))) = IntKind.i64.wrap (t.p.tick * IntKind.i64.wrap (zC i_4.n i_4.lo i_4.hi - 4))∧1 + zC t.x.qty 0 11 = IntKind.i64.wrap (1 + zC i_3.n i_3.lo i_3.hi)∧True)) (cnd (n == 1) (∃ (o : Unit),wI t.x = n∧zC t.x.inst 0 ((↑t.p.count : Int) - 1) = zC i_2.n i_2.lo i_2.hi∧1 + zC t.x.side 0 1 = IntKind.i64.wrap (1 + zC i.n i.lo i.hi)∧(if wI t.x = 1 then t.i else zC t.x.id 0 t.i) = t.i∧(if (t.p.legs (zC t.x.inst 0 ((↑t.p.count : Int) - 1))).snd.snd = true then t.p.tick * (zC t.x.price 0 (7 : Int) - (4 : Int)) else t.p.tick * (zC t.x.price 0 (7 : Int) + (8 : Int))) = IntKind.i64.wrap (t.p.tick * IntKind.i64.wrap (zC i_4.n i_4.lo i_4.hi + 8))∧1 + zC t.x.qty 0 11 = IntKind.i64.wrap (1 + zC i_3.n i_3.lo i_3.hi)∧True) (∃ (i_6 : WiI),i_6.n = t.x.id∧i_6.lo = 0∧i_6.hi = t.i∧(((-9223372036854775808) ≤ i_6.n∧i_6.n ≤ 9223372036854775807)∧(-1000000) ≤ i_6.lo∧i_6.lo ≤ i_6.hi∧i_6.hi ≤ 1000000)∧∀ (o : Unit),True→∃ (o : Unit),wI t.x = n∧zC t.x.inst 0 ((↑t.p.count : Int) - 1) = zC i_2.n i_2.lo i_2.hi∧1 + zC t.x.side 0 1 = IntKind.i64.wrap (1 + zC i.n i.lo i.hi)∧(if wI t.x = 1 then t.i else zC t.x.id 0 t.i) = zC i_6.n i_6.lo i_6.hi∧(if (t.p.legs (zC t.x.inst 0 ((↑t.p.count : Int) - 1))).snd.snd = true then t.p.tick * (zC t.x.price 0 (7 : Int) - (4 : Int)) else t.p.tick * (zC t.x.price 0 (7 : Int) + (8 : Int))) = IntKind.i64.wrap (t.p.tick * IntKind.i64.wrap (zC i_4.n i_4.lo i_4.hi + 8))∧1 + zC t.x.qty 0 11 = IntKind.i64.wrap (1 + zC i_3.n i_3.lo i_3.hi)∧True))
theorem z3k (t : SmI) : zEj t = walk Try.prog ([(12,r5countC),(15,withinC),(20,r5legsC)]) 0 ([]) ([]) [] Try.f8 (Try.f8.body.getD .skip) (smallC.pat t) (smallC.pre t) (smallC.alts t) := by kernel_rfl
theorem z3q (hG : GOk Try.prog ([(12,r5countC),(15,withinC),(20,r5legsC)])) (h : ∀ (t : SmI),smallC.cnd t → zEj t) : smallC.ok Try.prog 8 := zE mixed ([(12,r5countC),(15,withinC),(20,r5legsC)]) hG 0 (fun (t : SmI) => []) (fun (t : SmI) => []) [] Try.func8 (by kernel_rfl) (by kernel_rfl) (by kernel_rfl) (fun _ => by kernel_rfl) (fun (t : SmI) hc => Eq.mp (z3k t) (h t hc))
def mE (u : Unit) : Prop :=
  ∃ (i : Int),i = 1∧True∧∀ (o : Unit),True→∃ (i_1 : Prd),sb i_1.code = sb [(67 : UInt8),(76 : UInt8)]∧iE i_1.months = iE [(320 : Int),(321 : Int),(323 : Int)]∧i_1.tick = 5∧i_1.low = 0∧i_1.high = 1000∧i_1.wide = 200∧i_1.rule = i∧i_1.top = 4∧i_1.least = 2∧i_1.part = 40∧iE i_1.settle = iE [(500 : Int),(505 : Int),(490 : Int)]∧(i_1.code.length ≤ 1099511627776∧i_1.months.length ≤ 1099511627776∧i_1.settle.length ≤ 1099511627776)∧(∀ (o : Unit),i_1.check = 0→∃ (i : SaI),i.inst = 0∧i.id = 1∧zB i.sd = 2∧i.price = 10∧i.qty = 5∧zO i.s = zO (wW i_1)∧((i.s.p.code.length ≤ 1099511627776∧i.s.p.months.length ≤ 1099511627776∧i.s.p.settle.length ≤ 1099511627776)∧i.s.books.length ≤ 1000000∧∀ (b : Book),b ∈ i.s.books→(b.a.slots.length ≤ 1000000∧(b.a.free ≠ 0→∃ (s : Slot),s ∈ b.a.slots∧s.used = false)∧∀ (q : qW),q ∈ b.a.queues→q.last = (-1) ∨ 0 ≤ q.last∧q.last < (↑b.a.slots.length : Int))∧b.a.queues.length ≤ 100000∧b.buys.length ≤ 100000∧b.sells.length ≤ 100000∧b.spare.length ≤ 100000)∧∀ (o : Unit),True→∃ (i_2 : RunI),i_2.inst = 0∧zB i_2.sd = 1∧i_2.price = 15∧i_2.q = 3∧zO i_2.s = zO (MSt.addF i).fst∧(i_2.s.Rep i_2.p i_2.B∧BOk i_2.p i_2.B∧(0 ≤ i_2.inst∧i_2.inst < (↑i_2.B.length : Int))∧1 ≤ i_2.q∧i_2.q ≤ 1000000)∧∀ (o : MSt),o.Rep i_2.p i_2.r.B→cnd ((MSt.addF i).snd == 0) (cnd ((↑(List.map zZ i_2.r.steps).length : Int) == 1) (((0 : Int) ≤ (0 : Int)∧0 < (↑(List.map zZ i_2.r.steps).length : Int))∧∃ (n : Int),zH (List.map zZ i_2.r.steps) (Int.toNat 0) ((0 : Nat) + (0 : Nat)) 1 = some [D.v (.int .i64 n)]∧cnd (n == 10) (((0 : Int) ≤ (0 : Int)∧0 < (↑(List.map zZ i_2.r.steps).length : Int))∧∃ (n : Int),zH (List.map zZ i_2.r.steps) (Int.toNat 0) ((0 : Nat) + (1 : Nat)) 1 = some [D.v (.int .i64 n)]∧cnd (n == 3) (((0 : Int) ≤ (0 : Int)∧0 < (↑(List.map zZ i_2.r.steps).length : Int))∧∃ (b : Bool),zH (List.map zZ i_2.r.steps) (Int.toNat 0) ((0 : Nat) + (2 : Nat)) 1 = some [D.v (.bool b)]∧cnd (!b) (((0 : Int) ≤ (0 : Int)∧0 < (↑(List.map zZ i_2.r.steps).length : Int))∧∃ (els : List (List D)),zH (List.map zZ i_2.r.steps) (Int.toNat 0) ((0 : Nat) + (3 : Nat)) 1 = some [D.ro 6 els]∧cnd ((↑els.length : Int) == 1) (((0 : Int) ≤ (0 : Int)∧0 < (↑(List.map zZ i_2.r.steps).length : Int))∧∃ (els : List (List D)),zH (List.map zZ i_2.r.steps) (Int.toNat 0) ((0 : Nat) + (3 : Nat)) 1 = some [D.ro 6 els]∧((0 : Int) ≤ (0 : Int)∧0 < (↑els.length : Int))∧∃ (n : Int),zH els (Int.toNat 0) ((0 : Nat) + (5 : Nat)) 1 = some [D.v (.int .i64 n)]∧cnd (n == 2) (∃ (o : Unit),true = (i_2.r.left == 0)∧True) (∃ (o : Unit),true = false∧True)) (∃ (o : Unit),true = false∧True)) (∃ (o : Unit),true = false∧True)) (∃ (o : Unit),true = false∧True)) (∃ (o : Unit),true = false∧True)) (∃ (o : Unit),true = false∧True)) (∃ (o : Unit),true = false∧True))∧∀ (o : Unit),i_1.check ≠ 0→∃ (o : Unit),true = false∧True
theorem zPm (u : Unit) : mE u = walk Try.prog ([(29,threeC),(7,newSC),(9,saddC),(10,runC)]) 0 ([]) ([]) [] Try.f11 (Try.f11.body.getD .skip) (known16C.pat u) (known16C.pre u) (known16C.alts u) := by kernel_rfl
theorem zQh (hG : GOk Try.prog ([(29,threeC),(7,newSC),(9,saddC),(10,runC)])) (h : ∀ (u : Unit),known16C.cnd u → mE u) : known16C.ok Try.prog 11 := zE mixed ([(29,threeC),(7,newSC),(9,saddC),(10,runC)]) hG 0 (fun (u : Unit) => []) (fun (u : Unit) => []) [] Try.func11 (by kernel_rfl) (by kernel_rfl) (by kernel_rfl) (fun _ => by kernel_rfl) (fun (u : Unit) hc => Eq.mp (zPm u) (h u hc))
open Go Cv Go.Proofs
theorem rW {p : Prd} (hc : p.check = 0) : 1 ≤ p.count ∧ p.count ≤ 21 := by
  have := fA hc
  have := (xL hc).m2
  have := j1 p
  omega
theorem z5o (t : SmI) (h : smallC.cnd t) : zEj t := by
  obtain ⟨hc,hp,⟨x1,x2,x3,x4,x5,x6⟩,hi0,hi1⟩ : t.p.check = 0 ∧ t.p.small ∧ t.x.raw ∧ 0 ≤ t.i ∧ t.i ≤ 1000000 := h
  have hcb := rW hc
  have t1 := (xL hc).t1
  have t2 := (xL hc).t2
  have w6 := yV (n := t.x.kind) (lo := 0) (hi := 6) (by omega)
  have w1 := yV (n := t.x.side) (lo := 0) (hi := 1) (by omega)
  have w11 := yV (n := t.x.qty) (lo := 0) (hi := 11) (by omega)
  have w7 := yV (n := t.x.price) (lo := 0) (hi := 7) (by omega)
  have hcw : IntKind.i64.wrap ((t.p.count : Int) - 1) = t.p.count - 1 := w64 (by omega)
  obtain ⟨n,hn⟩ : ∃ n,[1,1,1,2,3,3,4][(zC t.x.kind 0 6).toNat]? = some n := yC (l := ([1,1,1,2,3,3,4] : List Int)) (by simp; omega)
  have hk : wI t.x = n := zV hn
  have e7 : ∀ a : Int,-4 ≤ a ∧ a ≤ 15 → IntKind.i64.wrap (t.p.tick * IntKind.i64.wrap a) = t.p.tick * a := by
    intro a ha
    rw [w64 (x := a) (by omega)]
    have h1 : t.p.tick * a ≤ 1000 * 15 := by
      rcases Int.le_total 0 a with h0 | h0
      · exact Int.mul_le_mul t2 ha.2 h0 (by decide)
      · have : t.p.tick * a ≤ 0 := Int.mul_nonpos_of_nonneg_of_nonpos (by omega) h0
        omega
    have h2 : -(1000 * 15) ≤ t.p.tick * a := by
      rcases Int.le_total 0 a with h0 | h0
      · have : 0 ≤ t.p.tick * a := Int.mul_nonneg (by omega) h0
        omega
      · have : t.p.tick * (-a) ≤ 1000 * 15 := Int.mul_le_mul t2 (by omega) (by omega) (by decide)
        rw [Int.mul_neg] at this
        omega
    exact w64 (by omega)
  unfold zEj
  refine ⟨t.p,rfl,rfl,rfl,rfl,rfl,rfl,rfl,rfl,rfl,rfl,rfl,hp,fun _ _ => ⟨⟨t.x.kind,0,6⟩,rfl,rfl,rfl,⟨x1,by dsimp only;omega,by dsimp only;omega,by dsimp only;omega⟩,fun _ _ => ⟨⟨by dsimp only;omega,by dsimp only;omega⟩,n,elI (l := [1,1,1,2,3,3,4]) hn,⟨t.x.inst,0,t.p.count - 1⟩,rfl,rfl,hcw.symm,⟨x2,by dsimp only;omega,by dsimp only;omega,by dsimp only;omega⟩,fun _ _ => ⟨⟨t.x.side,0,1⟩,rfl,rfl,rfl,⟨x3,by dsimp only;omega,by dsimp only;omega,by dsimp only;omega⟩,fun _ _ => ⟨⟨t.x.qty,0,11⟩,rfl,rfl,rfl,⟨x6,by dsimp only;omega,by dsimp only;omega,by dsimp only;omega⟩,fun _ _ => ⟨⟨t.x.price,0,7⟩,rfl,rfl,rfl,⟨x5,by dsimp only;omega,by dsimp only;omega,by dsimp only;omega⟩,fun _ _ => ⟨⟨t.p,zC t.x.inst 0 (t.p.count - 1)⟩,rfl,rfl,rfl,rfl,rfl,rfl,rfl,rfl,rfl,rfl,rfl,rfl,hp,fun _ _ => ?_⟩⟩⟩⟩⟩⟩⟩
  dsimp only
  rw [w64 (x := 1 + zC t.x.side 0 1) (by omega),w64 (x := 1 + zC t.x.qty 0 11) (by omega),e7 _ (by omega),e7 _ (by omega)]
  refine Cv.cnd.mk (fun c => Cv.cnd.mk (fun d => ?_) (fun d => ?_)) (fun c => Cv.cnd.mk (fun d => ?_) (fun d => ?_))
  · have d : n = 1 := by simpa using d
    exact ⟨(),hk,rfl,rfl,by rw [hk,if_pos d],by rw [if_pos c],rfl,trivial⟩
  · have d : ¬ n = 1 := by simpa using d
    exact ⟨⟨t.x.id,0,t.i⟩,rfl,rfl,rfl,⟨x4,by dsimp only;omega,hi0,hi1⟩,fun _ _ => ⟨(),hk,rfl,rfl,by rw [hk,if_neg d],by rw [if_pos c],rfl,trivial⟩⟩
  · have d : n = 1 := by simpa using d
    exact ⟨(),hk,rfl,rfl,by rw [hk,if_pos d],by rw [if_neg (by rw [c]; simp)],rfl,trivial⟩
  · have d : ¬ n = 1 := by simpa using d
    exact ⟨⟨t.x.id,0,t.i⟩,rfl,rfl,rfl,⟨x4,by dsimp only;omega,hi0,hi1⟩,fun _ _ => ⟨(),hk,rfl,rfl,by rw [hk,if_neg d],by rw [if_neg (by rw [c]; simp)],rfl,trivial⟩⟩
theorem small_ok : smallC.ok Try.prog 8 := z3q (gokc zLd (gokc lY (gokc zRf gok0))) z5o
theorem zWx {L : List zG} {s id p q : Int} {o : zG} (h : o ∈ aO L s id p q) : o.price = p ∨ ∃ o' ∈ L,o.price = o'.price := by
  have key : ∀ X : List zG,(o ∈ X.takeWhile (before s p) ++ ⟨id,s,p,q,qC L s p⟩ :: X.dropWhile (before s p)) → o.price = p ∨ o ∈ X := by
    intro X hX
    rcases List.mem_append.1 hX with hX | hX
    · exact .inr (List.takeWhile_sublist _ |>.subset hX)
    · rcases List.mem_cons.1 hX with rfl | hX
      · exact .inl rfl
      · exact .inr (List.dropWhile_sublist _ |>.subset hX)
  rw [aO] at h
  split at h
  · rcases key _ h with h | h
    · exact .inl h
    · obtain ⟨o',ho',_,_,e,_⟩ := zMh h
      exact .inr ⟨o',ho',e⟩
  · rcases key _ h with h | h
    · exact .inl h
    · exact .inr ⟨o,h,rfl⟩
theorem BOk.add {p : Prd} {B : List (List zG)} (h : BOk p B) (inst id s price q : Int) : BOk p (uG p B inst id s price q).1 := by
  rw [uG]
  split
  · exact h
  split
  · exact h
  split
  · exact h
  split
  · exact h
  rename_i c1 _ _ c4
  have c4 : p.price inst price = 0 := by simpa using c4
  refine ⟨h.pc,h.ps,by simpa using h.bl,fun k L hL o ho => ?_⟩
  dsimp only at hL
  rcases jZ hL with ⟨rfl,rfl⟩ | ⟨_,hL⟩
  · obtain ⟨L',hL'⟩ := yC (l := B) (i := inst.toNat) (by omega)
    rw [zV hL',gY] at ho
    have e : ((inst.toNat : Nat) : Int) = inst := by omega
    repeat' split at ho
    · exact h.pr _ L' hL' o ho
    · exact h.pr _ L' hL' o ho
    · exact h.pr _ L' hL' o ho
    · rcases zWx ho with h1 | ⟨o',ho',h1⟩
      · rw [h1,e]; exact c4
      · rw [h1]; exact h.pr _ L' hL' o' ho'
  · exact h.pr k L hL o ho
theorem BOk.new {p : Prd} (hc : p.check = 0) (hp : p.small) : BOk p (List.replicate p.count []) := by
  refine ⟨hc,hp,by simp,fun k L hL o ho => ?_⟩
  rw [List.eq_of_mem_replicate (List.mem_of_getElem? hL)] at ho
  cases ho
theorem MSt.Rep.fit {s : MSt} {p : Prd} {B : List (List zG)} (h : s.Rep p B) (hb : BOk p B) : s.fit := by
  have := j1 p
  refine ⟨by rw [h.ep]; exact hb.ps,by rw [h.bl,hb.bl]; omega,fun b hm => ?_⟩
  obtain ⟨k,hk⟩ := List.mem_iff_getElem?.1 hm
  have hlt := (List.getElem?_eq_some_iff.1 hk).1
  rw [h.bl] at hlt
  obtain ⟨L,hL⟩ := yC hlt
  exact (h.bk k b L hk hL).fit
theorem zUq (u : Unit) (h : known16C.cnd u) : mE u := by
  have hc : (qQ 1).check = 0 := by decide +kernel
  have hp : (qQ 1).small := by refine ⟨?_,?_,?_⟩ <;> decide
  have hB0 := BOk.new hc hp
  have hR0 := cZ (qQ 1)
  have hadd := hR0.add 0 1 true 10 5
  have hB1 := hB0.add 0 1 (zB true) 10 5
  have ha : (uG (qQ 1) (List.replicate (qQ 1).count []) 0 1 (zB true) 10 5).2 = 0 := by decide +kernel
  have hl : (0 : Int) < ((uG (qQ 1) (List.replicate (qQ 1).count []) 0 1 (zB true) 10 5).1.length : Int) := by decide +kernel
  have hr1 : (uM (qQ 1) (uG (qQ 1) (List.replicate (qQ 1).count []) 0 1 (zB true) 10 5).1 0 false 15 3).steps = [⟨10,3,false,[⟨1,0,2,10,3,2⟩]⟩] := by decide +kernel
  have hr2 : (uM (qQ 1) (uG (qQ 1) (List.replicate (qQ 1).count []) 0 1 (zB true) 10 5).1 0 false 15 3).left = 0 := by decide +kernel
  unfold mE
  refine ⟨1,rfl,trivial,fun _ _ => ⟨qQ 1,rfl,rfl,rfl,rfl,rfl,rfl,rfl,rfl,rfl,rfl,rfl,hp,fun _ _ => ⟨⟨wW (qQ 1),0,1,true,10,5⟩,rfl,rfl,rfl,rfl,rfl,rfl,hR0.fit hB0,fun _ _ => ⟨⟨(MSt.addF ⟨wW (qQ 1),0,1,true,10,5⟩).1,qQ 1,(uG (qQ 1) (List.replicate (qQ 1).count []) 0 1 (zB true) 10 5).1,0,false,15,3⟩,rfl,rfl,rfl,rfl,rfl,⟨hadd.1,hB1,⟨by decide,hl⟩,by decide,by decide⟩,fun o ho => ?_⟩⟩,fun _ hx => absurd hc hx⟩⟩
  have e1 : RunI.r ⟨(MSt.addF ⟨wW (qQ 1),0,1,true,10,5⟩).1,qQ 1,(uG (qQ 1) (List.replicate (qQ 1).count []) 0 1 (zB true) 10 5).1,0,false,15,3⟩ = uM (qQ 1) (uG (qQ 1) (List.replicate (qQ 1).count []) 0 1 (zB true) 10 5).1 0 false 15 3 := rfl
  rw [e1,hr1,hr2,hadd.2,ha]
  refine Cv.cnd.mk (fun _ => Cv.cnd.mk (fun _ => ⟨⟨by decide,by decide⟩,10,rfl,Cv.cnd.mk (fun _ => ⟨⟨by decide,by decide⟩,3,rfl,Cv.cnd.mk (fun _ => ⟨⟨by decide,by decide⟩,false,rfl,Cv.cnd.mk (fun _ => ⟨⟨by decide,by decide⟩,_,rfl,Cv.cnd.mk (fun _ => ⟨⟨by decide,by decide⟩,_,rfl,⟨by decide,by decide⟩,2,rfl,Cv.cnd.mk (fun _ => ⟨(),rfl,trivial⟩) (fun e => absurd e (by decide))⟩) (fun e => absurd e (by decide))⟩) (fun e => absurd e (by decide))⟩) (fun e => absurd e (by decide))⟩) (fun e => absurd e (by decide))⟩) (fun e => absurd e (by decide))) (fun e => absurd e (by decide))
theorem known16_ok : known16C.ok Try.prog 11 := zQh (gokc zYb (gokc newS_ok (gokc sadd_ok (gokc run_ok gok0)))) zUq
open Go Cv Go.Proofs
def zQf (s : Int) (F : List zG) : Prop := F.Pairwise fun o o' => btr s o'.price o.price = false
def z9 (L : List zG) (s : Int) : List zG := L.filter fun o => decide (o.side = s)
structure BWf (p : Prd) (B : List (List zG)) : Prop where
  ok : BOk p B
  od : zVl B
  ub : ((whL 0 B).map (·.1)).Nodup
  srt : ∀ (k : Nat) (L : List zG),B[k]? = some L → ∀ s,s = 1 ∨ s = 2 → zQf s (z9 L s)
theorem zHs {s : Int} {b : Book} {Q : List (List Nat)} : ∀ {R : List xB},(R.Pairwise fun r r' => btr s r.price r'.price = true) → zQf s (R.flatMap (b.rOrds Q s))
  | [],_ => List.Pairwise.nil
  | r :: R,h => by
    rw [List.pairwise_cons] at h
    rw [List.flatMap_cons,zQf,List.pairwise_append]
    refine ⟨List.pairwise_of_forall_mem_list fun o ho o' ho' => ?_,zHs h.2,fun o ho o' ho' => ?_⟩
    · rw [(xJ ho).2,(xJ ho').2]; exact dB _ _
    · obtain ⟨r',hr',ho'⟩ := List.mem_flatMap.1 ho'
      rw [(xJ ho).2,(xJ ho').2]; exact zHy (h.1 r' hr')
theorem Book.Rep.srt {b : Book} {L : List zG} (h : b.Rep L) {s : Int} (hs : s = 1 ∨ s = 2) : zQf s (z9 L s) := by
  obtain ⟨Q,c,ht,rfl⟩ := h
  rw [z9,zBg hs]
  exact zHs (c.srt s hs)
theorem MSt.Rep.wf {s : MSt} {p : Prd} {B : List (List zG)} (h : s.Rep p B) (hb : BOk p B) : BWf p B := by
  refine ⟨hb,h.ords,h.ids,fun k L hL => ?_⟩
  obtain ⟨b,hb⟩ := yC (l := s.books) (i := k) (by rw [h.bl]; exact (List.getElem?_eq_some_iff.1 hL).1)
  exact fun s hs => (h.bk k b L hb hL).srt hs
theorem zSo {L : List zG} (h : ∀ o ∈ L,u0 o) (hn : (L.map (·.id)).Nodup) (id q : Int) : ∀ o ∈ (yT L id q).1,u0 o := by
  intro o ho
  rw [yT] at ho
  split at ho
  · exact h o ho
  split at ho
  · exact h o ho
  rename_i hb
  obtain ⟨o',ho',e⟩ := List.mem_filterMap.1 ho
  have h0 := h o' ho'
  split at e
  · rename_i e1
    have hg := v8 hn ho'
    rw [e1] at hg
    rw [hg] at hb
    split at e
    · cases e
    · rename_i e2
      cases e
      have := h0.q
      exact ⟨h0.s,by dsimp only;omega⟩
  · cases e; exact h0
theorem zXy (L : List zG) (id q : Int) : (yT L id q).1.length ≤ L.length := by
  rw [yT]
  split
  · exact Nat.le_refl _
  split
  · exact Nat.le_refl _
  exact List.length_filterMap_le _ _
theorem zSj {L : List zG} {s : Int} (h : zQf s (z9 L s)) (id q : Int) : zQf s (z9 (yT L id q).1 s) := by
  rw [yT]
  split
  · exact h
  split
  · exact h
  have e : z9 (xK L id q) s = xK (z9 L s) id q := by
    rw [z9,z9,xK,xK,List.filter_filterMap,List.filterMap_filter]
    refine jP fun o _ => ?_
    by_cases e1 : o.id = id
    · rw [if_pos e1]
      by_cases e2 : o.qty = q
      · rw [if_pos e2]; simp
      · rw [if_neg e2]; by_cases e3 : o.side = s <;> simp [Option.filter,e3]
    · rw [if_neg e1]; by_cases e3 : o.side = s <;> simp [Option.filter,e3]
  rw [e,xK]
  refine List.Pairwise.filterMap _ (fun a a' haa b hb b' hb' => ?_) h
  have g : ∀ {a b : zG},(if a.id = id then (if a.qty = q then none else some { a with qty := a.qty - q }) else some a) = some b → b.price = a.price := by
    intro a b e
    split at e
    · split at e
      · cases e
      · cases e; rfl
    · cases e; rfl
  rw [g hb,g hb']; exact haa
theorem z3r {B : List (List zG)} (h : ((whL 0 B).map (·.1)).Nodup) {k : Nat} {L L' : List zG} (hL : B[k]? = some L) (hs : (L'.map (·.id)).Sublist (L.map (·.id))) : ((whL 0 (B.set k L')).map (·.1)).Nodup := by
  have hk := (List.getElem?_eq_some_iff.1 hL).1
  obtain ⟨rest,hr⟩ := pS (B := B) 0 k hk
  have h0 := hr L
  rw [wF hL] at h0
  have h1 := (h0.map (·.1)).nodup_iff.1 h
  refine ((hr L').map (·.1)).nodup_iff.2 ?_
  rw [List.map_append,List.map_map] at h1 ⊢
  exact h1.sublist (List.Sublist.append hs (List.Sublist.refl _))
theorem BWf.take {p : Prd} {B : List (List zG)} (h : BWf p B) (id q : Int) : BWf p (xW B id q).1 := by
  refine ⟨h.ok.take id q,?_,?_,?_⟩
  all_goals
    rw [xW]
    cases hi : j7 B id with
    | none => first | exact h.od | exact h.ub | exact h.srt
    | some k =>
      obtain ⟨L,hL,hh⟩ := jM hi
      have ho := h.od k L hL
      dsimp only
      rw [zV hL]
      first
      | (intro j M hM
         rcases jZ hM with ⟨rfl,rfl⟩ | ⟨_,hM⟩
         · refine ⟨zSo ho.1 ho.2.1 id q,?_,Nat.le_trans (zXy L id q) ho.2.2⟩
           rcases eB ho.2.1 id q with ⟨e,_⟩ | ⟨e,_⟩
           · rw [e]; exact ho.2.1
           · rw [e]; exact ho.2.1.sublist (List.Sublist.map _ List.filter_sublist)
         · exact h.od j M hM)
      | (refine z3r h.ub hL ?_
         rcases eB ho.2.1 id q with ⟨e,_⟩ | ⟨e,_⟩
         · rw [e]; exact List.Sublist.refl _
         · rw [e]; exact List.Sublist.map _ List.filter_sublist)
      | (intro j M hM s hs
         rcases jZ hM with ⟨rfl,rfl⟩ | ⟨_,hM⟩
         · exact zSj (h.srt _ L hL s hs) id q
         · exact h.srt j M hM s hs)
theorem BWf.takes {p : Prd} : ∀ {fs : List wR} {B : List (List zG)},BWf p B → BWf p (xC B fs)
  | [],B,h => h
  | f :: fs,B,h => BWf.takes (fs := fs) (h.take f.id f.qty)
theorem BWf.inst {p : Prd} {B : List (List zG)} (h : BWf p B) {k : Nat} {L : List zG} (hL : B[k]? = some L) {id : Int} (hid : id ∈ L.map (·.id)) : j7 B id = some k := by
  cases hi : j7 B id with
  | none =>
    have := sJ hi L (List.mem_of_getElem? hL)
    rw [hasId_iff.2 hid] at this; cases this
  | some j =>
    obtain ⟨M,hM,hh⟩ := jM hi
    rw [zTo h.ub hM hL (hasId_iff.1 hh) hid]
theorem zHd (L : List zG) (s p : Int) : atL L s p = (z9 L s).filter fun o => decide (o.price = p) := by
  rw [atL,z9,List.filter_filter]
  refine List.filter_congr fun o _ => ?_
  exact Bool.and_comm _ _
open Go Cv Go.Proofs
def mP (p : Prd) : Prd := { p with low := -p.high,high := -p.low,settle := p.settle.map fun n => -n }
def mO (o : zG) : zG := { o with side := 3 - o.side,price := -o.price }
def mL (L : List zG) : List zG := (z9 L 2).map mO ++ (z9 L 1).map mO
def mB (B : List (List zG)) : List (List zG) := B.map mL
def mF (f : wR) : wR := { f with side := 3 - f.side,price := -f.price }
def mS (t : wY) : wY := { t with price := -t.price,fills := t.fills.map mF }
def eI (l : Leg) : Leg := ⟨l.inst,3 - l.side⟩
def mQ (q : Quote) : Quote := ⟨-q.price,q.qty,eI q.a,eI q.b⟩
def mT (t : Top) : Top := ⟨t.has2,t.has1,-t.p2,-t.p1,t.q2,t.q1⟩
def mV (v : Lv) : Lv := ⟨-v.price,v.qty,v.count⟩
def Two (L : List zG) : Prop := L = z9 L 1 ++ z9 L 2
theorem zOr {s x y : Int} (hs : s = 1 ∨ s = 2) : btr (3 - s) (-x) (-y) = btr s x y := by
  rcases hs with rfl | rfl
  · show decide (-x < -y) = decide (y < x); rw [decide_eq_decide]; omega
  · show decide (-y < -x) = decide (x < y); rw [decide_eq_decide]; omega
theorem z9a (sd : Bool) (p x : Int) : v9 (!sd) (-p) (-x) = v9 sd p x := by
  cases sd
  · show decide (-p ≤ -x) = decide (x ≤ p); rw [decide_eq_decide]; omega
  · show decide (-x ≤ -p) = decide (p ≤ x); rw [decide_eq_decide]; omega
theorem kX (A B : List zG) (s : Int) : z9 (A ++ B) s = z9 A s ++ z9 B s := List.filter_append _ _
theorem zLw (A : List zG) (s : Int) : z9 (A.map mO) s = (z9 A (3 - s)).map mO := by
  rw [z9,z9,List.filter_map]
  congr 1
  refine List.filter_congr fun o _ => ?_
  show decide (3 - o.side = s) = decide (o.side = 3 - s)
  rw [decide_eq_decide]; omega
theorem gT {A : List zG} {s : Int} (h : ∀ o ∈ A,o.side = s) : z9 A s = A := by
  rw [z9,List.filter_eq_self]; intro o ho; simp [h o ho]
theorem u7 {A : List zG} {s : Int} (h : ∀ o ∈ A,o.side ≠ s) : z9 A s = [] := by
  rw [z9,List.filter_eq_nil_iff]; intro o ho; simp [h o ho]
theorem xV {L : List zG} {s : Int} {o : zG} (h : o ∈ z9 L s) : o ∈ L ∧ o.side = s := by
  have := List.mem_filter.1 h
  exact ⟨this.1,by simpa using this.2⟩
theorem wT (L : List zG) {s : Int} (hs : s = 1 ∨ s = 2) : z9 (mL L) s = (z9 L (3 - s)).map mO := by
  rw [mL,kX,zLw,zLw]
  rcases hs with rfl | rfl
  · show ((z9 (z9 L 2) 2).map mO ++ (z9 (z9 L 1) 2).map mO) = (z9 L 2).map mO
    rw [gT fun o ho => (xV ho).2,u7 (A := z9 L 1) fun o ho => by rw [(xV ho).2]; decide]
    simp
  · show ((z9 (z9 L 2) 1).map mO ++ (z9 (z9 L 1) 1).map mO) = (z9 L 1).map mO
    rw [u7 (A := z9 L 2) fun o ho => by rw [(xV ho).2]; decide,gT fun o ho => (xV ho).2]
    simp
theorem z4y : ∀ A : List zG,grp (A.map mO) = (grp A).map mV
  | [] => rfl
  | o :: A => by
    rw [List.map_cons,grp,z4y A,grp]
    cases grp A with
    | nil => rfl
    | cons v vs =>
      rw [List.map_cons]
      dsimp only
      by_cases e : v.price = o.price
      · rw [if_pos e,if_pos (show (mV v).price = (mO o).price by show -v.price = -o.price; rw [e])]; rfl
      · rw [if_neg e,if_neg (show ¬ (mV v).price = (mO o).price by show ¬ -v.price = -o.price; omega)]; rfl
theorem yAy (L : List zG) {s : Int} (hs : s = 1 ∨ s = 2) : mI (mL L) s = (mI L (3 - s)).map mV := by
  have : ∀ M t,mI M t = grp (z9 M t) := fun _ _ => rfl
  rw [this,this,wT L hs,z4y]
theorem zDw (L : List zG) {s : Int} (hs : s = 1 ∨ s = 2) : bestL (mL L) s = (mV (bestL L (3 - s)).1,(bestL L (3 - s)).2) := by
  rw [bestL,bestL,yAy L hs]
  cases mI L (3 - s) <;> rfl
theorem yAp (L : List zG) : kW (mL L) = mT (kW L) := by
  obtain ⟨a1,a2,a3,a4,a5,a6⟩ := gR (mL L)
  obtain ⟨b1,b2,b3,b4,b5,b6⟩ := gR L
  have e1 := zDw L (s := 1) (.inl rfl)
  have e2 := zDw L (s := 2) (.inr rfl)
  have h : ∀ t u : Top,t.has1 = u.has1 → t.has2 = u.has2 → t.p1 = u.p1 → t.p2 = u.p2 → t.q1 = u.q1 → t.q2 = u.q2 → t = u := by
    intro t u h1 h2 h3 h4 h5 h6
    cases t; cases u; simp_all
  refine h _ _ ?_ ?_ ?_ ?_ ?_ ?_
  · rw [a3,e1]; show (bestL L 2).2 = (kW L).has2; rw [b6]
  · rw [a6,e2]; show (bestL L 1).2 = (kW L).has1; rw [b3]
  · rw [a1,e1]; show -(bestL L 2).1.price = -(kW L).p2; rw [b4]
  · rw [a4,e2]; show -(bestL L 1).1.price = -(kW L).p1; rw [b1]
  · rw [a2,e1]; show (bestL L 2).1.qty = (kW L).q2; rw [b5]
  · rw [a5,e2]; show (bestL L 1).1.qty = (kW L).q1; rw [b2]
theorem yDz (L : List zG) {s : Int} (hs : s = 1 ∨ s = 2) (p : Int) : atL (mL L) s (-p) = (atL L (3 - s) p).map mO := by
  rw [zHd,zHd,wT L hs,List.filter_map]
  congr 1
  refine List.filter_congr fun o _ => ?_
  show decide (-o.price = -p) = decide (o.price = p)
  rw [decide_eq_decide]; omega
theorem zUn {L : List zG} (h : ∀ o ∈ L,u0 o) (id : Int) : xQ (mL L) id = xQ L id := by
  rw [Bool.eq_iff_iff,hasId_iff,hasId_iff,mL,List.map_append,List.map_map,List.map_map,List.mem_append,List.mem_map,List.mem_map,List.mem_map]
  constructor
  · rintro (⟨o,ho,e⟩ | ⟨o,ho,e⟩)
    · exact ⟨o,(xV ho).1,e⟩
    · exact ⟨o,(xV ho).1,e⟩
  · rintro ⟨o,ho,e⟩
    rcases (h o ho).s with hs | hs
    · exact .inr ⟨o,List.mem_filter.2 ⟨ho,by simp [hs]⟩,e⟩
    · exact .inl ⟨o,List.mem_filter.2 ⟨ho,by simp [hs]⟩,e⟩
theorem zYc (L : List zG) : ((mL L).map (·.id)).Perm ((z9 L 1 ++ z9 L 2).map (·.id)) := by
  rw [mL,List.map_append,List.map_map,List.map_map,List.map_append]
  exact List.perm_append_comm
theorem zTx {L : List zG} (h : Two L) : (mL L).length = L.length := by
  have := (zYc L).length_eq
  rw [← h] at this
  simpa using this
theorem yAo {L : List zG} (hn : (L.map (·.id)).Nodup) (h : Two L) (ho : ∀ o ∈ L,u0 o) {id : Int} (hh : xQ L id = true) : wU (mL L) id = mO (wU L id) := by
  obtain ⟨o,hm,e⟩ := List.mem_map.1 (hasId_iff.1 hh)
  have hg := v8 hn hm
  rw [e] at hg
  have hn2 : ((mL L).map (·.id)).Nodup := (zYc L).nodup_iff.2 (by rw [← h]; exact hn)
  have hm2 : mO o ∈ mL L := by
    rw [mL,List.mem_append]
    rcases (ho o hm).s with hs | hs
    · exact .inr (List.mem_map_of_mem (List.mem_filter.2 ⟨hm,by simp [hs]⟩))
    · exact .inl (List.mem_map_of_mem (List.mem_filter.2 ⟨hm,by simp [hs]⟩))
  have hg2 := v8 hn2 hm2
  have e2 : (mO o).id = id := e
  rw [e2] at hg2
  rw [hg2,hg]
theorem dJ (L : List zG) (id q s : Int) : z9 (xK L id q) s = xK (z9 L s) id q := by
  rw [z9,z9,xK,xK,List.filter_filterMap,List.filterMap_filter]
  refine jP fun o _ => ?_
  by_cases e1 : o.id = id
  · rw [if_pos e1]
    by_cases e2 : o.qty = q
    · rw [if_pos e2]; simp
    · rw [if_neg e2]; by_cases e3 : o.side = s <;> simp [Option.filter,e3]
  · rw [if_neg e1]; by_cases e3 : o.side = s <;> simp [Option.filter,e3]
theorem zGf (A : List zG) (id q : Int) : xK (A.map mO) id q = (xK A id q).map mO := by
  rw [xK,xK,List.filterMap_map,List.map_filterMap]
  refine jP fun o _ => ?_
  show (if o.id = id then (if o.qty = q then none else some { mO o with qty := o.qty - q }) else some (mO o)) = _
  by_cases e1 : o.id = id
  · rw [if_pos e1,if_pos e1]
    by_cases e2 : o.qty = q
    · rw [if_pos e2,if_pos e2]; rfl
    · rw [if_neg e2,if_neg e2]; rfl
  · rw [if_neg e1,if_neg e1]; rfl
theorem z9v (L : List zG) (id q : Int) : xK (mL L) id q = mL (xK L id q) := by
  have app : ∀ A B : List zG,xK (A ++ B) id q = xK A id q ++ xK B id q := fun A B => List.filterMap_append ..
  rw [mL,app,zGf,zGf,mL,dJ,dJ]
theorem z6c {L : List zG} (hn : (L.map (·.id)).Nodup) (h : Two L) (ho : ∀ o ∈ L,u0 o) (id q : Int) : yT (mL L) id q = (mL (yT L id q).1,(yT L id q).2) := by
  rw [yT,yT,zUn ho]
  by_cases h1 : xQ L id = false
  · rw [if_pos h1,if_pos h1]
  · have h1' : xQ L id = true := by simpa using h1
    rw [if_neg h1,if_neg h1,yAo hn h ho h1']
    have e : (mO (wU L id)).qty = (wU L id).qty := rfl
    rw [e]
    by_cases h2 : q < 1 ∨ (wU L id).qty < q
    · rw [if_pos h2,if_pos h2]
    · rw [if_neg h2,if_neg h2,z9v]
theorem zYe {L : List zG} (h : Two L) (id q : Int) : Two (yT L id q).1 := by
  rw [yT]
  split
  · exact h
  split
  · exact h
  show xK L id q = _
  rw [dJ,dJ]
  conv => lhs; rw [h]
  exact List.filterMap_append ..
theorem z2s {L : List zG} (ho : ∀ o ∈ L,u0 o) {s : Int} (hs : s = 1 ∨ s = 2) (p : Int) : qC (mL L) (3 - s) (-p) = qC L s p := by
  rw [Bool.eq_iff_iff,qC,qC,List.all_eq_true,List.all_eq_true]
  have key : ∀ o : zG,(!decide ((mO o).side = 3 - s) || btr (3 - s) (-p) (mO o).price) = (!decide (o.side = s) || btr s p o.price) := by
    intro o
    have e1 : decide ((mO o).side = 3 - s) = decide (o.side = s) := by
      show decide (3 - o.side = 3 - s) = _
      rw [decide_eq_decide]; omega
    have e2 : btr (3 - s) (-p) (mO o).price = btr s p o.price := zOr hs
    rw [e1,e2]
  constructor
  · intro h o hm
    rw [← key o]
    refine h _ ?_
    rw [mL,List.mem_append]
    rcases (ho o hm).s with hs | hs
    · exact .inr (List.mem_map_of_mem (List.mem_filter.2 ⟨hm,by simp [hs]⟩))
    · exact .inl (List.mem_map_of_mem (List.mem_filter.2 ⟨hm,by simp [hs]⟩))
  · intro h o hm
    rw [mL,List.mem_append] at hm
    rcases hm with hm | hm
    all_goals
      obtain ⟨o',ho',rfl⟩ := List.mem_map.1 hm
      rw [key]; exact h o' (xV ho').1
theorem mC (L : List zG) (s t : Int) : z9 (clr L s) t = clr (z9 L t) s := by
  rw [z9,clr,clr,z9,List.filter_map]
  congr 1
  refine List.filter_congr fun o _ => ?_
  simp only [Function.comp]
  split <;> rfl
theorem zMl (A : List zG) {s : Int} : clr (A.map mO) (3 - s) = (clr A s).map mO := by
  rw [clr,clr,List.map_map,List.map_map]
  refine List.map_congr_left fun o _ => ?_
  simp only [Function.comp]
  by_cases e : o.side = s
  · rw [if_pos e,if_pos (show (mO o).side = 3 - s by show 3 - o.side = 3 - s; rw [e])]; rfl
  · rw [if_neg e,if_neg (show ¬ (mO o).side = 3 - s by show ¬ 3 - o.side = 3 - s; omega)]
theorem yAr (L : List zG) (s : Int) : clr (mL L) (3 - s) = mL (clr L s) := by
  have app : ∀ A B : List zG,clr (A ++ B) (3 - s) = clr A (3 - s) ++ clr B (3 - s) := fun A B => List.map_append ..
  rw [mL,app,zMl,zMl,mL,mC,mC]
theorem z3y {L : List zG} (h : Two L) (s : Int) : Two (clr L s) := by
  have app : ∀ A B : List zG,clr (A ++ B) s = clr A s ++ clr B s := fun A B => List.map_append ..
  show clr L s = _
  rw [mC,mC,← app,← h]
def gX (F : List zG) (s p : Int) (x : zG) : List zG := F.takeWhile (fun o => !btr s p o.price) ++ x :: F.dropWhile fun o => !btr s p o.price
theorem tO {f g : zG → Bool} : ∀ {A : List zG},(∀ x ∈ A,f x = g x) → A.takeWhile f = A.takeWhile g ∧ A.dropWhile f = A.dropWhile g
  | [],_ => ⟨rfl,rfl⟩
  | a :: A,h => by
    obtain ⟨i1,i2⟩ := tO (A := A) fun x hx => h x (List.mem_cons_of_mem _ hx)
    rw [List.takeWhile_cons,List.takeWhile_cons,List.dropWhile_cons,List.dropWhile_cons,h a List.mem_cons_self,i1,i2]
    exact ⟨rfl,rfl⟩
theorem zHj {f : zG → Bool} : ∀ {A B : List zG},(∀ x ∈ A,f x = true) → (A ++ B).takeWhile f = A ++ B.takeWhile f ∧ (A ++ B).dropWhile f = B.dropWhile f
  | [],B,_ => ⟨rfl,rfl⟩
  | a :: A,B,h => by
    obtain ⟨i1,i2⟩ := zHj (A := A) (B := B) fun x hx => h x (List.mem_cons_of_mem _ hx)
    rw [List.cons_append,List.takeWhile_cons,List.dropWhile_cons,h a List.mem_cons_self,if_pos rfl,if_pos rfl,i1,i2]
    exact ⟨rfl,rfl⟩
theorem zMc {f : zG → Bool} : ∀ {A B : List zG},(∀ x ∈ B,f x = false) → (A ++ B).takeWhile f = A.takeWhile f ∧ (A ++ B).dropWhile f = A.dropWhile f ++ B
  | [],[],_ => ⟨rfl,rfl⟩
  | [],b :: B,h => by
    have := h b List.mem_cons_self
    simp [this]
  | a :: A,B,h => by
    obtain ⟨i1,i2⟩ := zMc (A := A) (B := B) h
    rw [List.cons_append,List.takeWhile_cons,List.dropWhile_cons,List.takeWhile_cons,List.dropWhile_cons]
    cases f a
    · exact ⟨rfl,rfl⟩
    · rw [if_pos rfl,if_pos rfl,if_pos rfl,if_pos rfl,i1,i2]; exact ⟨rfl,rfl⟩
theorem p8 {X : List zG} (h : Two X) (p : Int) (x : zG) : (X.takeWhile (before 1 p) ++ x :: X.dropWhile (before 1 p) = gX (z9 X 1) 1 p x ++ z9 X 2) ∧ (X.takeWhile (before 2 p) ++ x :: X.dropWhile (before 2 p) = z9 X 1 ++ gX (z9 X 2) 2 p x) := by
  have h2 : ∀ o ∈ z9 X 2,before 1 p o = false := by
    intro o ho; rw [before,(xV ho).2]; rfl
  have h1 : ∀ o ∈ z9 X 1,before 2 p o = true := by
    intro o ho; rw [before,(xV ho).2]; rfl
  have g1 : ∀ o ∈ z9 X 1,before 1 p o = !btr 1 p o.price := by
    intro o ho; rw [before,(xV ho).2]; rfl
  have g2 : ∀ o ∈ z9 X 2,before 2 p o = !btr 2 p o.price := by
    intro o ho; rw [before,(xV ho).2]; rfl
  constructor
  · conv => lhs; rw [h]
    obtain ⟨a,b⟩ := zMc (A := z9 X 1) h2
    obtain ⟨c,d⟩ := tO g1
    rw [a,b,c,d,gX]; simp
  · conv => lhs; rw [h]
    obtain ⟨a,b⟩ := zHj (B := z9 X 2) h1
    obtain ⟨c,d⟩ := tO g2
    rw [a,b,c,d,gX]; simp
theorem zXg (F : List zG) {s : Int} (hs : s = 1 ∨ s = 2) (p : Int) (x : zG) : gX (F.map mO) (3 - s) (-p) (mO x) = (gX F s p x).map mO := by
  have e : (fun o : zG => !btr (3 - s) (-p) o.price) ∘ mO = fun o => !btr s p o.price := by
    funext o
    show (!btr (3 - s) (-p) (-o.price)) = _
    rw [zOr hs]
  rw [gX,gX,List.map_append,List.map_cons,List.takeWhile_map,List.dropWhile_map,e]
theorem zFl {F : List zG} {s p : Int} {x o : zG} (h : o ∈ gX F s p x) : o = x ∨ o ∈ F := by
  rw [gX,List.mem_append,List.mem_cons] at h
  rcases h with h | h | h
  · exact .inr ((List.takeWhile_sublist _).subset h)
  · exact .inl h
  · exact .inr ((List.dropWhile_sublist _).subset h)
theorem z5a (L : List zG) : Two (mL L) := by
  show mL L = _
  rw [wT L (.inl rfl),wT L (.inr rfl)]; rfl
theorem zVy {X : List zG} (h : Two X) {s : Int} (hs : s = 1 ∨ s = 2) (p : Int) {x : zG} (hx : x.side = s) :
    (mL X).takeWhile (before (3 - s) (-p)) ++ mO x :: (mL X).dropWhile (before (3 - s) (-p)) = mL (X.takeWhile (before s p) ++ x :: X.dropWhile (before s p)) ∧ Two (X.takeWhile (before s p) ++ x :: X.dropWhile (before s p)) := by
  have hm := z5a X
  have s1 : ∀ A : List zG,(∀ o ∈ A,o.side = 1) → z9 A 1 = A ∧ z9 A 2 = [] := fun A hA => ⟨gT hA,u7 fun o ho => by rw [hA o ho]; decide⟩
  have s2 : ∀ A : List zG,(∀ o ∈ A,o.side = 2) → z9 A 2 = A ∧ z9 A 1 = [] := fun A hA => ⟨gT hA,u7 fun o ho => by rw [hA o ho]; decide⟩
  have f1 : ∀ o ∈ z9 X 1,o.side = 1 := fun o ho => (xV ho).2
  have f2 : ∀ o ∈ z9 X 2,o.side = 2 := fun o ho => (xV ho).2
  rcases hs with rfl | rfl
  · have e := (p8 h p x).1
    have e2 := (p8 hm (-p) (mO x)).2
    have g1 : ∀ o ∈ gX (z9 X 1) 1 p x,o.side = 1 := fun o ho => by rcases zFl ho with rfl | ho; exact hx; exact f1 o ho
    have a1 := s1 _ g1
    have a2 := s2 _ f2
    have h2 : mL (gX (z9 X 1) 1 p x ++ z9 X 2) = (z9 X 2).map mO ++ (gX (z9 X 1) 1 p x).map mO := by
      rw [mL,kX,kX,a1.1,a1.2,a2.1,a2.2]; simp
    refine ⟨?_,?_⟩
    · show (mL X).takeWhile (before 2 (-p)) ++ _ :: (mL X).dropWhile (before 2 (-p)) = _
      rw [e2,e,h2,wT X (.inl rfl),wT X (.inr rfl)]
      show (z9 X 2).map mO ++ gX ((z9 X 1).map mO) 2 (-p) (mO x) = _
      have := zXg (z9 X 1) (s := 1) (.inl rfl) p x
      rw [← this]; rfl
    · show _ = _
      rw [e,kX,kX,a1.1,a1.2,a2.1,a2.2]; simp
  · have e := (p8 h p x).2
    have e2 := (p8 hm (-p) (mO x)).1
    have g2 : ∀ o ∈ gX (z9 X 2) 2 p x,o.side = 2 := fun o ho => by rcases zFl ho with rfl | ho; exact hx; exact f2 o ho
    have a1 := s1 _ f1
    have a2 := s2 _ g2
    have h2 : mL (z9 X 1 ++ gX (z9 X 2) 2 p x) = (gX (z9 X 2) 2 p x).map mO ++ (z9 X 1).map mO := by
      rw [mL,kX,kX,a1.1,a1.2,a2.1,a2.2]; simp
    refine ⟨?_,?_⟩
    · show (mL X).takeWhile (before 1 (-p)) ++ _ :: (mL X).dropWhile (before 1 (-p)) = _
      rw [e2,e,h2,wT X (.inl rfl),wT X (.inr rfl)]
      show gX ((z9 X 2).map mO) 1 (-p) (mO x) ++ (z9 X 1).map mO = _
      have := zXg (z9 X 2) (s := 2) (.inr rfl) p x
      rw [← this]; rfl
    · show _ = _
      rw [e,kX,kX,a1.1,a1.2,a2.1,a2.2]; simp
theorem yBy {L : List zG} (h : Two L) (ho : ∀ o ∈ L,u0 o) {s : Int} (hs : s = 1 ∨ s = 2) (id p q : Int) : aO (mL L) (3 - s) id (-p) q = mL (aO L s id p q) ∧ Two (aO L s id p q) := by
  have e : (⟨id,3 - s,-p,q,qC L s p⟩ : zG) = mO ⟨id,s,p,q,qC L s p⟩ := rfl
  rw [aO,aO,z2s ho hs,e]
  by_cases hl : qC L s p = true
  · rw [if_pos hl,if_pos hl,yAr]
    exact zVy (z3y h s) hs p rfl
  · rw [if_neg hl,if_neg hl]
    exact zVy h hs p rfl
theorem yBw {L : List zG} (h : Two L) (ho : ∀ o ∈ L,u0 o) {s : Int} (hs : s = 1 ∨ s = 2) (id p q : Int) : gY (mL L) (3 - s) id (-p) q = (mL (gY L s id p q).1,(gY L s id p q).2) ∧ Two (gY L s id p q).1 := by
  rw [gY,gY,zUn ho,zTx h]
  split
  · exact ⟨rfl,h⟩
  split
  · exact ⟨rfl,h⟩
  split
  · exact ⟨rfl,h⟩
  obtain ⟨a,b⟩ := yBy h ho hs id p q
  rw [a]; exact ⟨rfl,b⟩
open Go Cv Go.Proofs
theorem zAf : ∀ (l : List Int) (a : Int),a ≤ l.foldl max a ∧ ∀ x ∈ l,x ≤ l.foldl max a
  | [],a => ⟨Int.le_refl _,fun x hx => by cases hx⟩
  | y :: l,a => by
    obtain ⟨h1,h2⟩ := zAf l (max a y)
    rw [List.foldl_cons]
    refine ⟨by omega,fun x hx => ?_⟩
    rcases List.mem_cons.1 hx with rfl | hx
    · omega
    · exact h2 x hx
theorem zAu : ∀ (l : List Int) (a : Int),l.foldl min a ≤ a ∧ ∀ x ∈ l,l.foldl min a ≤ x
  | [],a => ⟨Int.le_refl _,fun x hx => by cases hx⟩
  | y :: l,a => by
    obtain ⟨h1,h2⟩ := zAu l (min a y)
    rw [List.foldl_cons]
    refine ⟨by omega,fun x hx => ?_⟩
    rcases List.mem_cons.1 hx with rfl | hx
    · omega
    · exact h2 x hx
theorem zDm {l : List Int} {x : Int} (h : x ∈ l) : x ≤ gC l ∧ uN l ≤ x := by
  cases l with
  | nil => cases h
  | cons a l =>
    have h1 := zAf l a
    have h2 := zAu l a
    show x ≤ l.foldl max a ∧ l.foldl min a ≤ x
    rcases List.mem_cons.1 h with rfl | h
    · exact ⟨h1.1,h2.1⟩
    · exact ⟨h1.2 x h,h2.2 x h⟩
theorem rI (t n : Int) : y8 t (-n) = y8 t n := by
  rw [y8,y8,Int.neg_tmod]
  by_cases h : n.tmod t = 0
  · rw [h]; rfl
  · have h2 : ¬ -n.tmod t = 0 := by omega
    rw [bne_iff_ne.2 h,bne_iff_ne.2 h2]
theorem zGt {p : Prd} (h : p.check = 0) : qA p.code = true ∧ yL p.months = true ∧ xA p = true ∧ y9 p = false ∧ yM p = false ∧ xG p = false ∧ y5 p = false := by
  rw [Prd.check] at h
  cases h1 : qA p.code <;> rw [h1] at h <;> first | (cases h; done) | skip
  cases h2 : yL p.months <;> rw [h2] at h <;> first | (cases h; done) | skip
  cases h3 : xA p <;> rw [h3] at h <;> first | (cases h; done) | skip
  cases h4 : y9 p <;> rw [h4] at h <;> first | (cases h; done) | skip
  cases h5 : yM p <;> rw [h5] at h <;> first | (cases h; done) | skip
  cases h6 : xG p <;> rw [h6] at h <;> first | (cases h; done) | skip
  cases h7 : y5 p <;> rw [h7] at h <;> first | (cases h; done) | skip
  exact ⟨rfl,rfl,rfl,rfl,rfl,rfl,rfl⟩
theorem zBy {p : Prd} (h : p.check = 0) : (mP p).check = 0 := by
  obtain ⟨h1,h2,h3,h4,h5,h6,h7⟩ := zGt h
  have ok := xL h
  have b1 := ok.b1
  have b2 := ok.b2
  have b3 := ok.b3
  have b4 := ok.b4
  have b5 := ok.b5
  have g3 : xA (mP p) = true := by
    simp only [xA,Bool.and_eq_true] at h3 ⊢
    obtain ⟨⟨⟨⟨⟨a,b⟩,c⟩,d⟩,e⟩,f⟩ := h3
    refine ⟨⟨⟨⟨⟨a,b⟩,?_⟩,?_⟩,e⟩,?_⟩
    · show (!y8 p.tick (-p.high)) = true; rw [rI]; exact d
    · show (!y8 p.tick (-p.low)) = true; rw [rI]; exact c
    · show (!(p.settle.map fun n => -n).any (y8 p.tick)) = true
      rw [List.any_map]
      have : (y8 p.tick ∘ fun n => -n) = y8 p.tick := by funext n; exact rI _ n
      rw [this]; exact f
  have g4 : y9 (mP p) = false := by
    simp only [y9,mP,Bool.or_eq_false_iff]
    exact ⟨⟨⟨⟨decide_eq_false (by omega),decide_eq_false (by omega)⟩,decide_eq_false (by omega)⟩,decide_eq_false (by omega)⟩,decide_eq_false (by omega)⟩
  have g5 : yM (mP p) = false := by
    have sl := ok.s1
    have s2 := ok.s2
    have s3 := ok.s3
    have m2 := ok.m2
    have ne : p.settle.map (fun n => -n) ≠ [] := by
      intro hc
      have := congrArg List.length hc
      rw [List.length_map] at this
      simp at this
      rw [this] at sl
      simp at sl
      omega
    have e : (p.settle.map fun n => -n).length = p.months.length := by rw [List.length_map,sl]
    have m1 := sC ne
    have m3 := eW ne
    obtain ⟨y,hy,e1⟩ := List.mem_map.1 m1
    obtain ⟨z,hz,e2⟩ := List.mem_map.1 m3
    have l1 := (zDm hy).1
    have l2 := (zDm hz).2
    simp only [yM,mP,e,ne_eq,not_true_eq_false,decide_false,Bool.false_or,Bool.or_eq_false_iff]
    exact ⟨decide_eq_false (by omega),decide_eq_false (by omega)⟩
  have g6 : xG (mP p) = false := h6
  have g7 : y5 (mP p) = false := h7
  have g1 : qA (mP p).code = true := h1
  have g2 : yL (mP p).months = true := h2
  rw [Prd.check,g1,g2,g3,g4,g5,g6,g7]
  rfl
theorem z3b {p : Prd} (h : p.small) : (mP p).small := ⟨h.1,h.2.1,by show (p.settle.map _).length ≤ _; rw [List.length_map]; exact h.2.2⟩
theorem pJ {p : Prd} (h : p.check = 0) : (mP p).count = p.count := by
  rw [Prd.count,Prd.count,if_pos h,if_pos (zBy h)]; rfl
theorem zKq {p : Prd} (h : p.check = 0) (n : Int) : (mP p).legs n = p.legs n := by
  rw [Prd.legs,Prd.legs,pJ h]; rfl
theorem zFu {p : Prd} (h : p.check = 0) (a b : Int) : (mP p).spread a b = p.spread a b := by
  have hm := zBy h
  rw [Prd.spread,Prd.spread]
  have e : ((mP p).check ≠ 0 ∨ a < 0 ∨ b ≤ a ∨ ((mP p).months.length : Int) ≤ b) = (p.check ≠ 0 ∨ a < 0 ∨ b ≤ a ∨ (p.months.length : Int) ≤ b) := by rw [hm,h]; rfl
  rw [show ((mP p).months) = p.months from rfl] at *
  by_cases c : p.check ≠ 0 ∨ a < 0 ∨ b ≤ a ∨ (p.months.length : Int) ≤ b
  · rw [if_pos c,if_pos (by rw [e]; exact c)]
  · rw [if_neg c,if_neg (by rw [e]; exact c)]
theorem zNg {p : Prd} (h : p.check = 0) (i n : Int) : (mP p).price i (-n) = p.price i n := by
  rw [Prd.price,Prd.price,pJ h]
  have e1 : y8 (mP p).tick (-n) = y8 p.tick n := rI p.tick n
  have e2 : (mP p).months = p.months := rfl
  have e3 : (mP p).wide = p.wide := rfl
  have e4 : (mP p).low = -p.high := rfl
  have e5 : (mP p).high = -p.low := rfl
  rw [e1,e2,e3,e4,e5]
  by_cases c : (p.months.length : Int) ≤ i
  · simp only [if_pos c]
    have : (-n < -p.wide ∨ p.wide < -n) ↔ (n < -p.wide ∨ p.wide < n) := by omega
    simp only [this]
  · simp only [if_neg c]
    have : (-n < -p.high ∨ -p.low < -n) ↔ (n < p.low ∨ p.high < n) := by omega
    simp only [this]
def nC (B : List (List zG)) : Prop := ∀ (k : Nat) (L : List zG),B[k]? = some L→Two L
theorem z9h {B : List (List zG)} {k : Nat} {L : List zG} (h : B[k]? = some L) : (mB B)[k]? = some (mL L) := by rw [mB,List.getElem?_map,h]; rfl
theorem pO (B : List (List zG)) (k : Nat) : (mB B).getD k [] = mL (B.getD k []) := by
  by_cases h : k < B.length
  · obtain ⟨L,hL⟩ := yC h
    rw [zV hL,zV (z9h hL)]
  · rw [List.getD_eq_getElem?_getD,List.getD_eq_getElem?_getD,List.getElem?_eq_none (by rw [mB,List.length_map]; omega),List.getElem?_eq_none (by omega)]; rfl
theorem zJy (B : List (List zG)) : (mB B).length = B.length := List.length_map ..
theorem zXo (B : List (List zG)) (k : Nat) (L : List zG) : (mB B).set k (mL L) = mB (B.set k L) := by rw [mB,mB,List.map_set]
theorem zVs {B : List (List zG)} (ho : zVl B) (id : Int) : j7 (mB B) id = j7 B id := by
  have key : ∀ (C : List (List zG)),(∀ L ∈ C,∀ o ∈ L,u0 o) → (C.map mL).findIdx? (fun L => xQ L id) = C.findIdx? fun L => xQ L id := by
    intro C
    induction C with
    | nil => intro _; rfl
    | cons L C ih =>
      intro h
      rw [List.map_cons,List.findIdx?_cons,List.findIdx?_cons,zUn (h L List.mem_cons_self),ih fun M hM => h M (List.mem_cons_of_mem _ hM)]
  refine key B fun L hL => ?_
  obtain ⟨k,hk⟩ := List.mem_iff_getElem?.1 hL
  exact (ho k L hk).1
theorem zZj {p : Prd} {B : List (List zG)} (h : BWf p B) (h2 : nC B) (id q : Int) : xW (mB B) id q = (mB (xW B id q).1,(xW B id q).2) ∧ nC (xW B id q).1 := by
  rw [xW,xW,zVs h.od]
  cases hi : j7 B id with
  | none => exact ⟨rfl,h2⟩
  | some k =>
    obtain ⟨L,hL,_⟩ := jM hi
    have ho := h.od k L hL
    dsimp only
    rw [pO,zV hL,z6c ho.2.1 (h2 k L hL) ho.1,zXo]
    refine ⟨rfl,fun j M hM => ?_⟩
    rcases jZ hM with ⟨rfl,rfl⟩ | ⟨_,hM⟩
    · exact zYe (h2 _ L hL) id q
    · exact h2 j M hM
theorem pP {p : Prd} : ∀ {fs : List wR} {B : List (List zG)},BWf p B → nC B → xC (mB B) (fs.map mF) = mB (xC B fs) ∧ nC (xC B fs)
  | [],B,_,h2 => ⟨rfl,h2⟩
  | f :: fs,B,h,h2 => by
    obtain ⟨a,b⟩ := zZj h h2 f.id f.qty
    obtain ⟨c,d⟩ := pP (fs := fs) (h.take f.id f.qty) b
    refine ⟨?_,d⟩
    show xC (xW (mB B) f.id f.qty).1 (fs.map mF) = _
    rw [a]; exact c
theorem zMm : ∀ (B : List (List zG)) (k : Nat),(∀ L ∈ B,Two L) → (whL k (mB B)).length = (whL k B).length
  | [],k,_ => rfl
  | L :: B,k,h => by
    show ((mL L).map _ ++ whL (k + 1) (mB B)).length = (L.map _ ++ whL (k + 1) B).length
    rw [List.length_append,List.length_append,List.length_map,List.length_map,zTx (h L List.mem_cons_self),zMm B (k + 1) fun M hM => h M (List.mem_cons_of_mem _ hM)]
theorem z9l {p : Prd} {B : List (List zG)} (h : BWf p B) (h2 : nC B) (inst id : Int) {s : Int} (hs : s = 1 ∨ s = 2) (price q : Int) : uG (mP p) (mB B) inst id (3 - s) (-price) q = (mB (uG p B inst id s price q).1,(uG p B inst id s price q).2) ∧ nC (uG p B inst id s price q).1 := by
  rw [uG,uG,zJy,zVs h.od,zMm B 0 (fun L hL => by obtain ⟨k,hk⟩ := List.mem_iff_getElem?.1 hL; exact h2 k L hk),zNg h.ok.pc]
  split
  · exact ⟨rfl,h2⟩
  split
  · exact ⟨rfl,h2⟩
  split
  · exact ⟨rfl,h2⟩
  split
  · exact ⟨rfl,h2⟩
  rename_i c1 _ _ _
  obtain ⟨L,hL⟩ := yC (l := B) (i := inst.toNat) (by omega)
  obtain ⟨a,b⟩ := yBw (h2 _ L hL) (h.od _ L hL).1 hs id price q
  rw [pO,zV hL,a,zXo]
  refine ⟨rfl,fun j M hM => ?_⟩
  rcases jZ hM with ⟨rfl,rfl⟩ | ⟨_,hM⟩
  · exact b
  · exact h2 j M hM
theorem zVc (t : Top) {s : Int} (hs : s = 1 ∨ s = 2) : (mT t).has (3 - s) = t.has s ∧ (mT t).price (3 - s) = -t.price s ∧ (mT t).qty (3 - s) = t.qty s := by
  rcases hs with rfl | rfl <;> exact ⟨rfl,rfl,rfl⟩
def rH (T : List Top) : Prop := ∀ t ∈ T,(-2000000 ≤ t.p1∧t.p1 ≤ 2000000)∧(-2000000 ≤ t.p2∧t.p2 ≤ 2000000)
theorem zWh {T : List Top} (hT : rH T) {a b : Leg} (ha : 0 ≤ a.inst ∧ a.inst < T.length) (hb : 0 ≤ b.inst ∧ b.inst < T.length) (h1 : a.side = 1 ∨ a.side = 2) (h2 : b.side = 1 ∨ b.side = 2) (less : Bool) : mkq (T.map mT) (eI a) (eI b) less = (mkq T a b less).map mQ := by
  obtain ⟨x,hx⟩ := yC (l := T) (i := a.inst.toNat) (by omega)
  obtain ⟨y,hy⟩ := yC (l := T) (i := b.inst.toNat) (by omega)
  have ex : (T.map mT).getD (eI a).inst.toNat top0 = mT x := zV (by rw [List.getElem?_map]; show (T[a.inst.toNat]?).map mT = _; rw [hx]; rfl)
  have ey : (T.map mT).getD (eI b).inst.toNat top0 = mT y := zV (by rw [List.getElem?_map]; show (T[b.inst.toNat]?).map mT = _; rw [hy]; rfl)
  have bx : -2000000 ≤ x.price a.side ∧ x.price a.side ≤ 2000000 := by
    have := hT x (List.mem_of_getElem? hx)
    rw [Top.price]; split
    · exact this.1
    · exact this.2
  have by_ : -2000000 ≤ y.price b.side ∧ y.price b.side ≤ 2000000 := by
    have := hT y (List.mem_of_getElem? hy)
    rw [Top.price]; split
    · exact this.1
    · exact this.2
  obtain ⟨x1,x2,x3⟩ := zVc x h1
  obtain ⟨y1,y2,y3⟩ := zVc y h2
  have sub_in : ∀ u v : Int,-2000000 ≤ u ∧ u ≤ 2000000 → -2000000 ≤ v ∧ v ≤ 2000000 → kM u v = (u - v,true) := fun u v hu hv => by rw [kM,if_pos ⟨by omega,by omega⟩]
  have add_in : ∀ u v : Int,-2000000 ≤ u ∧ u ≤ 2000000 → -2000000 ≤ v ∧ v ≤ 2000000 → kP u v = (u + v,true) := fun u v hu hv => by rw [kP,if_pos ⟨by omega,by omega⟩]
  cases less
  · simp only [mkq,ex,ey,zV hx,zV hy,Bool.false_eq_true,↓reduceIte]
    rw [show (eI a).side = 3 - a.side from rfl,show (eI b).side = 3 - b.side from rfl,x1,x2,x3,y1,y2,y3,add_in _ _ bx by_,add_in _ _ (by omega) (by omega)]
    dsimp only
    split
    · rw [List.map_cons,List.map_nil,mQ]
      simp only [Int.neg_add]
    · rfl
  · simp only [mkq,ex,ey,zV hx,zV hy,↓reduceIte]
    rw [show (eI a).side = 3 - a.side from rfl,show (eI b).side = 3 - b.side from rfl,x1,x2,x3,y1,y2,y3,sub_in _ _ by_ bx,sub_in _ _ (by omega) (by omega)]
    dsimp only
    split
    · rw [List.map_cons,List.map_nil,mQ]
      have : -y.price b.side - -x.price a.side = -(y.price b.side - x.price a.side) := by omega
      rw [this]
    · rfl
theorem nD {f g : Nat → List Quote} : ∀ {l : List Nat},(∀ k ∈ l,f k = (g k).map mQ) → l.flatMap f = (l.flatMap g).map mQ
  | [],_ => rfl
  | k :: l,h => by rw [List.flatMap_cons,List.flatMap_cons,List.map_append,h k List.mem_cons_self,nD fun j hj => h j (List.mem_cons_of_mem _ hj)]
theorem z7e {p : Prd} (hc : p.check = 0) {T : List Top} (hT : rH T) (hl : T.length = p.count) (inst : Int) {s : Int} (hs : s = 1 ∨ s = 2) : xI ⟨mP p,T.map mT,inst⟩ (3 - s) = (xI ⟨p,T,inst⟩ s).map mQ := by
  rw [xI,xI]
  dsimp only
  rw [pJ hc,List.length_map,zKq hc]
  split
  · rfl
  rename_i hn
  obtain ⟨k,rfl⟩ : ∃ k : Nat,inst = k := ⟨inst.toNat,by omega⟩
  have hge := fA hc
  have hk : k < p.count := by omega
  split
  · rename_i hlg
    rcases jR hc hk with ⟨_,l1,l2,l3,l4⟩ | ⟨e,_⟩
    · have e : zY ⟨mP p,T.map mT,k⟩ (3 - s) = (zY ⟨p,T,k⟩ s).map mQ := by
        rw [zY,zY]
        dsimp only
        rw [zKq hc]
        exact zWh hT (a := ⟨(p.legs k).2.1,3 - s⟩) (b := ⟨(p.legs k).1,s⟩) (by dsimp only;omega) (by dsimp only;omega) (by dsimp only;omega) hs true
      rw [e,List.map_map,List.map_map]
      refine List.map_congr_left fun q _ => ?_
      simp only [Function.comp,qR,mQ,eI]
      rw [zKq hc]
    · rw [e] at hlg; cases hlg
  · rename_i hlg
    have hm : k < p.months.length := by
      rcases jR hc hk with ⟨e,_⟩ | ⟨_,e⟩
      · exact absurd e hlg
      · exact e
    rw [List.map_append,show (mP p).months = p.months from rfl,Int.toNat_natCast]
    congr 1
    · refine nD fun j hj => ?_
      have hj := List.mem_range.1 hj
      have ec : ((k : Int) + 1 + j) = ((k + 1 + j : Nat) : Int) := by omega
      have s1 := jV hc (a := k) (b := k + 1 + j) (by omega) (by omega)
      dsimp only
      rw [zFu hc,ec]
      exact zWh hT (a := ⟨(p.spread k ((k + 1 + j : Nat) : Int)).1,s⟩) (b := ⟨((k + 1 + j : Nat) : Int),s⟩) (by dsimp only;omega) (by dsimp only;omega) hs hs false
    · refine nD fun j hj => ?_
      have hj := List.mem_range.1 hj
      have s1 := jV hc (a := j) (b := k) (by omega) (by omega)
      dsimp only
      rw [zFu hc]
      exact zWh hT (a := ⟨(p.spread j k).1,3 - s⟩) (b := ⟨(j : Int),s⟩) (by dsimp only;omega) (by dsimp only;omega) (by dsimp only;omega) hs true
theorem zSl {p : Prd} (hc : p.check = 0) {T : List Top} (hT : rH T) (hl : T.length = p.count) (inst : Int) {s : Int} (hs : s = 1 ∨ s = 2) : xO ⟨mP p,T.map mT,inst⟩ (3 - s) = (xO ⟨p,T,inst⟩ s).map mQ := by
  rw [xO,xO,z7e hc hT hl inst hs,List.filter_map]
  congr 1
  refine List.filter_congr fun q _ => ?_
  show decide ((mP p).price inst (-q.price) = 0) = _
  rw [zNg hc]
theorem z3i (l : List Quote) {s : Int} (hs : s = 1 ∨ s = 2) (h : l ≠ []) : zT (l.map mQ) (3 - s) = (mQ (zT l s).1,(zT l s).2) := by
  cases l with
  | nil => exact absurd rfl h
  | cons q r =>
    have key : ∀ (r : List Quote) (q : Quote),(r.map mQ).foldl (fun b q => if btr (3 - s) q.price b.price then q else b) (mQ q) = mQ (r.foldl (fun b q => if btr s q.price b.price then q else b) q) := by
      intro r
      induction r with
      | nil => intro q; rfl
      | cons x r ih =>
        intro q
        rw [List.map_cons,List.foldl_cons,List.foldl_cons,show btr (3 - s) (mQ x).price (mQ q).price = btr s x.price q.price from zOr hs]
        by_cases e : btr s x.price q.price = true
        · rw [if_pos e,if_pos e]; exact ih x
        · rw [if_neg e,if_neg e]; exact ih q
    show (_,true) = (_,true)
    rw [key]; rfl
theorem z6j {p : Prd} {B : List (List zG)} (h : BWf p B) (inst : Int) {s : Int} (hs : s = 1 ∨ s = 2) :
    (zL (mP p) (mB B) inst (3 - s)).2 = (zL p B inst s).2 ∧ ((zL p B inst s).2.2 = true → (zL (mP p) (mB B) inst (3 - s)).1.price = -(zL p B inst s).1.price ∧ (zL (mP p) (mB B) inst (3 - s)).1.qty = (zL p B inst s).1.qty ∧ ((zL p B inst s).2.1 = true → (zL (mP p) (mB B) inst (3 - s)).1 = mQ (zL p B inst s).1)) := by
  have hT : rH (B.map kW) := by
    intro t ht
    obtain ⟨L,hL,rfl⟩ := List.mem_map.1 ht
    obtain ⟨k,hk⟩ := List.mem_iff_getElem?.1 hL
    rw [(gR L).1,(gR L).2.2.2.1]
    exact ⟨bX (h.ok.prices hk),bX (h.ok.prices hk)⟩
  have eT : (mB B).map kW = (B.map kW).map mT := by
    rw [mB,List.map_map,List.map_map]
    exact List.map_congr_left fun L _ => yAp L
  have hq := zSl h.ok.pc hT (by rw [List.length_map]; exact h.ok.bl) inst hs
  have h3 : 3 - s = 1 ∨ 3 - s = 2 := by omega
  have hb := zDw (B.getD inst.toNat []) h3
  rw [show 3 - (3 - s) = s by omega] at hb
  rw [zL,zL,eT,hq,pO,hb]
  generalize xO ⟨p,B.map kW,inst⟩ s = Q
  generalize bestL (B.getD inst.toNat []) s = l
  dsimp only
  by_cases hQ : Q = []
  · subst hQ
    have e : (zT [] s).2 = false := rfl
    have e2 : (zT (List.map mQ []) (3 - s)).2 = false := rfl
    rw [e,e2]
    cases l.2
    · exact ⟨rfl,fun x => by cases x⟩
    · exact ⟨rfl,fun _ => ⟨rfl,rfl,fun x => by cases x⟩⟩
  · rw [z3i Q hs hQ]
    have e : btr (3 - s) (mQ (zT Q s).1).price (mV l.1).price = btr s (zT Q s).1.price l.1.price := zOr hs
    dsimp only
    rw [e]
    by_cases c : (l.2 && !((zT Q s).2 && btr s (zT Q s).1.price l.1.price)) = true
    · rw [if_pos c,if_pos c]
      exact ⟨rfl,fun _ => ⟨rfl,rfl,fun x => by cases x⟩⟩
    · rw [if_neg c,if_neg c]
      exact ⟨rfl,fun _ => ⟨rfl,rfl,fun _ => rfl⟩⟩
open Go Cv Go.Proofs
theorem z2m (B : List (List zG)) (inst : Int) {s : Int} (hs : s = 1 ∨ s = 2) : fN (mB B) inst (3 - s) = (fN B inst s).map mO := by
  have h3 : 3 - s = 1 ∨ 3 - s = 2 := by omega
  have e : 3 - (3 - s) = s := by omega
  rw [fN,fN,pO,zDw _ h3,e]
  have := yDz (B.getD inst.toNat []) h3 (bestL (B.getD inst.toNat []) s).1.price
  rw [e] at this
  exact this
theorem z9r (os : List zG) : topI (os.map mO) = topI os := by
  rw [topI,topI,List.findIdx?_map]
  rfl
theorem z2k (p : Prd) (os : List zG) (q : Int) : xD ⟨mP p,os.map mO,q⟩ = xD ⟨p,os,q⟩ := by
  have e : AlI.qs ⟨mP p,os.map mO,q⟩ = AlI.qs ⟨p,os,q⟩ := by
    show (os.map mO).map (·.qty) = os.map (·.qty)
    rw [List.map_map]; rfl
  rw [xD,xD,e]
  dsimp only
  rw [z9r]
  rfl
theorem zLy (inst s : Int) : ∀ (os : List zG) (sh : List Int),yW inst (3 - s) (os.map mO) sh = (yW inst s os sh).map mF
  | [],sh => rfl
  | o :: os,[] => rfl
  | o :: os,k :: sh => by
    rw [List.map_cons,yW,yW,zLy inst s os sh]
    split <;> rfl
theorem zCn {p : Prd} (B : List (List zG)) (inst : Int) {s : Int} (hs : s = 1 ∨ s = 2) (q : Int) : yH (mP p) (mB B) inst (3 - s) q = (yH p B inst s q).map mF := by
  rw [yH,yH,z2m B inst hs,z2k,zLy]
theorem zTi {p : Prd} {B : List (List zG)} (h : BWf p B) (h2 : nC B) {inst : Int} (hi : 0 ≤ inst ∧ inst < B.length) (sd : Bool) (price q : Int) :
    match jU p B inst sd price q with
    | none => jU (mP p) (mB B) inst (!sd) (-price) q = none
    | some (t,B') => jU (mP p) (mB B) inst (!sd) (-price) q = some (mS t,mB B') ∧ BWf p B' ∧ nC B' := by
  have hs : zB (!sd) = 1 ∨ zB (!sd) = 2 := mD _
  have es : zB (!(!sd)) = 3 - zB (!sd) := by cases sd <;> rfl
  obtain ⟨n1,n2⟩ := z6j h inst hs
  have ni := zDn h.ok h.od hi hs
  rw [← es] at n1 n2
  rw [jU,jU]
  generalize zL (mP p) (mB B) inst (zB (!(!sd))) = m at n1 n2
  generalize zL p B inst (zB (!sd)) = n at n1 n2 ni
  dsimp only
  rw [n1]
  cases hn : n.2.2 with
  | false => rfl
  | true =>
    obtain ⟨e1,e2,e3⟩ := n2 hn
    obtain ⟨_,hi2,_⟩ := ni hn
    rw [e1,e2,z9a]
    by_cases c : (true && (v9 sd price n.1.price && decide (1 ≤ n.1.qty))) = true
    · rw [if_pos c,if_pos c]
      cases hm : n.2.1 with
      | true =>
        rw [if_pos rfl,if_pos rfl,e3 hm]
        obtain ⟨_,ok⟩ := hi2 hm
        have ea : (mQ n.1).a.side = 3 - n.1.a.side := rfl
        have eb : (mQ n.1).b.side = 3 - n.1.b.side := rfl
        have ia : (mQ n.1).a.inst = n.1.a.inst := rfl
        have ib : (mQ n.1).b.inst = n.1.b.inst := rfl
        rw [ea,eb,ia,ib,zCn B n.1.a.inst ok.sa]
        obtain ⟨t1,t2⟩ := pP (fs := yH p B n.1.a.inst n.1.a.side (min q n.1.qty)) h h2
        rw [t1,zCn _ n.1.b.inst ok.sb]
        have hw := h.takes (fs := yH p B n.1.a.inst n.1.a.side (min q n.1.qty))
        obtain ⟨t3,t4⟩ := pP (fs := yH p (xC B (yH p B n.1.a.inst n.1.a.side (min q n.1.qty))) n.1.b.inst n.1.b.side (min q n.1.qty)) hw t2
        rw [t3]
        refine ⟨?_,hw.takes,t4⟩
        rw [mS,List.map_append]
      | false =>
        rw [if_neg (by decide),if_neg (by decide),es,zCn B inst hs]
        obtain ⟨t1,t2⟩ := pP (fs := yH p B inst (zB (!sd)) (min q n.1.qty)) h h2
        rw [t1]
        exact ⟨rfl,h.takes,t2⟩
    · rw [if_neg c,if_neg c]
theorem zFs {p : Prd} {B : List (List zG)} {inst : Int} {sd : Bool} {price q : Int} {t : wY} {B' : List (List zG)} (h : jU p B inst sd price q = some (t,B')) : B'.length = B.length := by
  rw [jU] at h
  dsimp only at h
  split at h
  · split at h
    · cases h; rw [kU,kU]
    · cases h; rw [kU]
  · cases h
theorem z4q {p : Prd} {inst : Int} (sd : Bool) (price : Int) : ∀ (n : Nat) (B : List (List zG)) (q : Int),BWf p B → nC B → 0 ≤ inst ∧ inst < B.length →
    (wE (mP p) inst (!sd) (-price) n (mB B) q = ⟨(wE p inst sd price n B q).steps.map mS,(wE p inst sd price n B q).left,mB (wE p inst sd price n B q).B⟩) ∧ nC (wE p inst sd price n B q).B
  | 0,B,q,_,h2,_ => ⟨rfl,h2⟩
  | n + 1,B,q,h,h2,hi => by
    rw [wE,wE]
    by_cases hq : q ≤ 0
    · rw [if_pos hq,if_pos hq]; exact ⟨rfl,h2⟩
    · rw [if_neg hq,if_neg hq]
      have hs := zTi h h2 hi sd price q
      cases hst : jU p B inst sd price q with
      | none =>
        rw [hst] at hs
        dsimp only at hs
        rw [hs]; exact ⟨rfl,h2⟩
      | some x =>
        obtain ⟨t,B'⟩ := x
        rw [hst] at hs
        dsimp only at hs
        obtain ⟨s1,s2,s3⟩ := hs
        rw [s1]
        obtain ⟨r1,r2⟩ := z4q sd price n B' (q - t.qty) s2 s3 (by rw [zFs hst]; exact hi)
        have e : (mS t).qty = t.qty := rfl
        dsimp only
        rw [e,r1]
        exact ⟨rfl,r2⟩
def zIi (p : Prd) : List (List zG) := List.replicate p.count []
theorem yCg (p : Prd) (h : p.check = 0) : zIi (mP p) = mB (zIi p) ∧ nC (zIi p) := by
  rw [zIi,zIi,pJ h,mB,List.map_replicate]
  refine ⟨rfl,fun k L hL => ?_⟩
  rw [List.eq_of_mem_replicate (List.mem_of_getElem? hL)]; rfl
open Go Cv Go.Proofs
structure MiI where
  x : Prd
  l : List Ask
@[reducible] def MiI.raw (i : MiI) : Prop := i.x.raw ∧ (∀ c ∈ i.l,c.raw) ∧ i.l.length ≤ 9223372036854775807
def MiI.p (i : MiI) : Prd := j9 i.x
def MiI.ask (i : MiI) (j : Nat) : Ask := jX ⟨i.p,i.l.getD j z8f,j⟩
def MiI.st (i : MiI) : Nat → List (List zG)
  | 0 => zIi i.p
  | j + 1 => if (i.ask j).kind ≠ 3 then (uG i.p (i.st j) (i.ask j).inst (i.ask j).id (i.ask j).side (i.ask j).price (i.ask j).qty).1 else (uM i.p (i.st j) (i.ask j).inst (decide ((i.ask j).side = 2)) (i.ask j).price (i.ask j).qty).B
def MiI.n (i : MiI) : Nat := min i.l.length 40
def miC : Con := con1 MiI (fun i => [prdV i.x,roV 6 (i.l.map askE)]) (fun _ => []) (fun i => i.raw) (fun _ => yP true) (fun _ => [])
def z4r (p : Prd) (j : Nat) : List AObj := [.cells [sV p.code,.own 1,zF p.tick,zF (-p.high),zF (-p.low),zF p.wide,zF p.rule,zF p.top,zF p.least,zF p.part,.own 2] 25,.fro 1 (iE p.months),.own 2 1 (iE ((p.settle.map fun n => -n).take j))]
def miA (i : MiI) : List SAnn := [
  { ι := Nat,slots := fun j => [(6,.nm 0 0),(7,zF j)],rows := fun j => z4r i.p j },
  { ι := Nat × MSt × MSt,slots := fun j => [(8,.nm 0 0),(10,.nm 1 0),(12,zF j.1)],rows := fun j => [zO j.2.1,zO j.2.2] },
  { ι := Nat,slots := fun j => [(18,zF j)],rows := fun _ => [] },
  { ι := Nat,slots := fun j => [(19,zF j)],rows := fun _ => [] }]
def yDr (t : Nat) : SAnn := { ι := Prd,slots := fun _ => [(t,.nm 0 0)],rows := fun p => [.cells [sV p.code,.own 1,zF p.tick,zF p.low,zF p.high,zF p.wide,zF p.rule,zF p.top,zF p.least,zF p.part,.own 2] 25,.fro 1 (iE p.months),.fro 1 (iE p.settle)] }
def yDj (t : Nat) : SAnn := { ι := Ask,slots := fun _ => [(t,.nm 0 0)],rows := fun y => [.cells y.cells 33] }
def miJ : List (Nat × SAnn) := [(4,yDr 5),(56,bj 82),(64,yDj 13),(108,bj 218),(140,bj 254)]
end Sx
