/- Texts of ours, one behind the other: a walk that the kernel reckons, and contracts of functions. No condition. -/
import Derived.Test.YtmkgajpdangkaaaM7
namespace Sx
set_option linter.unusedVariables false
set_option maxRecDepth 100000
open Go Cv Go.Proofs
def zAf (b : Bool) : Prop :=
  ∃ (o : Unit),(zB !b) = IntKind.i64.wrap (3 - zB b)∧True
theorem zRo (b : Bool) : zAf b = walk Try.prog ([]) 0 ([]) ([]) [] Try.f26 (Try.f26.body.getD .skip) (motherC.pat b) (motherC.pre b) (motherC.alts b) := by kernel_rfl
theorem zUh (hG : GOk Try.prog ([])) (h : ∀ (b : Bool),motherC.cnd b → zAf b) : motherC.ok Try.prog 26 := zE mixed ([]) hG 0 (fun (b : Bool) => []) (fun (b : Bool) => []) [] Try.func26 (by kernel_rfl) (by kernel_rfl) (by kernel_rfl) (fun _ => by kernel_rfl) (fun (b : Bool) hc => Eq.mp (zRo b) (h b hc))
def zIp (i : GoI) : Prop :=
  cnd (zB i.s == 1) (cnd (decide (i.x ≤ i.p)) (∃ (o : Unit),wN i.s i.p i.x = true∧True) (cnd (zB i.s == 2) (∃ (o : Unit),wN i.s i.p i.x = decide (i.x ≥ i.p)∧True) (∃ (o : Unit),wN i.s i.p i.x = false∧True))) (cnd (zB i.s == 2) (∃ (o : Unit),wN i.s i.p i.x = decide (i.x ≥ i.p)∧True) (∃ (o : Unit),wN i.s i.p i.x = false∧True))
theorem zXg (i : GoI) : zIp i = walk Try.prog ([]) 0 ([]) ([]) [] Try.f27 (Try.f27.body.getD .skip) (mgoodC.pat i) (mgoodC.pre i) (mgoodC.alts i) := by kernel_rfl
theorem zWr (hG : GOk Try.prog ([])) (h : ∀ (i : GoI),mgoodC.cnd i → zIp i) : mgoodC.ok Try.prog 27 := zE mixed ([]) hG 0 (fun (i : GoI) => []) (fun (i : GoI) => []) [] Try.func27 (by kernel_rfl) (by kernel_rfl) (by kernel_rfl) (fun _ => by kernel_rfl) (fun (i : GoI) hc => Eq.mp (zXg i) (h i hc))
@[reducible] def zDj (i : NxI) (i_1 : MSt) (o : Unit) : Prop := ∃ (i_2 : dI),sb i_2.i.p.code = sb i.s.p.code∧iE i_2.i.p.months = iE i_1.p.months∧i_2.i.p.tick = i.s.p.tick∧i_2.i.p.low = i.s.p.low∧i_2.i.p.high = i.s.p.high∧i_2.i.p.wide = i.s.p.wide∧i_2.i.p.rule = i.s.p.rule∧i_2.i.p.top = i.s.p.top∧i_2.i.p.least = i.s.p.least∧i_2.i.p.part = i.s.p.part∧iE i_2.i.p.settle = iE i_1.p.settle∧List.map zQ i_2.i.tops = List.map zQ i_1.tops∧i_2.i.inst = i.inst∧zB i_2.s = zB i.sd∧((i_2.i.p.code.length ≤ 1099511627776∧i_2.i.p.months.length ≤ 1099511627776∧i_2.i.p.settle.length ≤ 1099511627776)∧i_2.i.tops.length ≤ 1000000∧∀ (t : Top),t ∈ i_2.i.tops→((-9223372036854775808) ≤ t.p1∧t.p1 ≤ 9223372036854775807)∧(-9223372036854775808) ≤ t.p2∧t.p2 ≤ 9223372036854775807)∧∀ (o : Unit),True→∃ (i_3 : BsI),List.map zH i_3.l = List.map zH (qB i_2.i (zB i_2.s))∧i_3.s = zB i.sd∧((i_3.s = 1 ∨ i_3.s = 2)∧i_3.l.length ≤ 1000000)∧∀ (o : Unit),True→(0 ≤ i.inst∧i.inst < (↑i_1.books.length : Int))∧i.inst.toNat < i_1.books.length∧∃ (x : Book),i_1.books[i.inst.toNat]? = some x∧∃ (i_4 : BkS),zB i_4.side = zB i.sd∧z9 i_4.b = z9 x∧(∀ (q : qX),q ∈ i_4.b.a.queues→(-9223372036854775808) ≤ q.count∧q.count ≤ 9223372036854775807)∧∀ (o : Unit),True→∃ (x : Book),z9 i_4.b = z9 x∧i.inst.toNat = i.inst.toNat∧i.inst.toNat < i_1.books.length∧cnd (i_4.b.best (i_4.b.side i_4.side)).snd (cnd (zW i_3.l i_3.s).snd (∃ (i_5 : I3'),i_5.side = zB i.sd∧i_5.x = (zW i_3.l i_3.s).fst.price∧i_5.y = (i_4.b.best (i_4.b.side i_4.side)).fst.price∧True∧∀ (o : Unit),True→cnd (!btr i_5.side i_5.x i_5.y) (∃ (o : Unit),(zP i.p i.B i.inst (zB i.sd)).fst.price = (i_4.b.best (i_4.b.side i_4.side)).fst.price∧(zP i.p i.B i.inst (zB i.sd)).fst.qty = (i_4.b.best (i_4.b.side i_4.side)).fst.qty∧(zP i.p i.B i.inst (zB i.sd)).fst.a.inst = 0∧(zP i.p i.B i.inst (zB i.sd)).fst.a.side = 0∧(zP i.p i.B i.inst (zB i.sd)).fst.b.inst = 0∧(zP i.p i.B i.inst (zB i.sd)).fst.b.side = 0∧(zP i.p i.B i.inst (zB i.sd)).snd.fst = false∧(zP i.p i.B i.inst (zB i.sd)).snd.snd = true∧sb i.s.p.code = sb i_1.p.code∧i.s.p.tick = i_1.p.tick∧i.s.p.low = i_1.p.low∧i.s.p.high = i_1.p.high∧i.s.p.wide = i_1.p.wide∧i.s.p.rule = i_1.p.rule∧i.s.p.top = i_1.p.top∧i.s.p.least = i_1.p.least∧i.s.p.part = i_1.p.part∧AObj.objs 64 Book 6 zN i.s.books none = AObj.objs 64 Book 6 zN (i_1.books.set i.inst.toNat x) none∧yH i.s.wh = yH i_1.wh∧AObj.fro 1 (iE i.s.p.months) = AObj.fro 1 (iE i_1.p.months)∧AObj.fro 1 (iE i.s.p.settle) = AObj.fro 1 (iE i_1.p.settle)∧True) (∃ (o : Unit),(zP i.p i.B i.inst (zB i.sd)).fst.price = (zW i_3.l i_3.s).fst.price∧(zP i.p i.B i.inst (zB i.sd)).fst.qty = (zW i_3.l i_3.s).fst.qty∧(zP i.p i.B i.inst (zB i.sd)).fst.a.inst = (zW i_3.l i_3.s).fst.a.inst∧(zP i.p i.B i.inst (zB i.sd)).fst.a.side = (zW i_3.l i_3.s).fst.a.side∧(zP i.p i.B i.inst (zB i.sd)).fst.b.inst = (zW i_3.l i_3.s).fst.b.inst∧(zP i.p i.B i.inst (zB i.sd)).fst.b.side = (zW i_3.l i_3.s).fst.b.side∧(zP i.p i.B i.inst (zB i.sd)).snd.fst = (zW i_3.l i_3.s).snd∧(zP i.p i.B i.inst (zB i.sd)).snd.snd = (zW i_3.l i_3.s).snd∧sb i.s.p.code = sb i_1.p.code∧i.s.p.tick = i_1.p.tick∧i.s.p.low = i_1.p.low∧i.s.p.high = i_1.p.high∧i.s.p.wide = i_1.p.wide∧i.s.p.rule = i_1.p.rule∧i.s.p.top = i_1.p.top∧i.s.p.least = i_1.p.least∧i.s.p.part = i_1.p.part∧AObj.objs 64 Book 6 zN i.s.books none = AObj.objs 64 Book 6 zN (i_1.books.set i.inst.toNat x) none∧yH i.s.wh = yH i_1.wh∧AObj.fro 1 (iE i.s.p.months) = AObj.fro 1 (iE i_1.p.months)∧AObj.fro 1 (iE i.s.p.settle) = AObj.fro 1 (iE i_1.p.settle)∧True)) (∃ (o : Unit),(zP i.p i.B i.inst (zB i.sd)).fst.price = (i_4.b.best (i_4.b.side i_4.side)).fst.price∧(zP i.p i.B i.inst (zB i.sd)).fst.qty = (i_4.b.best (i_4.b.side i_4.side)).fst.qty∧(zP i.p i.B i.inst (zB i.sd)).fst.a.inst = 0∧(zP i.p i.B i.inst (zB i.sd)).fst.a.side = 0∧(zP i.p i.B i.inst (zB i.sd)).fst.b.inst = 0∧(zP i.p i.B i.inst (zB i.sd)).fst.b.side = 0∧(zP i.p i.B i.inst (zB i.sd)).snd.fst = false∧(zP i.p i.B i.inst (zB i.sd)).snd.snd = true∧sb i.s.p.code = sb i_1.p.code∧i.s.p.tick = i_1.p.tick∧i.s.p.low = i_1.p.low∧i.s.p.high = i_1.p.high∧i.s.p.wide = i_1.p.wide∧i.s.p.rule = i_1.p.rule∧i.s.p.top = i_1.p.top∧i.s.p.least = i_1.p.least∧i.s.p.part = i_1.p.part∧AObj.objs 64 Book 6 zN i.s.books none = AObj.objs 64 Book 6 zN (i_1.books.set i.inst.toNat x) none∧yH i.s.wh = yH i_1.wh∧AObj.fro 1 (iE i.s.p.months) = AObj.fro 1 (iE i_1.p.months)∧AObj.fro 1 (iE i.s.p.settle) = AObj.fro 1 (iE i_1.p.settle)∧True)) (∃ (o : Unit),(zP i.p i.B i.inst (zB i.sd)).fst.price = (zW i_3.l i_3.s).fst.price∧(zP i.p i.B i.inst (zB i.sd)).fst.qty = (zW i_3.l i_3.s).fst.qty∧(zP i.p i.B i.inst (zB i.sd)).fst.a.inst = (zW i_3.l i_3.s).fst.a.inst∧(zP i.p i.B i.inst (zB i.sd)).fst.a.side = (zW i_3.l i_3.s).fst.a.side∧(zP i.p i.B i.inst (zB i.sd)).fst.b.inst = (zW i_3.l i_3.s).fst.b.inst∧(zP i.p i.B i.inst (zB i.sd)).fst.b.side = (zW i_3.l i_3.s).fst.b.side∧(zP i.p i.B i.inst (zB i.sd)).snd.fst = (zW i_3.l i_3.s).snd∧(zP i.p i.B i.inst (zB i.sd)).snd.snd = (zW i_3.l i_3.s).snd∧sb i.s.p.code = sb i_1.p.code∧i.s.p.tick = i_1.p.tick∧i.s.p.low = i_1.p.low∧i.s.p.high = i_1.p.high∧i.s.p.wide = i_1.p.wide∧i.s.p.rule = i_1.p.rule∧i.s.p.top = i_1.p.top∧i.s.p.least = i_1.p.least∧i.s.p.part = i_1.p.part∧AObj.objs 64 Book 6 zN i.s.books none = AObj.objs 64 Book 6 zN (i_1.books.set i.inst.toNat x) none∧yH i.s.wh = yH i_1.wh∧AObj.fro 1 (iE i.s.p.months) = AObj.fro 1 (iE i_1.p.months)∧AObj.fro 1 (iE i.s.p.settle) = AObj.fro 1 (iE i_1.p.settle)∧True)
@[reducible] def zAo (i : NxI) (i_1 : MSt) (o : Unit) (i_2 : dI) : Prop := ∃ (i_3 : BsI),List.map zH i_3.l = List.map zH (qB i_2.i (zB i_2.s))∧i_3.s = zB i.sd∧((i_3.s = 1 ∨ i_3.s = 2)∧i_3.l.length ≤ 1000000)∧∀ (o : Unit),True→(0 ≤ i.inst∧i.inst < (↑i_1.books.length : Int))∧i.inst.toNat < i_1.books.length∧∃ (x : Book),i_1.books[i.inst.toNat]? = some x∧∃ (i_4 : BkS),zB i_4.side = zB i.sd∧z9 i_4.b = z9 x∧(∀ (q : qX),q ∈ i_4.b.a.queues→(-9223372036854775808) ≤ q.count∧q.count ≤ 9223372036854775807)∧∀ (o : Unit),True→∃ (x : Book),z9 i_4.b = z9 x∧i.inst.toNat = i.inst.toNat∧i.inst.toNat < i_1.books.length∧cnd (i_4.b.best (i_4.b.side i_4.side)).snd (cnd (zW i_3.l i_3.s).snd (∃ (i_5 : I3'),i_5.side = zB i.sd∧i_5.x = (zW i_3.l i_3.s).fst.price∧i_5.y = (i_4.b.best (i_4.b.side i_4.side)).fst.price∧True∧∀ (o : Unit),True→cnd (!btr i_5.side i_5.x i_5.y) (∃ (o : Unit),(zP i.p i.B i.inst (zB i.sd)).fst.price = (i_4.b.best (i_4.b.side i_4.side)).fst.price∧(zP i.p i.B i.inst (zB i.sd)).fst.qty = (i_4.b.best (i_4.b.side i_4.side)).fst.qty∧(zP i.p i.B i.inst (zB i.sd)).fst.a.inst = 0∧(zP i.p i.B i.inst (zB i.sd)).fst.a.side = 0∧(zP i.p i.B i.inst (zB i.sd)).fst.b.inst = 0∧(zP i.p i.B i.inst (zB i.sd)).fst.b.side = 0∧(zP i.p i.B i.inst (zB i.sd)).snd.fst = false∧(zP i.p i.B i.inst (zB i.sd)).snd.snd = true∧sb i.s.p.code = sb i_1.p.code∧i.s.p.tick = i_1.p.tick∧i.s.p.low = i_1.p.low∧i.s.p.high = i_1.p.high∧i.s.p.wide = i_1.p.wide∧i.s.p.rule = i_1.p.rule∧i.s.p.top = i_1.p.top∧i.s.p.least = i_1.p.least∧i.s.p.part = i_1.p.part∧AObj.objs 64 Book 6 zN i.s.books none = AObj.objs 64 Book 6 zN (i_1.books.set i.inst.toNat x) none∧yH i.s.wh = yH i_1.wh∧AObj.fro 1 (iE i.s.p.months) = AObj.fro 1 (iE i_1.p.months)∧AObj.fro 1 (iE i.s.p.settle) = AObj.fro 1 (iE i_1.p.settle)∧True) (∃ (o : Unit),(zP i.p i.B i.inst (zB i.sd)).fst.price = (zW i_3.l i_3.s).fst.price∧(zP i.p i.B i.inst (zB i.sd)).fst.qty = (zW i_3.l i_3.s).fst.qty∧(zP i.p i.B i.inst (zB i.sd)).fst.a.inst = (zW i_3.l i_3.s).fst.a.inst∧(zP i.p i.B i.inst (zB i.sd)).fst.a.side = (zW i_3.l i_3.s).fst.a.side∧(zP i.p i.B i.inst (zB i.sd)).fst.b.inst = (zW i_3.l i_3.s).fst.b.inst∧(zP i.p i.B i.inst (zB i.sd)).fst.b.side = (zW i_3.l i_3.s).fst.b.side∧(zP i.p i.B i.inst (zB i.sd)).snd.fst = (zW i_3.l i_3.s).snd∧(zP i.p i.B i.inst (zB i.sd)).snd.snd = (zW i_3.l i_3.s).snd∧sb i.s.p.code = sb i_1.p.code∧i.s.p.tick = i_1.p.tick∧i.s.p.low = i_1.p.low∧i.s.p.high = i_1.p.high∧i.s.p.wide = i_1.p.wide∧i.s.p.rule = i_1.p.rule∧i.s.p.top = i_1.p.top∧i.s.p.least = i_1.p.least∧i.s.p.part = i_1.p.part∧AObj.objs 64 Book 6 zN i.s.books none = AObj.objs 64 Book 6 zN (i_1.books.set i.inst.toNat x) none∧yH i.s.wh = yH i_1.wh∧AObj.fro 1 (iE i.s.p.months) = AObj.fro 1 (iE i_1.p.months)∧AObj.fro 1 (iE i.s.p.settle) = AObj.fro 1 (iE i_1.p.settle)∧True)) (∃ (o : Unit),(zP i.p i.B i.inst (zB i.sd)).fst.price = (i_4.b.best (i_4.b.side i_4.side)).fst.price∧(zP i.p i.B i.inst (zB i.sd)).fst.qty = (i_4.b.best (i_4.b.side i_4.side)).fst.qty∧(zP i.p i.B i.inst (zB i.sd)).fst.a.inst = 0∧(zP i.p i.B i.inst (zB i.sd)).fst.a.side = 0∧(zP i.p i.B i.inst (zB i.sd)).fst.b.inst = 0∧(zP i.p i.B i.inst (zB i.sd)).fst.b.side = 0∧(zP i.p i.B i.inst (zB i.sd)).snd.fst = false∧(zP i.p i.B i.inst (zB i.sd)).snd.snd = true∧sb i.s.p.code = sb i_1.p.code∧i.s.p.tick = i_1.p.tick∧i.s.p.low = i_1.p.low∧i.s.p.high = i_1.p.high∧i.s.p.wide = i_1.p.wide∧i.s.p.rule = i_1.p.rule∧i.s.p.top = i_1.p.top∧i.s.p.least = i_1.p.least∧i.s.p.part = i_1.p.part∧AObj.objs 64 Book 6 zN i.s.books none = AObj.objs 64 Book 6 zN (i_1.books.set i.inst.toNat x) none∧yH i.s.wh = yH i_1.wh∧AObj.fro 1 (iE i.s.p.months) = AObj.fro 1 (iE i_1.p.months)∧AObj.fro 1 (iE i.s.p.settle) = AObj.fro 1 (iE i_1.p.settle)∧True)) (∃ (o : Unit),(zP i.p i.B i.inst (zB i.sd)).fst.price = (zW i_3.l i_3.s).fst.price∧(zP i.p i.B i.inst (zB i.sd)).fst.qty = (zW i_3.l i_3.s).fst.qty∧(zP i.p i.B i.inst (zB i.sd)).fst.a.inst = (zW i_3.l i_3.s).fst.a.inst∧(zP i.p i.B i.inst (zB i.sd)).fst.a.side = (zW i_3.l i_3.s).fst.a.side∧(zP i.p i.B i.inst (zB i.sd)).fst.b.inst = (zW i_3.l i_3.s).fst.b.inst∧(zP i.p i.B i.inst (zB i.sd)).fst.b.side = (zW i_3.l i_3.s).fst.b.side∧(zP i.p i.B i.inst (zB i.sd)).snd.fst = (zW i_3.l i_3.s).snd∧(zP i.p i.B i.inst (zB i.sd)).snd.snd = (zW i_3.l i_3.s).snd∧sb i.s.p.code = sb i_1.p.code∧i.s.p.tick = i_1.p.tick∧i.s.p.low = i_1.p.low∧i.s.p.high = i_1.p.high∧i.s.p.wide = i_1.p.wide∧i.s.p.rule = i_1.p.rule∧i.s.p.top = i_1.p.top∧i.s.p.least = i_1.p.least∧i.s.p.part = i_1.p.part∧AObj.objs 64 Book 6 zN i.s.books none = AObj.objs 64 Book 6 zN (i_1.books.set i.inst.toNat x) none∧yH i.s.wh = yH i_1.wh∧AObj.fro 1 (iE i.s.p.months) = AObj.fro 1 (iE i_1.p.months)∧AObj.fro 1 (iE i.s.p.settle) = AObj.fro 1 (iE i_1.p.settle)∧True)
def zJx (i : NxI) : Prop :=
  (∃ (i_1 : MSt),sb i_1.p.code = sb i.s.p.code∧i_1.p.tick = i.s.p.tick∧i_1.p.low = i.s.p.low∧i_1.p.high = i.s.p.high∧i_1.p.wide = i.s.p.wide∧i_1.p.rule = i.s.p.rule∧i_1.p.top = i.s.p.top∧i_1.p.least = i.s.p.least∧i_1.p.part = i.s.p.part∧AObj.objs 64 Book 6 zN i_1.books none = AObj.objs 64 Book 6 zN i.s.books none∧yH i_1.wh = yH i.s.wh∧AObj.fro 1 (iE i_1.p.months) = AObj.fro 1 (iE i.s.p.months)∧AObj.fro 1 (iE i_1.p.settle) = AObj.fro 1 (iE i.s.p.settle)∧(i_1.books.length ≤ 1000000∧∀ (b : Book),b ∈ i_1.books→∀ (q : qX),q ∈ b.a.queues→(-9223372036854775808) ≤ q.count∧q.count ≤ 9223372036854775807)∧∀ (o : Unit),True→(sb i_1.p.code = sb i.s.p.code∧True∧i_1.p.tick = i.s.p.tick∧i_1.p.low = i.s.p.low∧i_1.p.high = i.s.p.high∧i_1.p.wide = i.s.p.wide∧i_1.p.rule = i.s.p.rule∧i_1.p.top = i.s.p.top∧i_1.p.least = i.s.p.least∧i_1.p.part = i.s.p.part∧True∧True)∧(∃ (i_2 : dI),sb i_2.i.p.code = sb i.s.p.code∧iE i_2.i.p.months = iE i_1.p.months∧i_2.i.p.tick = i.s.p.tick∧i_2.i.p.low = i.s.p.low∧i_2.i.p.high = i.s.p.high∧i_2.i.p.wide = i.s.p.wide∧i_2.i.p.rule = i.s.p.rule∧i_2.i.p.top = i.s.p.top∧i_2.i.p.least = i.s.p.least∧i_2.i.p.part = i.s.p.part∧iE i_2.i.p.settle = iE i_1.p.settle∧List.map zQ i_2.i.tops = List.map zQ i_1.tops∧i_2.i.inst = i.inst∧zB i_2.s = zB i.sd∧((i_2.i.p.code.length ≤ 1099511627776∧i_2.i.p.months.length ≤ 1099511627776∧i_2.i.p.settle.length ≤ 1099511627776)∧i_2.i.tops.length ≤ 1000000∧∀ (t : Top),t ∈ i_2.i.tops→((-9223372036854775808) ≤ t.p1∧t.p1 ≤ 9223372036854775807)∧(-9223372036854775808) ≤ t.p2∧t.p2 ≤ 9223372036854775807)∧∀ (o : Unit),True→(zAo i i_1 o i_2)∧zAo i i_1 o i_2)∧(sb i_1.p.code = sb i.s.p.code∧True∧i_1.p.tick = i.s.p.tick∧i_1.p.low = i.s.p.low∧i_1.p.high = i.s.p.high∧i_1.p.wide = i.s.p.wide∧i_1.p.rule = i.s.p.rule∧i_1.p.top = i.s.p.top∧i_1.p.least = i.s.p.least∧i_1.p.part = i.s.p.part∧True∧True)∧zDj i i_1 o)∧(sb i.s.p.code = sb i.s.p.code∧True∧i.s.p.tick = i.s.p.tick∧i.s.p.low = i.s.p.low∧i.s.p.high = i.s.p.high∧i.s.p.wide = i.s.p.wide∧i.s.p.rule = i.s.p.rule∧i.s.p.top = i.s.p.top∧i.s.p.least = i.s.p.least∧i.s.p.part = i.s.p.part∧True∧True)∧∃ (i_1 : MSt),sb i_1.p.code = sb i.s.p.code∧i_1.p.tick = i.s.p.tick∧i_1.p.low = i.s.p.low∧i_1.p.high = i.s.p.high∧i_1.p.wide = i.s.p.wide∧i_1.p.rule = i.s.p.rule∧i_1.p.top = i.s.p.top∧i_1.p.least = i.s.p.least∧i_1.p.part = i.s.p.part∧AObj.objs 64 Book 6 zN i_1.books none = AObj.objs 64 Book 6 zN i.s.books none∧yH i_1.wh = yH i.s.wh∧AObj.fro 1 (iE i_1.p.months) = AObj.fro 1 (iE i.s.p.months)∧AObj.fro 1 (iE i_1.p.settle) = AObj.fro 1 (iE i.s.p.settle)∧(i_1.books.length ≤ 1000000∧∀ (b : Book),b ∈ i_1.books→∀ (q : qX),q ∈ b.a.queues→(-9223372036854775808) ≤ q.count∧q.count ≤ 9223372036854775807)∧∀ (o : Unit),True→(sb i_1.p.code = sb i.s.p.code∧True∧i_1.p.tick = i.s.p.tick∧i_1.p.low = i.s.p.low∧i_1.p.high = i.s.p.high∧i_1.p.wide = i.s.p.wide∧i_1.p.rule = i.s.p.rule∧i_1.p.top = i.s.p.top∧i_1.p.least = i.s.p.least∧i_1.p.part = i.s.p.part∧True∧True)∧zDj i i_1 o
theorem z3j (i : NxI) : zJx i = walk Try.prog ([(51,topsOC),(50,quotesC),(49,bestQC),(52,bestC),(45,bbetterC)]) 0 ([]) ([]) [0] Try.f25 (Try.f25.body.getD .skip) (nextC.pat i) (nextC.pre i) (nextC.alts i) := by kernel_rfl
theorem z3d (hG : GOk Try.prog ([(51,topsOC),(50,quotesC),(49,bestQC),(52,bestC),(45,bbetterC)])) (h : ∀ (i : NxI),nextC.cnd i → zJx i) : nextC.ok Try.prog 25 := zE mixed ([(51,topsOC),(50,quotesC),(49,bestQC),(52,bestC),(45,bbetterC)]) hG 0 (fun (i : NxI) => []) (fun (i : NxI) => []) [0] Try.func25 (by kernel_rfl) (by kernel_rfl) (by kernel_rfl) (fun _ => by kernel_rfl) (fun (i : NxI) hc => Eq.mp (z3j i) (h i hc))
@[reducible] def zDs (i_1 : BkS) (b : Bool) : AObj := Sx.AObj.cells [V.d (D.v (.int .i64 (i_1.b.best (i_1.b.side i_1.side)).fst.price)),V.d (D.v (.int .i64 (i_1.b.best (i_1.b.side i_1.side)).fst.qty)),V.d (D.v (.int .i64 (i_1.b.best (i_1.b.side i_1.side)).fst.count))] (58 : Nat)
@[reducible] def bH (i : TrI) : AObj := Sx.AObj.cells [V.d (D.v (.int .i64 i.inst)),V.d (D.v (.int .i64 (zB i.sd)))] (74 : Nat)
@[reducible] def zFw (i_1 : BkS) : AObj := Sx.AObj.cells [V.d (D.v (.int .i64 (i_1.b.best (i_1.b.side i_1.side)).fst.price)),V.d (D.v (.int .i64 (i_1.b.best (i_1.b.side i_1.side)).fst.qty)),V.d (D.v (.int .i64 (i_1.b.best (i_1.b.side i_1.side)).fst.count))] (58 : Nat)
def zCi (i : TrI) : Prop :=
  (0 ≤ i.inst∧i.inst < (↑i.s.books.length : Int))∧i.inst.toNat < i.s.books.length∧∃ (x : Book),i.s.books[i.inst.toNat]? = some x∧∃ (i_1 : BkS),zB i_1.side = zB i.sd∧z9 i_1.b = z9 x∧(∀ (q : qX),q ∈ i_1.b.a.queues→(-9223372036854775808) ≤ q.count∧q.count ≤ 9223372036854775807)∧∀ (o : Unit),True→∃ (x : Book),z9 i_1.b = z9 x∧i.inst.toNat = i.inst.toNat∧i.inst.toNat < i.s.books.length∧∃ (x_1 : Book),(i.s.books.set i.inst.toNat x)[i.inst.toNat]? = some x_1∧∃ (i_2 : AtI),zB i_2.s = zB i.sd∧i_2.price = (i_1.b.best (i_1.b.side i_1.side)).fst.price∧z9 i_2.b = z9 x_1∧i_2.b.Rep i_2.L∧∀ (o : Unit),True→∃ (x_2 : Book),z9 i_2.b = z9 x_2∧i.inst.toNat = i.inst.toNat∧i.inst.toNat < (i.s.books.set i.inst.toNat x).length∧∃ (i_3 : AlI),sb i_3.p.code = sb i.s.p.code∧iE i_3.p.months = iE i.s.p.months∧i_3.p.tick = i.s.p.tick∧i_3.p.low = i.s.p.low∧i_3.p.high = i.s.p.high∧i_3.p.wide = i.s.p.wide∧i_3.p.rule = i.s.p.rule∧i_3.p.top = i.s.p.top∧i_3.p.least = i.s.p.least∧i_3.p.part = i.s.p.part∧iE i_3.p.settle = iE i.s.p.settle∧List.map qE i_3.l = List.map qE (atL i_2.L (zB i_2.s) i_2.price)∧i_3.q = i.q∧(i_3.l.length ≤ 1000∧((-9223372036854775808) ≤ i_3.q∧i_3.q ≤ 9223372036854775807)∧((-9223372036854775808) ≤ i_3.p.least∧i_3.p.least ≤ 9223372036854775807)∧((-9223372036854775808) ≤ i_3.p.top∧i_3.p.top ≤ 9223372036854775807)∧(-9223372036854775808) ≤ i_3.p.part∧i_3.p.part ≤ 9223372036854775807)∧∀ (o : Unit),True→∃ (i0 : Nat × MSt),(↑i0.fst : Int) = 0∧sb i0.snd.p.code = sb i.s.p.code∧i0.snd.p.tick = i.s.p.tick∧i0.snd.p.low = i.s.p.low∧i0.snd.p.high = i.s.p.high∧i0.snd.p.wide = i.s.p.wide∧i0.snd.p.rule = i.s.p.rule∧i0.snd.p.top = i.s.p.top∧i0.snd.p.least = i.s.p.least∧i0.snd.p.part = i.s.p.part∧AObj.objs 64 Book 6 zN i0.snd.books none = AObj.objs 64 Book 6 zN ((i.s.books.set i.inst.toNat x).set i.inst.toNat x_2) none∧yH i0.snd.wh = yH i.s.wh∧AObj.fro 1 (iE i0.snd.p.months) = AObj.fro 1 (iE i.s.p.months)∧AObj.fro 1 (iE i0.snd.p.settle) = AObj.fro 1 (iE i.s.p.settle)∧List.map qW (i.fs i0.fst) = []∧∃ (I : Nat × MSt→Prop),∃ (μ : Nat × MSt→Nat),I i0∧∀ (i_4 : Nat × MSt),I i_4→cnd (decide ((↑i_4.fst : Int) < (↑(iE (xH i_3)).length : Int))) ((0 ≤ (↑i_4.fst : Int)∧(↑i_4.fst : Int) < (↑(iE (xH i_3)).length : Int))∧∃ (n : Int),zG (iE (xH i_3)) (↑i_4.fst : Int).toNat 0 1 = some [D.v (.int .i64 n)]∧cnd (decide (n > 0)) ((0 ≤ (↑i_4.fst : Int)∧(↑i_4.fst : Int) < (↑(List.map qE (atL i_2.L (zB i_2.s) i_2.price)).length : Int))∧∃ (n_1 : Int),∃ (n_2 : Int),∃ (n_3 : Int),∃ (n_4 : Int),∃ (b : Bool),zG (List.map qE (atL i_2.L (zB i_2.s) i_2.price)) (↑i_4.fst : Int).toNat 0 5 = some [D.v (.int .i64 n_1),D.v (.int .i64 n_2),D.v (.int .i64 n_3),D.v (.int .i64 n_4),D.v (.bool b)]∧∃ (i_5 : StI),i_5.id = n_1∧i_5.q = n∧zR i_5.s = zR i_4.snd∧(i_5.s.Rep i_5.p i_5.B∧i_5.B.length ≤ 1000)∧∀ (o : MSt),o.Rep i_5.p (qP i_5.B i_5.id i_5.q).fst→((List.map qW (i.fs i_4.fst)).length + 1) * (48 : Nat) ≤ (70368744177664 : Nat)∧∃ (i' : Nat × MSt),(↑i'.fst : Int) = IntKind.i64.wrap ((↑i_4.fst : Int) + 1)∧zR i'.snd = zR o∧List.map qW (i.fs i'.fst) = List.map qW (i.fs i_4.fst) ++ [[D.v (.int .i64 n_1),D.v (.int .i64 i.inst),D.v (.int .i64 (zB i.sd)),D.v (.int .i64 n_3),D.v (.int .i64 n),D.v (.int .i64 (IntKind.i64.wrap (n_4 - n)))]]∧I i'∧μ i' < μ i_4∧AObj.own 2 1 (iE (xH i_3)) = AObj.own 2 1 (iE (xH i_3))∧AObj.fro 5 (List.map qE (atL i_2.L (zB i_2.s) i_2.price)) = AObj.fro 5 (List.map qE (atL i_2.L (zB i_2.s) i_2.price))∧zDs i_1 b = zDs i_1 b∧bH i = bH i∧AObj.fro 1 (iE i.s.p.months) = AObj.fro 1 (iE i.s.p.months)∧AObj.fro 1 (iE i.s.p.settle) = AObj.fro 1 (iE i.s.p.settle)) (∃ (i' : Nat × MSt),(↑i'.fst : Int) = IntKind.i64.wrap ((↑i_4.fst : Int) + 1)∧zR i'.snd = zR i_4.snd∧List.map qW (i.fs i'.fst) = List.map qW (i.fs i_4.fst)∧I i'∧μ i' < μ i_4∧AObj.own 2 1 (iE (xH i_3)) = AObj.own 2 1 (iE (xH i_3))∧AObj.fro 5 (List.map qE (atL i_2.L (zB i_2.s) i_2.price)) = AObj.fro 5 (List.map qE (atL i_2.L (zB i_2.s) i_2.price))∧zFw i_1 = zFw i_1∧bH i = bH i∧AObj.fro 1 (iE i.s.p.months) = AObj.fro 1 (iE i.s.p.months)∧AObj.fro 1 (iE i.s.p.settle) = AObj.fro 1 (iE i.s.p.settle))) (∃ (o : MSt),zR o = zR i_4.snd∧List.map qW (yJ i.p i.B i.inst (zB i.sd) i.q) = List.map qW (i.fs i_4.fst)∧o.Rep i.p (y6 i.B (yJ i.p i.B i.inst (zB i.sd) i.q)))
theorem zXs (i : TrI) : zCi i = walk Try.prog ([(52,bestC),(53,atC),(14,allocC),(54,stakeC)]) 0 ([]) (zUp i) [0] Try.f28 (Try.f28.body.getD .skip) (tradeC.pat i) (tradeC.pre i) (tradeC.alts i) := by kernel_rfl
theorem z0y (hG : GOk Try.prog ([(52,bestC),(53,atC),(14,allocC),(54,stakeC)])) (h : ∀ (i : TrI),tradeC.cnd i → zCi i) : tradeC.ok Try.prog 28 := zE mixed ([(52,bestC),(53,atC),(14,allocC),(54,stakeC)]) hG 0 (fun (i : TrI) => []) (fun (i : TrI) => zUp i) [0] Try.func28 (by kernel_rfl) (by kernel_rfl) (by kernel_rfl) (fun _ => by kernel_rfl) (fun (i : TrI) hc => Eq.mp (zXs i) (h i hc))
set_option linter.unusedSimpArgs false
open Go Cv Go.Proofs
theorem zUx {p : Prd} (hc : p.check = 0) {k v : Int} (h : p.price k v = 0) : -2000000 ≤ v ∧ v ≤ 2000000 := by
  have ok := xE hc
  have := ok.b1
  have := ok.b2
  have := ok.b3
  have := ok.b4
  have := ok.b5
  rw [Prd.price] at h
  by_cases c1 : p.count = 0
  · rw [if_pos c1] at h; cases h
  by_cases c2 : k < 0 ∨ (p.count : Int) ≤ k
  · rw [if_neg c1,if_pos c2] at h; cases h
  cases c3 : xG p.tick v with
  | true => rw [if_neg c1,if_neg c2,if_pos c3] at h; cases h
  | false =>
    rw [if_neg c1,if_neg c2,if_neg (by rw [c3]; decide)] at h
    by_cases c4 : (p.months.length : Int) ≤ k
    · simp only [if_pos c4] at h
      by_cases c5 : v < -p.wide ∨ p.wide < v
      · rw [if_pos c5] at h; cases h
      · omega
    · simp only [if_neg c4] at h
      by_cases c5 : v < p.low ∨ p.high < v
      · rw [if_pos c5] at h; cases h
      · omega
theorem nU {t : Int} (k : Int) : xG t (t * k) = false := by
  simp [xG,Int.mul_tmod_right]
theorem zGp (x : Prd) : (wE x).small := by
  have := zTb x
  refine ⟨by simp [wE],?_,?_⟩
  · show (qC _).length ≤ _
    rw [fH]; omega
  · show (xP _ _).length ≤ _
    rw [vX]; omega
theorem zGz (x : Prd) : (wE x).check = 0 := by
  have ht := zFd x
  have hn := zTb x
  have hw := yP (n := x.wide) (lo := 0) (hi := 60) (by omega)
  have hr := yP (n := x.rule) (lo := 0) (hi := 2) (by omega)
  have ho := yP (n := x.top) (lo := 0) (hi := 9) (by omega)
  have hl := yP (n := x.least) (lo := 0) (hi := 4) (by omega)
  have hp := yP (n := x.part) (lo := 0) (hi := 100) (by omega)
  have h1 : qO (wE x).code = true := by show qO [206,169] = true; decide +kernel
  obtain ⟨k,hk,hk1⟩ : ∃ k : Nat,(kN x).toNat = k ∧ (2 ≤ k ∧ k ≤ 5) := ⟨_,rfl,by omega⟩
  have h2 : yQ (wE x).months = true := by
    show yQ (qC (kN x).toNat) = true
    rw [hk]
    have : k = 2 ∨ k = 3 ∨ k = 4 ∨ k = 5 := by omega
    rcases this with rfl | rfl | rfl | rfl <;> decide
  have h3 : xD (wE x) = true := by
    have a : xG (yA x) (-20 * yA x) = false := by rw [Int.mul_comm]; exact nU _
    have b : xG (yA x) (100 * yA x) = false := by rw [Int.mul_comm]; exact nU _
    have c : (xP (yA x) (kN x).toNat).any (xG (yA x)) = false := by
      rw [List.any_eq_false]
      intro y hy
      obtain ⟨j,_,rfl⟩ := List.mem_map.1 hy
      rw [nU]; decide
    simp only [xD,wE,a,b,c,nU,Bool.not_false,Bool.and_true,Bool.and_eq_true]
    exact ⟨decide_eq_true (by omega),decide_eq_true (by omega)⟩
  have mw := zBa (a := yA x) (b := 5 + zD x.wide 0 60) (m := yA x) (n := 65) (by omega) (by omega)
  have h4 : xC (wE x) = false := by
    simp only [xC,wE,Bool.or_eq_false_iff]
    exact ⟨⟨⟨⟨decide_eq_false (by omega),decide_eq_false (by omega)⟩,decide_eq_false (by omega)⟩,decide_eq_false (by omega)⟩,decide_eq_false (by omega)⟩
  have h5 : yT (wE x) = false := by
    have e : (xP (yA x) (kN x).toNat).length = (qC (kN x).toNat).length := by rw [vX,fH]
    have ne : xP (yA x) (kN x).toNat ≠ [] := by
      intro hc
      have := vX (yA x) (kN x).toNat
      rw [hc] at this
      simp at this
      omega
    have bd : ∀ y ∈ xP (yA x) (kN x).toNat,0 ≤ y ∧ y ≤ yA x * 15 := by
      intro y hy
      obtain ⟨j,hj,rfl⟩ := List.mem_map.1 hy
      have := List.mem_range.1 hj
      exact zBa (by omega) (by omega)
    have m1 := bd _ (zFi ne)
    have m2 := bd _ (zEh ne)
    simp only [yT,wE,e,ne_eq,not_true_eq_false,decide_false,Bool.false_or,Bool.or_eq_false_iff]
    exact ⟨decide_eq_false (by omega),decide_eq_false (by omega)⟩
  have h6 : xO (wE x) = false := by
    simp only [xO,wE,Bool.or_eq_false_iff]
    exact ⟨decide_eq_false (by omega),decide_eq_false (by omega)⟩
  have h7 : y8 (wE x) = false := by
    simp only [y8,wE,Bool.or_eq_false_iff]
    exact ⟨⟨⟨⟨⟨decide_eq_false (by omega),decide_eq_false (by omega)⟩,decide_eq_false (by omega)⟩,decide_eq_false (by omega)⟩,decide_eq_false (by omega)⟩,decide_eq_false (by omega)⟩
  rw [Prd.check,h1,h2,h3,h4,h5,h6,h7]
  rfl
open Go Cv Go.Proofs
structure tA (qs sh : List Int) (q : Int) : Prop where
  len : sh.length = qs.length
  bd : ∀ n,0 ≤ sh.getD n 0 ∧ sh.getD n 0 ≤ qs.getD n 0
  sum : sh.sum = q
theorem zHz : ∀ {l : List Int},(∀ x ∈ l,0 ≤ x) → 0 ≤ l.sum
  | [],_ => Int.le_refl 0
  | a :: l,h => by
    have := zHz (l := l) fun x hx => h x (List.mem_cons_of_mem _ hx)
    have := h a List.mem_cons_self
    rw [List.sum_cons]; omega
theorem zLg : ∀ {z : List (Int × Int)},(∀ y ∈ z,0 ≤ y.2 ∧ y.2 ≤ y.1) → (z.map (·.2)).sum ≤ (z.map (·.1)).sum
  | [],_ => Int.le_refl 0
  | a :: l,h => by
    have := zLg (z := l) fun x hx => h x (List.mem_cons_of_mem _ hx)
    have := h a List.mem_cons_self
    rw [List.map_cons,List.map_cons,List.sum_cons,List.sum_cons]; omega
theorem gO : ∀ (l : List Int) (q : Int),(∀ x ∈ l,0 ≤ x) → 0 ≤ q → q ≤ l.sum → tA l (xR l q) q
  | [],q,_,h0,h1 => ⟨rfl,fun n => by simp [xR],by simp at h1; simp [xR]; omega⟩
  | n :: l,q,h,h0,h1 => by
    have hn := h n List.mem_cons_self
    rw [List.sum_cons] at h1
    have := zHz fun x hx => h x (List.mem_cons_of_mem _ hx)
    have ih := gO l (q - min n q) (fun x hx => h x (List.mem_cons_of_mem _ hx)) (by omega) (by omega)
    refine ⟨by rw [xR,List.length_cons,List.length_cons,ih.len],fun k => ?_,by rw [xR,List.sum_cons,ih.sum]; omega⟩
    cases k with
    | zero => exact ⟨by show 0 ≤ min n q; omega,by show min n q ≤ n; omega⟩
    | succ k => exact ih.bd k
theorem dR : ∀ (z : List (Int × Int)) (q : Int),(∀ y ∈ z,0 ≤ y.2 ∧ y.2 ≤ y.1) → 0 ≤ q → q ≤ (z.map (·.1)).sum - (z.map (·.2)).sum → (qQ z q).length = z.length ∧ (∀ n,0 ≤ (qQ z q).getD n 0 ∧ (qQ z q).getD n 0 ≤ (z.map (·.1)).getD n 0) ∧ (qQ z q).sum = (z.map (·.2)).sum + q
  | [],q,_,h0,h1 => ⟨rfl,fun n => by simp [qQ],by simp at h1; simp [qQ]; omega⟩
  | (n,x) :: r,q,h,h0,h1 => by
    have hn := h (n,x) List.mem_cons_self
    simp only [List.map_cons,List.sum_cons] at h1
    have := zLg fun y hy => h y (List.mem_cons_of_mem _ hy)
    have ih := dR r (q - min (n - x) q) (fun y hy => h y (List.mem_cons_of_mem _ hy)) (by omega) (by omega)
    refine ⟨by rw [qQ,List.length_cons,List.length_cons,ih.1],fun k => ?_,by rw [qQ,List.sum_cons,ih.2.2,List.map_cons,List.sum_cons]; omega⟩
    cases k with
    | zero => exact ⟨by show 0 ≤ x + min (n - x) q; have := hn.1; have := hn.2; dsimp only at *; omega,by show x + min (n - x) q ≤ n; have := hn.2; dsimp only at *; omega⟩
    | succ k => exact ih.2.1 k
theorem zIe {l : List Int} {q : Int} (h1 : l.length ≤ 250) (h2 : 0 ≤ q) (h3 : ∀ x ∈ l,1 ≤ x ∧ x ≤ 1000000) (h4 : q ≤ l.sum) : yF l q = true := by
  rw [yF,decide_eq_true h1,decide_eq_true h2,decide_eq_true h4]
  simp only [Bool.true_and,Bool.and_true,List.all_eq_true,Bool.and_eq_true,decide_eq_true_eq]
  exact h3
theorem zCb {i : PlI} (h : yF i.l i.q = true) (hl : 1 ≤ i.least) : tA i.l (xX i) i.q := by
  obtain ⟨r1,r2,r3,r4⟩ := xY h
  rw [xX,if_pos ⟨h,hl⟩]
  by_cases hne : i.l.length = 0
  · have e : i.l = [] := List.eq_nil_of_length_eq_zero hne
    have hq : i.q = 0 := by rw [e] at r4; simp at r4; omega
    have e0 : i.p1 = [] := by rw [PlI.p1,e]; rfl
    rw [e0,e,hq]
    exact ⟨rfl,fun n => by simp,rfl⟩
  · obtain ⟨_,_,f1,f2⟩ := aB h (by omega)
    have hpl := zHo i
    have m1 : (i.l.zip i.p0).map (·.1) = i.l := List.map_fst_zip (by omega)
    have m2 : (i.l.zip i.p0).map (·.2) = i.p0 := List.map_snd_zip (by omega)
    have hp := dR (i.l.zip i.p0) (i.q - i.p0.sum) (fun y hy => by
      obtain ⟨j,hj⟩ := List.mem_iff_getElem?.1 hy
      rw [List.getElem?_zip_eq_some] at hj
      exact f1 j _ _ hj.1 hj.2) (by omega) (by rw [m1,m2]; omega)
    rw [m1,m2] at hp
    refine ⟨?_,hp.2.1,?_⟩
    · rw [PlI.p1,hp.1,List.length_zip,hpl,Nat.min_self]
    · rw [PlI.p1,hp.2.2]; omega
theorem zAd : ∀ {l : List Int} {k : Nat} {x : Int},k < l.length → (l.set k x).sum = l.sum + (x - l.getD k 0)
  | [],k,x,h => absurd h (by simp)
  | a :: l,0,x,_ => by
    show x + l.sum = a + l.sum + (x - a); omega
  | a :: l,k + 1,x,h => by
    have := zAd (l := l) (k := k) (x := x) (by simpa using h)
    show a + (l.set k x).sum = a + l.sum + (x - l.getD k 0)
    omega
theorem sP {l : List Int} {k n : Nat} {x : Int} (h : k < l.length) : (l.set k x).getD n 0 = if n = k then x else l.getD n 0 := by
  rw [List.getD_eq_getElem?_getD,List.getElem?_set]
  by_cases e : k = n
  · subst e; rw [if_pos rfl,if_pos h,if_pos rfl]; rfl
  · rw [if_neg e,if_neg (fun e2 => e e2.symm),List.getD_eq_getElem?_getD]
theorem zFf {l : List Int} : ∀ (z : List (Nat × Int)) (o : List Int),(z.map (·.1)).Nodup → (∀ y ∈ z,y.1 < o.length ∧ 0 ≤ y.2 ∧ o.getD y.1 0 + y.2 ≤ l.getD y.1 0) → (∀ n,0 ≤ o.getD n 0 ∧ o.getD n 0 ≤ l.getD n 0 ∧ l.getD n 0 ≤ 1000000) →
    (z.foldl (fun o y => o.set y.1 (IntKind.i64.wrap (o.getD y.1 0 + y.2))) o).length = o.length ∧ (z.foldl (fun o y => o.set y.1 (IntKind.i64.wrap (o.getD y.1 0 + y.2))) o).sum = o.sum + (z.map (·.2)).sum ∧ ∀ n,0 ≤ (z.foldl (fun o y => o.set y.1 (IntKind.i64.wrap (o.getD y.1 0 + y.2))) o).getD n 0 ∧ (z.foldl (fun o y => o.set y.1 (IntKind.i64.wrap (o.getD y.1 0 + y.2))) o).getD n 0 ≤ l.getD n 0
  | [],o,_,_,h => ⟨rfl,by simp,fun n => ⟨(h n).1,(h n).2.1⟩⟩
  | y :: z,o,hn,hz,h => by
    obtain ⟨h1,h2,h3⟩ := hz y List.mem_cons_self
    rw [List.map_cons,List.nodup_cons] at hn
    have hw : IntKind.i64.wrap (o.getD y.1 0 + y.2) = o.getD y.1 0 + y.2 := by
      have := h y.1
      exact w64 (by omega)
    rw [List.foldl_cons,hw]
    have ih := zFf (l := l) z (o.set y.1 (o.getD y.1 0 + y.2)) hn.2 (fun x hx => by
      obtain ⟨g1,g2,g3⟩ := hz x (List.mem_cons_of_mem _ hx)
      have hne : x.1 ≠ y.1 := fun e => hn.1 (e ▸ List.mem_map_of_mem (f := (·.1)) hx)
      rw [List.length_set,sP h1,if_neg hne]
      exact ⟨g1,g2,g3⟩) (fun n => by
      rw [sP h1]
      split
      · rename_i e
        rw [e]
        exact ⟨by have := h y.1; omega,h3,(h y.1).2.2⟩
      · exact h n)
    refine ⟨by rw [ih.1,List.length_set],?_,ih.2.2⟩
    rw [ih.2.1,zAd h1,List.map_cons,List.sum_cons]; omega
theorem rP (l : List Int) : (List.range l.length).map (fun n => l.getD n 0) = l := by
  apply List.ext_getElem?
  intro n
  rw [List.getElem?_map]
  by_cases h : n < l.length
  · rw [List.getElem?_range h,List.getElem?_eq_getElem h,Option.map_some,List.getD_eq_getElem?_getD,List.getElem?_eq_getElem h]; rfl
  · rw [List.getElem?_eq_none (by simpa using h),List.getElem?_eq_none (by omega)]; rfl
theorem zKc {f g : Nat → Int} : ∀ l : List Nat,(l.map fun n => f n - g n).sum = (l.map f).sum - (l.map g).sum
  | [] => rfl
  | a :: l => by rw [List.map_cons,List.map_cons,List.map_cons,List.sum_cons,List.sum_cons,List.sum_cons,zKc l]; omega
theorem rV {f : Nat → Int} {p : Nat → Bool} : ∀ {l : List Nat},(∀ n ∈ l,p n = false → f n = 0) → ((l.filter p).map f).sum = (l.map f).sum
  | [],_ => rfl
  | a :: l,h => by
    have ih := rV (l := l) fun n hn => h n (List.mem_cons_of_mem _ hn)
    rw [List.map_cons,List.sum_cons]
    by_cases e : p a = true
    · rw [List.filter_cons_of_pos e,List.map_cons,List.sum_cons,ih]
    · rw [List.filter_cons_of_neg e,ih,h a List.mem_cons_self (by simpa using e)]; omega
theorem gS {i : RsI} (hl : i.l.length ≤ 250) (ho : i.out.length = i.l.length) (hn : ∀ n,0 ≤ i.out.getD n 0 ∧ i.out.getD n 0 ≤ i.l.getD n 0 ∧ i.l.getD n 0 ≤ 1000000) (hq : 0 ≤ i.q ∧ i.q ≤ i.l.sum - i.out.sum) (hle : 1 ≤ i.least) :
    tA i.l (vQ i) (i.out.sum + i.q) := by
  have hidx : (i.idx i.l.length).length ≤ 250 := Nat.le_trans (List.length_filter_le _ _) (by simpa using hl)
  have hmem : ∀ n ∈ i.idx i.l.length,n < i.l.length ∧ i.out.getD n 0 < i.l.getD n 0 := by
    intro n hn
    obtain ⟨a,b⟩ := List.mem_filter.1 hn
    exact ⟨List.mem_range.1 a,of_decide_eq_true b⟩
  have hls : (i.left i.l.length).sum = i.l.sum - i.out.sum := by
    rw [RsI.left,RsI.idx,rV,zKc,rP]
    · rw [← ho,rP]
    · intro n _ e
      have := of_decide_eq_false e
      have := hn n
      omega
  have hr : yF (i.left i.l.length) i.q = true := by
    refine zIe (by rw [RsI.left,List.length_map]; exact hidx) hq.1 (fun x hx => ?_) (by omega)
    obtain ⟨n,hm,rfl⟩ := List.mem_map.1 hx
    have := hmem n hm
    have := hn n
    omega
  have hp := zCb (i := ⟨i.left i.l.length,i.least,i.q⟩) hr hle
  have hpl : i.pl.length = (i.idx i.l.length).length := by
    have := hp.len
    rw [RsI.pl,this,RsI.left,List.length_map]
  have hnd : (i.idx i.l.length).Nodup := List.nodup_range.sublist List.filter_sublist
  have z1 : ((i.idx i.l.length).zip i.pl).map (·.1) = i.idx i.l.length := List.map_fst_zip (by omega)
  have z2 : ((i.idx i.l.length).zip i.pl).map (·.2) = i.pl := List.map_snd_zip (by omega)
  have hf := zFf (l := i.l) ((i.idx i.l.length).zip i.pl) i.out (by rw [z1]; exact hnd) (fun y hy => by
    obtain ⟨j,hj⟩ := List.mem_iff_getElem?.1 hy
    rw [List.getElem?_zip_eq_some] at hj
    have hm := hmem y.1 (List.mem_of_getElem? hj.1)
    have hb := hp.bd j
    have e1 : (xX ⟨i.left i.l.length,i.least,i.q⟩).getD j 0 = y.2 := by
      rw [List.getD_eq_getElem?_getD]
      have : (xX ⟨i.left i.l.length,i.least,i.q⟩)[j]? = some y.2 := hj.2
      rw [this]; rfl
    have e2 : (i.left i.l.length).getD j 0 = i.l.getD y.1 0 - i.out.getD y.1 0 := by
      rw [List.getD_eq_getElem?_getD,RsI.left,List.getElem?_map,hj.1]; rfl
    dsimp only at hb
    rw [e1,e2] at hb
    exact ⟨by omega,hb.1,by omega⟩) hn
  have hall : vQ i = ((i.idx i.l.length).zip i.pl).foldl (fun o y => o.set y.1 (IntKind.i64.wrap (o.getD y.1 0 + y.2))) i.out := by
    rw [vQ,RsI.add,List.take_of_length_le (by rw [List.length_zip]; omega)]
  rw [hall]
  refine ⟨by rw [hf.1,ho],hf.2.2,?_⟩
  rw [hf.2.1,z2]
  have := hp.sum
  rw [RsI.pl,this]
theorem zNd {l : List Int} (h : ∀ x ∈ l,1 ≤ x ∧ x ≤ 1000000) (n : Nat) : 0 ≤ l.getD n 0 ∧ l.getD n 0 ≤ 1000000 := by
  by_cases hn : n < l.length
  · obtain ⟨x,hx⟩ := yB hn
    have := h x (List.mem_of_getElem? hx)
    rw [zV hx]; omega
  · rw [List.getD_eq_getElem?_getD,List.getElem?_eq_none (by omega)]; decide
theorem z3h (n k : Nat) : (List.replicate n (0 : Int)).getD k 0 = 0 := by
  rw [List.getD_eq_getElem?_getD,List.getElem?_replicate]
  split <;> rfl
theorem pR (n : Nat) : (List.replicate n (0 : Int)).sum = 0 := by
  induction n with
  | zero => rfl
  | succ n ih => rw [List.replicate_succ,List.sum_cons,ih]; rfl
theorem z3y {q part : Int} (hq : 0 ≤ q) (h0 : 0 ≤ part) (h1 : part ≤ 100) : 0 ≤ q * part / 100 ∧ q * part / 100 ≤ q := by
  have h2 : 0 ≤ q * part := Int.mul_nonneg hq h0
  have h3 : q * part ≤ q * 100 := Int.mul_le_mul_of_nonneg_left h1 hq
  constructor <;> omega
theorem cS {p : Prd} (hc : p.check = 0) {l : List zK} {q : Int} (hr : yF (l.map (·.qty)) q = true) : tA (l.map (·.qty)) (xH ⟨p,l,q⟩) q := by
  have ok := xE hc
  obtain ⟨r1,r2,r3,r4⟩ := xY hr
  have q1 := ok.q1
  have q3 := ok.q3
  have q5 := ok.q5
  have q6 := ok.q6
  have r5 := ok.r1
  have r6 := ok.r2
  have gb := zNd r3
  have eqs : (AlI.qs ⟨p,l,q⟩) = l.map (·.qty) := rfl
  rw [xH]
  simp only [eqs]
  generalize l.map (·.qty) = qs at *
  by_cases c1 : p.rule = 1
  · rw [if_pos c1,jC,if_pos hr]
    exact gO _ _ (fun x hx => by have := r3 x hx; omega) r2 r4
  by_cases c2 : p.rule = 2
  · rw [if_neg c1,if_pos c2,dW,if_pos ⟨hr,q3,q1⟩]
    rw [PsI.rs]
    dsimp only
    split
    · rename_i ht
      have hk : (topI l).toNat < (List.replicate qs.length (0 : Int)).length := by simp; omega
      have hf : 0 ≤ PsI.first ⟨qs,topI l,p.top,p.least,q⟩ ∧ PsI.first ⟨qs,topI l,p.top,p.least,q⟩ ≤ qs.getD (topI l).toNat 0 ∧ PsI.first ⟨qs,topI l,p.top,p.least,q⟩ ≤ q := by
        have := gb (topI l).toNat
        simp only [PsI.first]
        omega
      have hs : ((List.replicate qs.length (0 : Int)).set (topI l).toNat (PsI.first ⟨qs,topI l,p.top,p.least,q⟩)).sum = PsI.first ⟨qs,topI l,p.top,p.least,q⟩ := by
        rw [zAd hk,pR,z3h]; omega
      have := gS (i := ⟨qs,(List.replicate qs.length 0).set (topI l).toNat (PsI.first ⟨qs,topI l,p.top,p.least,q⟩),p.least,q - PsI.first ⟨qs,topI l,p.top,p.least,q⟩⟩) r1 (by simp) (fun n => by
        dsimp only
        rw [sP hk,z3h]
        have := gb n
        split
        · rename_i e; rw [e]; exact ⟨hf.1,hf.2.1,(gb _).2⟩
        · omega) (by dsimp only; rw [hs]; omega) q3
      dsimp only at this
      rw [hs] at this
      have e : PsI.first ⟨qs,topI l,p.top,p.least,q⟩ + (q - PsI.first ⟨qs,topI l,p.top,p.least,q⟩) = q := by omega
      rw [e] at this
      exact this
    · have := gS (i := ⟨qs,List.replicate qs.length 0,p.least,q⟩) r1 (by simp) (fun n => by
        dsimp only
        rw [z3h]
        have := gb n
        omega) (by dsimp only; rw [pR]; omega) q3
      dsimp only at this
      rw [pR,Int.zero_add] at this
      exact this
  · have c3 : p.rule = 3 := by omega
    rw [if_neg c1,if_neg c2,if_pos c3,cF,if_pos ⟨hr,q5,q6,q3⟩]
    rw [SpI.rs]
    dsimp only
    obtain ⟨d1,d2⟩ := z3y r2 q5 q6
    have hr2 : yF qs (q * p.part / 100) = true   := zIe r1 d1 r3 (by omega)
    have hfs := gO qs (q * p.part / 100) (fun x hx => by have := r3 x hx; omega) d1 (by omega)
    have e0 : jC qs (q * p.part / 100) = xR qs (q * p.part / 100) := by rw [jC,if_pos hr2]
    have := gS (i := ⟨qs,jC qs (q * p.part / 100),p.least,q - q * p.part / 100⟩) r1 (by dsimp only; rw [e0]; exact hfs.len) (fun n => by
      dsimp only
      rw [e0]
      exact ⟨(hfs.bd n).1,(hfs.bd n).2,(gb n).2⟩) (by dsimp only; rw [e0,hfs.sum]; omega) q3
    dsimp only at this
    rw [e0,hfs.sum] at this
    rw [e0]
    have e : q * p.part / 100 + (q - q * p.part / 100) = q := by omega
    rw [e] at this
    exact this
theorem zIb {p : Prd} {l : List zK} {q : Int} (hr : yF (l.map (·.qty)) q = false) : xH ⟨p,l,q⟩ = [] := by
  have eqs : (AlI.qs ⟨p,l,q⟩) = l.map (·.qty) := rfl
  rw [xH]
  simp only [eqs,jC,dW,cF,hr]
  simp
open Go Cv Go.Proofs
theorem zQb : motherC.ok Try.prog 26 := zUh gok0 fun b _ => by
  unfold zAf
  cases b <;> exact ⟨(),by decide,trivial⟩
theorem zTj : mgoodC.ok Try.prog 27 := zWr gok0 fun i _ => by
  obtain ⟨s,p,x⟩ := i
  unfold zIp
  cases s
  · refine Cv.cnd.mk (fun _ => zT (fun c => ⟨(),?_,trivial⟩) (fun c => Cv.cnd.mk (fun e => by simp [zB] at e) (fun _ => ⟨(),?_,trivial⟩))) (fun e => by simp [zB] at e)
    · exact decide_eq_true c
    · exact decide_eq_false c
  · exact Cv.cnd.mk (fun e => by simp [zB] at e) (fun _ => Cv.cnd.mk (fun _ => ⟨(),rfl,trivial⟩) (fun e => by simp [zB] at e))
theorem zEd {L : List zK} {s : Int} : ((bestL L s).2 = true ∧ ∃ o ∈ L,o.side = s ∧ o.price = (bestL L s).1.price) ∨ (bestL L s = (⟨0,0,0⟩,false) ∧ ∀ o ∈ L,o.side ≠ s) := by
  rw [bestL]
  cases hl : xL L s with
  | nil =>
    refine .inr ⟨rfl,fun o ho e => ?_⟩
    rw [xL] at hl
    cases hf : L.filter fun o => decide (o.side = s) with
    | nil =>
      rw [List.filter_eq_nil_iff] at hf
      have := hf o ho
      simp [e] at this
    | cons x y =>
      rw [hf,grp] at hl
      split at hl
      · cases hl
      · split at hl <;> cases hl
  | cons v vs =>
    refine .inl ⟨rfl,?_⟩
    rw [xL] at hl
    obtain ⟨o,r,e1,e2⟩ := rF hl
    have : o ∈ L.filter fun o => decide (o.side = s) := by rw [e1]; exact List.mem_cons_self
    rw [List.mem_filter] at this
    exact ⟨o,this.1,by simpa using this.2,e2⟩
theorem zMp {L : List zK} {s : Int} (h : ∀ o ∈ L,-2000000 ≤ o.price ∧ o.price ≤ 2000000) : -2000000 ≤ (bestL L s).1.price ∧ (bestL L s).1.price ≤ 2000000 := by
  rcases zEd (L := L) (s := s) with ⟨_,o,ho,_,e⟩ | ⟨e,_⟩
  · rw [← e]; exact h o ho
  · rw [e]; constructor <;> decide
theorem zDn (L : List zK) : (wK L).p1 = (bestL L 1).1.price ∧ (wK L).q1 = (bestL L 1).1.qty ∧ (wK L).has1 = (bestL L 1).2 ∧ (wK L).p2 = (bestL L 2).1.price ∧ (wK L).q2 = (bestL L 2).1.qty ∧ (wK L).has2 = (bestL L 2).2 := by
  have h : ∀ s,(bestL L s).2 = true ∨ bestL L s = (⟨0,0,0⟩,false) := fun s => by
    rcases zEd (L := L) (s := s) with ⟨h,_⟩ | ⟨h,_⟩
    · exact .inl h
    · exact .inr h
  rw [wK,Top.sell,Top.buy]
  rcases h 1 with h1 | h1 <;> rcases h 2 with h2 | h2 <;> simp [h1,h2,top0]
theorem BOk.prices {p : Prd} {B : List (List zK)} (h : BOk p B) {k : Nat} {L : List zK} (hL : B[k]? = some L) : ∀ o ∈ L,-2000000 ≤ o.price ∧ o.price ≤ 2000000 := fun o ho => zUx h.pc (h.pr k L hL o ho)
theorem BOk.tops {p : Prd} {B : List (List zK)} (h : BOk p B) : k0 (B.map wK) := by
  have := jE p
  refine ⟨by rw [List.length_map,h.bl]; omega,fun t ht => ?_⟩
  obtain ⟨L,hL,rfl⟩ := List.mem_map.1 ht
  obtain ⟨k,hk⟩ := List.mem_iff_getElem?.1 hL
  have b1 := zMp (s := 1) (h.prices hk)
  have b2 := zMp (s := 2) (h.prices hk)
  rw [(zDn L).1,(zDn L).2.2.2.1]
  exact ⟨by constructor <;> omega,by constructor <;> omega⟩
theorem MSt.Rep.tops {s : MSt} {p : Prd} {B : List (List zK)} (h : s.Rep p B) : s.tops = B.map wK := by
  rw [MSt.tops]
  apply List.ext_getElem?
  intro k
  rw [List.getElem?_map,List.getElem?_map]
  by_cases hk : k < B.length
  · obtain ⟨L,hL⟩ := yB hk
    obtain ⟨b,hb⟩ := yB (l := s.books) (i := k) (by rw [h.bl]; exact hk)
    rw [hL,hb,Option.map_some,Option.map_some,(h.bk k b L hb hL).top]
  · rw [List.getElem?_eq_none (by rw [h.bl]; omega),List.getElem?_eq_none (by omega)]; rfl
theorem MSt.Rep.cnt {s : MSt} {p : Prd} {B : List (List zK)} (h : s.Rep p B) (hB : B.length ≤ 1000000) : s.cntOk := by
  refine ⟨by rw [h.bl]; exact hB,fun b hb => ?_⟩
  obtain ⟨k,hk⟩ := List.mem_iff_getElem?.1 hb
  have hlt := (List.getElem?_eq_some_iff.1 hk).1
  rw [h.bl] at hlt
  obtain ⟨L,hL⟩ := yB hlt
  exact (h.bk k b L hk hL).cnt
theorem zHf {b : Book} {L : List zK} (h : b.Rep L) (sd : Bool) : b.best (b.side sd) = bestL L (zB sd) := by
  obtain ⟨Q,c,ht,rfl⟩ := h
  cases sd
  · exact c.bestL (.inl rfl)
  · exact c.bestL (.inr rfl)
theorem fJ (sd : Bool) : zB sd = 1 ∨ zB sd = 2 := by cases sd; exact .inl rfl; exact .inr rfl
theorem z9h (i : NxI) (h : nextC.cnd i) : zJx i := by
  obtain ⟨hR,hB,h0,h1⟩ : i.s.Rep i.p i.B ∧ BOk i.p i.B ∧ 0 ≤ i.inst ∧ i.inst < i.B.length := h
  have hcl := jE i.p
  have hbl := hB.bl
  have hsl := hR.bl
  obtain ⟨k,hk⟩ : ∃ k : Nat,i.inst = k := ⟨i.inst.toNat,by omega⟩
  obtain ⟨L,hL⟩ := yB (l := i.B) (i := k) (by omega)
  obtain ⟨b,hb⟩ := yB (l := i.s.books) (i := k) (by omega)
  have hbR := hR.bk k b L hb hL
  have hps : i.s.p.small := by rw [hR.ep]; exact hB.ps
  have hto : k0 i.s.tops := by rw [hR.tops]; exact hB.tops
  have hnx : zP i.p i.B i.inst (zB i.sd) = if ((bestL L (zB i.sd)).2 && !((zW (qB ⟨i.s.p,i.s.tops,i.inst⟩ (zB i.sd)) (zB i.sd)).2 && btr (zB i.sd) (zW (qB ⟨i.s.p,i.s.tops,i.inst⟩ (zB i.sd)) (zB i.sd)).1.price (bestL L (zB i.sd)).1.price)) = true then (⟨(bestL L (zB i.sd)).1.price,(bestL L (zB i.sd)).1.qty,⟨0,0⟩,⟨0,0⟩⟩,false,true) else ((zW (qB ⟨i.s.p,i.s.tops,i.inst⟩ (zB i.sd)) (zB i.sd)).1,(zW (qB ⟨i.s.p,i.s.tops,i.inst⟩ (zB i.sd)) (zB i.sd)).2,(zW (qB ⟨i.s.p,i.s.tops,i.inst⟩ (zB i.sd)) (zB i.sd)).2) := by
    rw [zP,hR.tops,hR.ep,hk,Int.toNat_natCast,zV hL]
  have hbest := zHf hbR i.sd
  unfold zJx zDj zAo
  have hcnt : i.s.cntOk := hR.cnt (by omega)
  have hql : (qB ⟨i.s.p,i.s.tops,i.inst⟩ (zB i.sd)).length ≤ 1000000 := by
    have := Nat.le_trans (List.length_filter_le (fun q => decide (i.s.p.price i.inst q.price = 0)) _) (zFm ⟨i.s.p,i.s.tops,i.inst⟩ (zB i.sd))
    exact Nat.le_trans this (by decide)
  refine (fun hT => ⟨⟨i.s,rfl,rfl,rfl,rfl,rfl,rfl,rfl,rfl,rfl,rfl,rfl,rfl,rfl,hcnt,fun _ _ => ⟨⟨rfl,trivial,rfl,rfl,rfl,rfl,rfl,rfl,rfl,rfl,trivial,trivial⟩,⟨⟨⟨i.s.p,i.s.tops,i.inst⟩,i.sd⟩,rfl,rfl,rfl,rfl,rfl,rfl,rfl,rfl,rfl,rfl,rfl,rfl,rfl,rfl,⟨hps,hto⟩,fun _ _ => ⟨hT,hT⟩⟩,⟨rfl,trivial,rfl,rfl,rfl,rfl,rfl,rfl,rfl,rfl,trivial,trivial⟩,⟨⟨⟨i.s.p,i.s.tops,i.inst⟩,i.sd⟩,rfl,rfl,rfl,rfl,rfl,rfl,rfl,rfl,rfl,rfl,rfl,rfl,rfl,rfl,⟨hps,hto⟩,fun _ _ => hT⟩⟩⟩,
    ⟨rfl,trivial,rfl,rfl,rfl,rfl,rfl,rfl,rfl,rfl,trivial,trivial⟩,⟨i.s,rfl,rfl,rfl,rfl,rfl,rfl,rfl,rfl,rfl,rfl,rfl,rfl,rfl,hcnt,fun _ _ => ⟨⟨rfl,trivial,rfl,rfl,rfl,rfl,rfl,rfl,rfl,rfl,trivial,trivial⟩,⟨⟨⟨i.s.p,i.s.tops,i.inst⟩,i.sd⟩,rfl,rfl,rfl,rfl,rfl,rfl,rfl,rfl,rfl,rfl,rfl,rfl,rfl,rfl,⟨hps,hto⟩,fun _ _ => hT⟩⟩⟩⟩) ?_
  refine ⟨⟨qB ⟨i.s.p,i.s.tops,i.inst⟩ (zB i.sd),zB i.sd⟩,rfl,rfl,⟨fJ _,hql⟩,fun _ _ => ⟨⟨h0,by omega⟩,by omega,b,by rw [hk]; exact hb,⟨i.sd,b⟩,rfl,rfl,hbR.cnt,fun _ _ => ⟨b,rfl,rfl,by omega,?_⟩⟩⟩
  dsimp only
  rw [hbest]
  generalize bestL L (zB i.sd) = l at *
  generalize zW (qB ⟨i.s.p,i.s.tops,i.inst⟩ (zB i.sd)) (zB i.sd) = bq at *
  have hset : i.s.books.set i.inst.toNat b = i.s.books := kW (by rw [hk]; exact hb)
  rw [hset]
  refine Cv.cnd.mk (fun c1 => Cv.cnd.mk (fun c2 => ⟨⟨zB i.sd,bq.1.price,l.1.price⟩,rfl,rfl,rfl,trivial,fun _ _ => Cv.cnd.mk (fun c3 => ?_) (fun c3 => ?_)⟩) (fun c2 => ?_)) (fun c1 => ?_)
  · dsimp only at c3
    rw [if_pos (by rw [c1,c2]; simpa using c3)] at hnx
    rw [hnx]; exact ⟨(),by (repeat' (first|exact trivial|exact rfl|apply And.intro))⟩
  · dsimp only at c3
    rw [if_neg (by rw [c1,c2]; simpa using c3)] at hnx
    rw [hnx]; exact ⟨(),by (repeat' (first|exact trivial|exact rfl|apply And.intro))⟩
  · rw [if_pos (by rw [c1,c2]; rfl)] at hnx
    rw [hnx]; exact ⟨(),by (repeat' (first|exact trivial|exact rfl|apply And.intro))⟩
  · rw [if_neg (by rw [c1]; simp)] at hnx
    rw [hnx]; exact ⟨(),by (repeat' (first|exact trivial|exact rfl|apply And.intro))⟩
theorem zZv : nextC.ok Try.prog 25 := z3d (gokc zUk (gokc zOu (gokc zSa (gokc zAb (gokc vI gok0))))) z9h
theorem zKg (i : RsI) (k : Nat) : (i.add k).length = i.out.length := by
  have : ∀ (l : List (Nat × Int)) (o : List Int),(l.foldl (fun o y => o.set y.1 (IntKind.i64.wrap (o.getD y.1 0 + y.2))) o).length = o.length := by
    intro l
    induction l with
    | nil => intro o; rfl
    | cons x l ih => intro o; rw [List.foldl_cons,ih,List.length_set]
  exact this _ _
theorem zEu (l : List Int) (q : Int) : (jC l q).length ≤ l.length := by
  rw [jC]; split
  · rw [fG]; exact Nat.le_refl _
  · exact Nat.zero_le _
theorem zOw (i : AlI) : (xH i).length ≤ i.l.length := by
  have hq : i.qs.length = i.l.length := by simp [AlI.qs]
  rw [xH,← hq]
  repeat' split
  · exact zEu _ _
  · rw [dW]; split
    · rw [vQ,zKg,PsI.rs]
      split
      · simp
      · simp
    · exact Nat.zero_le _
  · rw [cF]; split
    · rw [vQ,zKg]; exact zEu _ _
    · exact Nat.zero_le _
  · exact Nat.zero_le _
theorem rM {inst s : Int} : ∀ {os : List zK} {sh : List Int} {j : Nat} {o : zK} {k : Int},os[j]? = some o → sh[j]? = some k → yW inst s (os.take (j + 1)) (sh.take (j + 1)) = yW inst s (os.take j) (sh.take j) ++ (if 0 < k then [⟨o.id,inst,s,o.price,k,o.qty - k⟩] else [])
  | [],_,_,_,_,h,_ => by simp at h
  | _ :: _,[],_,_,_,_,h => by simp at h
  | o :: os,k :: sh,0,_,_,h,h2 => by
    cases h; cases h2
    rw [List.take_succ_cons,List.take_succ_cons,List.take_zero,List.take_zero,List.take_zero,List.take_zero,yW]
    split <;> rfl
  | o :: os,k :: sh,j + 1,o',k',h,h2 => by
    rw [List.take_succ_cons,List.take_succ_cons,yW,List.take_succ_cons,List.take_succ_cons,yW,rM (os := os) (sh := sh) (j := j) h h2]
    split <;> rfl
theorem lL {inst s : Int} : ∀ (os : List zK) (sh : List Int),yW inst s (os.take sh.length) (sh.take sh.length) = yW inst s os sh
  | [],sh => by simp
  | _ :: _,[] => by simp [yW]
  | o :: os,k :: sh => by
    rw [List.length_cons,List.take_succ_cons,List.take_succ_cons,yW,yW,lL os sh]
theorem zOn (B : List (List zK)) (a b : List dJ) : y6 B (a ++ b) = y6 (y6 B a) b := List.foldl_append
theorem zEp (B : List (List zK)) (id q : Int) : (qP B id q).1.length = B.length := by
  rw [qP]; split
  · rfl
  · simp
theorem wS : ∀ (fs : List dJ) (B : List (List zK)),(y6 B fs).length = B.length
  | [],B => rfl
  | f :: fs,B => by
    show (y6 (qP B f.id f.qty).1 fs).length = _
    rw [wS fs,zEp]
theorem z4k {p : Prd} (h : p.check = 0) : yK p.least ∧ yK p.top ∧ yK p.part := by
  have ok := xE h
  have := ok.q1
  have := ok.q2
  have := ok.q3
  have := ok.q4
  have := ok.q5
  have := ok.q6
  exact ⟨⟨by omega,by omega⟩,⟨by omega,by omega⟩,⟨by omega,by omega⟩⟩
theorem z3o (i : TrI) (h : tradeC.cnd i) : zCi i := by
  obtain ⟨hR,hB,h0,h1,hq⟩ : i.s.Rep i.p i.B ∧ BOk i.p i.B ∧ 0 ≤ i.inst ∧ i.inst < i.B.length ∧ yK i.q := h
  have hcl := jE i.p
  have hbl := hB.bl
  have hsl := hR.bl
  have ep := hR.ep
  obtain ⟨k,hk⟩ : ∃ k : Nat,i.inst = k := ⟨i.inst.toNat,by omega⟩
  obtain ⟨L,hL⟩ := yB (l := i.B) (i := k) (by omega)
  obtain ⟨b,hb⟩ := yB (l := i.s.books) (i := k) (by omega)
  have hbR := hR.bk k b L hb hL
  have hbest := zHf hbR i.sd
  have hos : atL L (zB i.sd) (bestL L (zB i.sd)).1.price = i.os := by rw [TrI.os,aW,hk,Int.toNat_natCast,zV hL]
  have hset : i.s.books.set i.inst.toNat b = i.s.books := kW (by rw [hk]; exact hb)
  have hosl : i.os.length ≤ 250 := by
    rw [← hos]; exact Nat.le_trans (List.length_filter_le _ _) hbR.ords.2.2
  have hsh : i.sh.length ≤ i.os.length := zOw _
  obtain ⟨k1,k2,k3⟩ := z4k hB.pc
  have hsb : ∀ (j : Nat) (n : Int),i.sh[j]? = some n → n ≤ 1000000 := by
    intro j n hn
    cases hr : yF (i.os.map (·.qty)) i.q with
    | false =>
      have : i.sh = [] := zIb hr
      rw [this] at hn; cases hn
    | true =>
      have := (cS hB.pc hr).bd j
      have e : (xH ⟨i.p,i.os,i.q⟩).getD j 0 = n := zV hn
      rw [e] at this
      have := (zNd (xY hr).2.2.1 j).2
      omega
  unfold zCi
  refine ⟨⟨h0,by omega⟩,by omega,b,by rw [hk]; exact hb,⟨i.sd,b⟩,rfl,rfl,hbR.cnt,fun _ _ => ?_⟩
  refine ⟨b,rfl,rfl,by omega,b,by rw [hset,hk]; exact hb,⟨b,L,i.sd,(bestL L (zB i.sd)).1.price⟩,rfl,by dsimp only; rw [hbest],rfl,hbR,fun _ _ => ?_⟩
  dsimp only
  try rw [hbest]
  rw [hset,hos]
  refine ⟨b,rfl,rfl,by omega,⟨i.p,i.os,i.q⟩,by rw [ep],by rw [ep],by rw [ep],by rw [ep],by rw [ep],by rw [ep],by rw [ep],by rw [ep],by rw [ep],by rw [ep],by rw [ep],rfl,rfl,⟨by dsimp only;omega,hq,k1,k2,k3⟩,fun _ _ => ?_⟩
  have esh : xH ⟨i.p,i.os,i.q⟩ = i.sh := rfl
  rw [esh,hset,yS,List.length_map]
  refine ⟨(0,i.s),rfl,rfl,rfl,rfl,rfl,rfl,rfl,rfl,rfl,rfl,rfl,rfl,rfl,rfl,rfl,fun j => j.2.Rep i.p (y6 i.B (i.fs j.1)) ∧ j.1 ≤ i.sh.length,fun j => i.sh.length - j.1,⟨hR,Nat.zero_le _⟩,fun j hj => ?_⟩
  obtain ⟨hjR,hjl⟩ := hj
  obtain ⟨j,sj⟩ := j
  dsimp only at hjR hjl ⊢
  refine zT (fun c => ?_) (fun c => ?_)
  · obtain ⟨n,hn⟩ := yB (l := i.sh) (i := j) (by omega)
    obtain ⟨o,ho⟩ := yB (l := i.os) (i := j) (by omega)
    have hst := rM (inst := i.inst) (s := zB i.sd) ho hn
    have hoL : o ∈ L := by
      have := List.mem_of_getElem? ho
      rw [← hos] at this
      exact (List.mem_filter.1 this).1
    have hoq := (hbR.ords.1 o hoL).q
    have hnb := hsb j n hn
    refine ⟨⟨by omega,by omega⟩,n,elI hn,zT (fun c2 => ?_) (fun c2 => ?_)⟩
    · rw [if_pos (show 0 < n from c2)] at hst
      have hfl : (i.fs j).length ≤ j := by
        have : ∀ (os : List zK) (sh : List Int),(yW i.inst (zB i.sd) os sh).length ≤ os.length := by
          intro os
          induction os with
          | nil => intro sh; exact Nat.le_refl 0
          | cons o os ih =>
            intro sh
            cases sh with
            | nil => exact Nat.zero_le _
            | cons k sh =>
              have := ih sh
              rw [yW]
              split
              · simp only [List.length_cons]; omega
              · simp only [List.length_cons]; omega
        exact Nat.le_trans (this _ _) (by rw [List.length_take]; omega)
      refine ⟨⟨by omega,by omega⟩,o.id,o.side,o.price,o.qty,o.top,z4a ho,⟨sj,i.p,y6 i.B (i.fs j),o.id,n⟩,rfl,rfl,rfl,⟨hjR,by dsimp only; rw [wS]; omega⟩,fun s' hs' => ⟨by rw [List.length_map]; omega,(j + 1,s'),wjn (by omega),rfl,?_,⟨?_,by dsimp only;omega⟩,by dsimp only;omega,by (repeat' (first|exact trivial|exact rfl|apply And.intro))⟩⟩
      · show List.map qW (yW i.inst (zB i.sd) (i.os.take (j + 1)) (i.sh.take (j + 1))) = _
        rw [hst,List.map_append,w64 (by omega)]; rfl
      · show s'.Rep i.p (y6 i.B (yW i.inst (zB i.sd) (i.os.take (j + 1)) (i.sh.take (j + 1))))
        rw [hst,zOn]; exact hs'
    · rw [if_neg (show ¬ 0 < n from c2),List.append_nil] at hst
      refine ⟨(j + 1,sj),wjn (by omega),rfl,?_,⟨?_,by dsimp only;omega⟩,by dsimp only;omega,by (repeat' (first|exact trivial|exact rfl|apply And.intro))⟩
      · show List.map qW (yW i.inst (zB i.sd) (i.os.take (j + 1)) (i.sh.take (j + 1))) = _
        rw [hst]; rfl
      · show sj.Rep i.p (y6 i.B (yW i.inst (zB i.sd) (i.os.take (j + 1)) (i.sh.take (j + 1))))
        rw [hst]; exact hjR
  · have hje : j = i.sh.length := by omega
    subst hje
    have hfa : i.fs i.sh.length = yJ i.p i.B i.inst (zB i.sd) i.q := lL _ _
    rw [hfa] at hjR ⊢
    exact ⟨sj,rfl,rfl,hjR⟩
theorem zUy : tradeC.ok Try.prog 28 := z0y (gokc zAb (gokc z9w (gokc zUa (gokc zQp gok0)))) z3o
open Go Cv Go.Proofs
structure dQ where
  price : Int
  qty : Int
  implied : Bool
  fills : List dJ
  deriving DecidableEq
def z8 (t : dQ) : List D := [.v (.int .i64 t.price),.v (.int .i64 t.qty),.v (.bool t.implied),.ro 6 (t.fills.map qW)]
def vO (p : Prd) (B : List (List zK)) (inst : Int) (sd : Bool) (price qty : Int) : Option (dQ × List (List zK)) :=
  let n := zP p B inst (zB (!sd))
  if (n.2.2 && (wN sd price n.1.price && decide (1 ≤ n.1.qty))) = true then
    if n.2.1 = true then
      let f1 := yJ p B n.1.a.inst n.1.a.side (min qty n.1.qty)
      let f2 := yJ p (y6 B f1) n.1.b.inst n.1.b.side (min qty n.1.qty)
      some (⟨n.1.price,min qty n.1.qty,true,f1 ++ f2⟩,y6 (y6 B f1) f2)
    else
      let f := yJ p B inst (zB (!sd)) (min qty n.1.qty)
      some (⟨n.1.price,min qty n.1.qty,false,f⟩,y6 B f)
  else none
structure z1r where
  steps : List dQ
  left : Int
  B : List (List zK)
def nC (p : Prd) (inst : Int) (sd : Bool) (price : Int) : Nat → List (List zK) → Int → z1r
  | 0,B,q => ⟨[],q,B⟩
  | n + 1,B,q => if q ≤ 0 then ⟨[],q,B⟩ else match vO p B inst sd price q with
    | none => ⟨[],q,B⟩
    | some (t,B') => let r := nC p inst sd price n B' (q - t.qty); ⟨t :: r.steps,r.left,r.B⟩
def uC (p : Prd) (B : List (List zK)) (inst : Int) (sd : Bool) (price q : Int) : z1r := nC p inst sd price q.toNat B q
structure RunI where
  s : MSt
  p : Prd
  B : List (List zK)
  inst : Int
  sd : Bool
  price : Int
  q : Int
def RunI.r (i : RunI) : z1r := uC i.p i.B i.inst i.sd i.price i.q
def runC : Con where
  ι := RunI
  pat := fun i => [.nm 0 0,zF i.inst,zF (zB i.sd),zF i.price,zF i.q]
  pre := fun i => [zR i.s]
  cnd := fun i => i.s.Rep i.p i.B ∧ BOk i.p i.B ∧ (0 ≤ i.inst ∧ i.inst < i.B.length) ∧ 1 ≤ i.q ∧ i.q ≤ 1000000
  alts := fun i => [{ o := MSt,res := fun _ => .tup [.own 1,zF i.r.left],post := fun s => [zR s,.own 41 4 (i.r.steps.map z8)],rel := fun s => s.Rep i.p i.r.B }]
structure zJj where
  s : MSt
  B : List (List zK)
  steps : List dQ
  q : Int
def yAg : List SAnn := [
  { ι := zJj,slots := fun j => [(0,.nm 0 0),(12,.own 1),(4,zF j.q)],rows := fun j => [zR j.s,.own 41 4 (j.steps.map z8)] },
  { ι := Unit,slots := fun _ => [],rows := fun _ => [],un := 3 }]
structure RbI where
  s : MSt
  inst : Int
  side : Int
  price : Int
  q : Int
open Go Cv Go.Proofs
@[reducible] def zJp (i : RunI) : Prop := ∃ (i0 : zJj),i0.q = i.q∧sb i0.s.p.code = sb i.s.p.code∧i0.s.p.tick = i.s.p.tick∧i0.s.p.low = i.s.p.low∧i0.s.p.high = i.s.p.high∧i0.s.p.wide = i.s.p.wide∧i0.s.p.rule = i.s.p.rule∧i0.s.p.top = i.s.p.top∧i0.s.p.least = i.s.p.least∧i0.s.p.part = i.s.p.part∧AObj.objs 64 Book 6 zN i0.s.books none = AObj.objs 64 Book 6 zN i.s.books none∧yH i0.s.wh = yH i.s.wh∧AObj.fro 1 (iE i0.s.p.months) = AObj.fro 1 (iE i.s.p.months)∧AObj.fro 1 (iE i0.s.p.settle) = AObj.fro 1 (iE i.s.p.settle)∧List.map z8 i0.steps = []∧∃ (I : zJj→Prop),∃ (μ : zJj→Nat),I i0∧∀ (i_1 : zJj),I i_1→cnd (decide (i_1.q > 0)) (∃ (i_2 : Bool),zB i_2 = zB i.sd∧True∧∀ (o : Unit),True→∃ (i_3 : NxI),i_3.inst = i.inst∧zB i_3.sd = zB !i_2∧zR i_3.s = zR i_1.s∧(i_3.s.Rep i_3.p i_3.B∧BOk i_3.p i_3.B∧0 ≤ i_3.inst∧i_3.inst < (↑i_3.B.length : Int))∧∀ (o : Unit),True→cnd (!(zP i_3.p i_3.B i_3.inst (zB i_3.sd)).snd.snd) (∃ (o : MSt),i.r.left = i_1.q∧zR o = zR i_3.s∧List.map z8 i.r.steps = List.map z8 i_1.steps∧o.Rep i.p i.r.B) (∃ (i_4 : GoI),zB i_4.s = zB i.sd∧i_4.p = i.price∧i_4.x = (zP i_3.p i_3.B i_3.inst (zB i_3.sd)).fst.price∧True∧∀ (o : Unit),True→cnd (!wN i_4.s i_4.p i_4.x) (∃ (o : MSt),i.r.left = i_1.q∧zR o = zR i_3.s∧List.map z8 i.r.steps = List.map z8 i_1.steps∧o.Rep i.p i.r.B) (cnd (zP i_3.p i_3.B i_3.inst (zB i_3.sd)).snd.fst (∃ (i_5 : TrI),i_5.inst = (zP i_3.p i_3.B i_3.inst (zB i_3.sd)).fst.a.inst∧zB i_5.sd = (zP i_3.p i_3.B i_3.inst (zB i_3.sd)).fst.a.side∧i_5.q = min i_1.q (zP i_3.p i_3.B i_3.inst (zB i_3.sd)).fst.qty∧zR i_5.s = zR i_3.s∧(i_5.s.Rep i_5.p i_5.B∧BOk i_5.p i_5.B∧0 ≤ i_5.inst∧i_5.inst < (↑i_5.B.length : Int)∧(-9223372036854775808) ≤ i_5.q∧i_5.q ≤ 9223372036854775807)∧∀ (o : MSt),o.Rep i_5.p (y6 i_5.B (yJ i_5.p i_5.B i_5.inst (zB i_5.sd) i_5.q))→True∧(List.map qW (yJ i_5.p i_5.B i_5.inst (zB i_5.sd) i_5.q)).length * (48 : Nat) ≤ (70368744177664 : Nat)∧∃ (i_6 : TrI),i_6.inst = (zP i_3.p i_3.B i_3.inst (zB i_3.sd)).fst.b.inst∧zB i_6.sd = (zP i_3.p i_3.B i_3.inst (zB i_3.sd)).fst.b.side∧i_6.q = min i_1.q (zP i_3.p i_3.B i_3.inst (zB i_3.sd)).fst.qty∧zR i_6.s = zR o∧(i_6.s.Rep i_6.p i_6.B∧BOk i_6.p i_6.B∧0 ≤ i_6.inst∧i_6.inst < (↑i_6.B.length : Int)∧(-9223372036854775808) ≤ i_6.q∧i_6.q ≤ 9223372036854775807)∧∀ (o : MSt),o.Rep i_6.p (y6 i_6.B (yJ i_6.p i_6.B i_6.inst (zB i_6.sd) i_6.q))→True∧((List.map qW (yJ i_5.p i_5.B i_5.inst (zB i_5.sd) i_5.q)).length + (List.map qW (yJ i_6.p i_6.B i_6.inst (zB i_6.sd) i_6.q)).length) * (48 : Nat) ≤ (70368744177664 : Nat)∧((List.map z8 i_1.steps).length + 1) * (48 : Nat) ≤ (70368744177664 : Nat)∧∃ (i' : zJj),i'.q = IntKind.i64.wrap (i_1.q - min i_1.q (zP i_3.p i_3.B i_3.inst (zB i_3.sd)).fst.qty)∧zR i'.s = zR o∧List.map z8 i'.steps = List.map z8 i_1.steps ++ [[D.v (.int .i64 (zP i_3.p i_3.B i_3.inst (zB i_3.sd)).fst.price),D.v (.int .i64 (min i_1.q (zP i_3.p i_3.B i_3.inst (zB i_3.sd)).fst.qty)),D.v (.bool (zP i_3.p i_3.B i_3.inst (zB i_3.sd)).snd.fst),D.ro 6 (List.map qW (yJ i_5.p i_5.B i_5.inst (zB i_5.sd) i_5.q) ++ List.map qW (yJ i_6.p i_6.B i_6.inst (zB i_6.sd) i_6.q))]]∧I i'∧μ i' < μ i_1∧AObj.fro 1 (iE i.s.p.months) = AObj.fro 1 (iE i.s.p.months)∧AObj.fro 1 (iE i.s.p.settle) = AObj.fro 1 (iE i.s.p.settle)) (∃ (i_5 : Bool),zB i_5 = zB i.sd∧True∧∀ (o : Unit),True→min i_1.q (zP i_3.p i_3.B i_3.inst (zB i_3.sd)).fst.qty = min i_1.q (zP i_3.p i_3.B i_3.inst (zB i_3.sd)).fst.qty∧∃ (i_6 : TrI),i_6.inst = i.inst∧zB i_6.sd = zB !i_5∧i_6.q = min i_1.q (zP i_3.p i_3.B i_3.inst (zB i_3.sd)).fst.qty∧zR i_6.s = zR i_3.s∧(i_6.s.Rep i_6.p i_6.B∧BOk i_6.p i_6.B∧0 ≤ i_6.inst∧i_6.inst < (↑i_6.B.length : Int)∧(-9223372036854775808) ≤ i_6.q∧i_6.q ≤ 9223372036854775807)∧∀ (o : MSt),o.Rep i_6.p (y6 i_6.B (yJ i_6.p i_6.B i_6.inst (zB i_6.sd) i_6.q))→((List.map z8 i_1.steps).length + 1) * (48 : Nat) ≤ (70368744177664 : Nat)∧∃ (i' : zJj),i'.q = IntKind.i64.wrap (i_1.q - min i_1.q (zP i_3.p i_3.B i_3.inst (zB i_3.sd)).fst.qty)∧zR i'.s = zR o∧List.map z8 i'.steps = List.map z8 i_1.steps ++ [[D.v (.int .i64 (zP i_3.p i_3.B i_3.inst (zB i_3.sd)).fst.price),D.v (.int .i64 (min i_1.q (zP i_3.p i_3.B i_3.inst (zB i_3.sd)).fst.qty)),D.v (.bool (zP i_3.p i_3.B i_3.inst (zB i_3.sd)).snd.fst),D.ro 6 (List.map qW (yJ i_6.p i_6.B i_6.inst (zB i_6.sd) i_6.q))]]∧I i'∧μ i' < μ i_1∧AObj.fro 1 (iE i.s.p.months) = AObj.fro 1 (iE i.s.p.months)∧AObj.fro 1 (iE i.s.p.settle) = AObj.fro 1 (iE i.s.p.settle))))) (∃ (o : MSt),i.r.left = i_1.q∧zR o = zR i_1.s∧List.map z8 i.r.steps = List.map z8 i_1.steps∧o.Rep i.p i.r.B)
@[reducible] def gV (i : RunI) : Prop := ∃ (o : MSt),i.r.left = i.q∧sb o.p.code = sb i.s.p.code∧o.p.tick = i.s.p.tick∧o.p.low = i.s.p.low∧o.p.high = i.s.p.high∧o.p.wide = i.s.p.wide∧o.p.rule = i.s.p.rule∧o.p.top = i.s.p.top∧o.p.least = i.s.p.least∧o.p.part = i.s.p.part∧AObj.objs 64 Book 6 zN o.books none = AObj.objs 64 Book 6 zN i.s.books none∧yH o.wh = yH i.s.wh∧AObj.fro 1 (iE o.p.months) = AObj.fro 1 (iE i.s.p.months)∧AObj.fro 1 (iE o.p.settle) = AObj.fro 1 (iE i.s.p.settle)∧List.map z8 i.r.steps = []∧o.Rep i.p i.r.B
def z0l (i : RunI) : Prop :=
  cnd (decide (i.inst ≥ 0)) (cnd (decide (i.inst < (↑i.s.books.length : Int))) (cnd (zB i.sd == 1) (cnd (decide (i.q ≥ 1)) (cnd (!decide (i.q ≤ 1000000)) (gV i) (zJp i)) (gV i)) (cnd (zB i.sd == 2) (cnd (decide (i.q ≥ 1)) (cnd (!decide (i.q ≤ 1000000)) (gV i) (zJp i)) (gV i)) (gV i))) (gV i)) (gV i)
theorem z7y (i : RunI) : z0l i = walk Try.prog ([(25,nextC),(26,motherC),(27,mgoodC),(28,tradeC)]) 2 ([]) (yAg) [0] Try.f10 (Try.f10.body.getD .skip) (runC.pat i) (runC.pre i) (runC.alts i) := by kernel_rfl
theorem z9e (hG : GOk Try.prog ([(25,nextC),(26,motherC),(27,mgoodC),(28,tradeC)])) (h : ∀ (i : RunI),runC.cnd i → z0l i) : runC.ok Try.prog 10 := zE mixed ([(25,nextC),(26,motherC),(27,mgoodC),(28,tradeC)]) hG 2 (fun (i : RunI) => []) (fun (i : RunI) => yAg) [0] Try.func10 (by kernel_rfl) (by kernel_rfl) (by kernel_rfl) (fun _ => by kernel_rfl) (fun (i : RunI) hc => Eq.mp (z7y i) (h i hc))
open Go Cv Go.Proofs
structure QOk (T : List Top) (q : Quote) : Prop where
  a : 0 ≤ q.a.inst ∧ q.a.inst < T.length
  b : 0 ≤ q.b.inst ∧ q.b.inst < T.length
  sa : q.a.side = 1 ∨ q.a.side = 2
  sb : q.b.side = 1 ∨ q.b.side = 2
  ne : q.a.inst ≠ q.b.inst
  ha : (T.getD q.a.inst.toNat top0).has q.a.side = true
  hb : (T.getD q.b.inst.toNat top0).has q.b.side = true
  qty : q.qty = min ((T.getD q.a.inst.toNat top0).qty q.a.side) ((T.getD q.b.inst.toNat top0).qty q.b.side)
theorem zJh {T : List Top} {a b : Leg} {less : Bool} {q : Quote} (h : q ∈ mkq T a b less) (h1 : 0 ≤ a.inst ∧ a.inst < T.length) (h2 : 0 ≤ b.inst ∧ b.inst < T.length) (h3 : a.side = 1 ∨ a.side = 2) (h4 : b.side = 1 ∨ b.side = 2) (hne : a.inst ≠ b.inst) : QOk T q ∧ q.a = a ∧ q.b = b := by
  cases less
  all_goals
    simp only [mkq,Bool.false_eq_true,↓reduceIte] at h
    split at h
    · rename_i hc
      simp only [Bool.and_eq_true] at hc
      rw [List.mem_singleton] at h
      subst h
      exact ⟨⟨h1,h2,h3,h4,hne,hc.1.1,hc.1.2,rfl⟩,rfl,rfl⟩
    · cases h
theorem z4d : ∀ n ≤ 6,∀ k < n + n * (n - 1) / 2,n ≤ k → (xS n k n 0).1 ≠ (xS n k n 0).2.1 := by decide
theorem zLq {p : Prd} (hc : p.check = 0) {k : Nat} (hk : k < p.count) (hs : (p.legs k).2.2 = true) : (p.legs k).1 ≠ (p.legs k).2.1 := by
  have m6 := (xE hc).m6
  have hk' := hk
  rw [Prd.count,if_pos hc] at hk'
  by_cases h : k < p.months.length
  · rw [Prd.legs,if_neg (by omega),if_pos (by omega)] at hs
    cases hs
  · rw [Prd.legs,if_neg (by omega),if_neg (by omega)]
    exact z4d p.months.length m6 k hk' (by omega)
theorem zNr : ∀ n ≤ 6,∀ a < n,∀ b < n,a < b → (zY n a : Int) + b - a - 1 ≥ n := by decide
theorem lC {p : Prd} (hc : p.check = 0) {a b : Nat} (hab : a < b) (hb : b < p.months.length) : (p.months.length : Int) ≤ (p.spread a b).1 := by
  have m6 := (xE hc).m6
  have := zNr p.months.length m6 a (by omega) b hb hab
  rw [Prd.spread,if_neg (by omega)]
  simpa using this
theorem zKs {p : Prd} (hc : p.check = 0) {T : List Top} (hT : T.length = p.count) {inst : Int} {s : Int} (hs : s = 1 ∨ s = 2) {q : Quote} (h : q ∈ xI ⟨p,T,inst⟩ s) : QOk T q ∧ 0 ≤ inst ∧ inst < p.count ∧
    (((p.legs inst).2.2 = true ∧ q.a = ⟨(p.legs inst).1,s⟩ ∧ q.b = ⟨(p.legs inst).2.1,3 - s⟩) ∨ (inst < p.months.length ∧ q.a.inst ≠ inst ∧ (p.months.length : Int) ≤ q.a.inst)) := by
  rw [xI] at h
  dsimp only at h
  split at h
  · cases h
  · rename_i hn
    have h0 : 0 ≤ inst ∧ inst < p.count := by omega
    obtain ⟨k,rfl⟩ : ∃ k : Nat,inst = k := ⟨inst.toNat,by omega⟩
    have hk : k < p.count := by omega
    have hge := wI hc
    split at h
    · rename_i hl
      obtain ⟨q',hq',rfl⟩ := List.mem_map.1 h
      have hle := wF hc hk
      rcases hle with ⟨_,l1,l2,l3,l4⟩ | ⟨e,_⟩
      · obtain ⟨ok,e1,e2⟩ := zJh hq' (by dsimp only;omega) (by dsimp only;omega) (by dsimp only;omega) hs (fun e => zLq hc hk hl e.symm)
        refine ⟨⟨by dsimp only [qT]; omega,by dsimp only [qT]; omega,hs,by dsimp only [qT]; omega,zLq hc hk hl,?_,?_,?_⟩,h0.1,h0.2,.inl ⟨hl,rfl,rfl⟩⟩
        · have := ok.hb; rw [e2] at this; exact this
        · have := ok.ha; rw [e1] at this; exact this
        · have := ok.qty; rw [e1,e2] at this; dsimp only [qT]; rw [this]; exact Int.min_comm _ _
      · rw [e] at hl; cases hl
    · rename_i hl
      have hm : k < p.months.length := by
        rcases wF hc hk with ⟨e,_⟩ | ⟨_,e⟩
        · exact absurd e hl
        · exact e
      rcases List.mem_append.1 h with h | h
      · obtain ⟨j,hj,h⟩ := List.mem_flatMap.1 h
        have hj := List.mem_range.1 hj
        rw [Int.toNat_natCast] at hj
        have s1 := wT hc (a := k) (b := k + 1 + j) (by omega) (by omega)
        have s2 := lC hc (a := k) (b := k + 1 + j) (by omega) (by omega)
        have ec : ((k : Int) + 1 + j) = ((k + 1 + j : Nat) : Int) := by omega
        rw [ec] at h
        obtain ⟨ok,e1,e2⟩ := zJh h (by dsimp only;omega) (by dsimp only;omega) hs hs (by dsimp only;omega)
        exact ⟨ok,h0.1,h0.2,.inr ⟨by omega,by rw [e1]; dsimp only; omega,by rw [e1]; exact s2⟩⟩
      · obtain ⟨j,hj,h⟩ := List.mem_flatMap.1 h
        have hj := List.mem_range.1 hj
        rw [Int.toNat_natCast] at hj
        have s1 := wT hc (a := j) (b := k) (by omega) (by omega)
        have s2 := lC hc (a := j) (b := k) (by omega) (by omega)
        obtain ⟨ok,e1,e2⟩ := zJh h (by dsimp only;omega) (by dsimp only;omega) (by dsimp only;omega) hs (by dsimp only;omega)
        exact ⟨ok,h0.1,h0.2,.inr ⟨by omega,by rw [e1]; dsimp only; omega,by rw [e1]; exact s2⟩⟩
theorem eD {s : Int} : ∀ (r : List Quote) (q : Quote),r.foldl (fun b q => if btr s q.price b.price then q else b) q ∈ q :: r
  | [],q => List.mem_cons_self
  | x :: r,q => by
    rw [List.foldl_cons]
    have := eD (s := s) r (if btr s x.price q.price then x else q)
    rcases List.mem_cons.1 this with e | h
    · rw [e]; split
      · exact List.mem_cons_of_mem _ List.mem_cons_self
      · exact List.mem_cons_self
    · exact List.mem_cons_of_mem _ (List.mem_cons_of_mem _ h)
theorem zOg {l : List Quote} {s : Int} (h : (zW l s).2 = true) : (zW l s).1 ∈ l := by
  cases l with
  | nil => cases h
  | cons q r => exact eD r q
def zYl (B : List (List zK)) : Prop := ∀ (k : Nat) (L : List zK),B[k]? = some L→(∀ o ∈ L,lZ o)∧(L.map (·.id)).Nodup∧L.length ≤ 250
theorem MSt.Rep.ords {s : MSt} {p : Prd} {B : List (List zK)} (h : s.Rep p B) : zYl B := by
  intro k L hL
  obtain ⟨b,hb⟩ := yB (l := s.books) (i := k) (by rw [h.bl]; exact (List.getElem?_eq_some_iff.1 hL).1)
  exact (h.bk k b L hb hL).ords
theorem zVz : ∀ {l : List zK} {v : Lv},(∀ o ∈ l,lZ o) → v ∈ grp l → 1 ≤ v.qty ∧ v.qty ≤ 1000000 * l.length
  | [],v,_,h => by cases h
  | o :: l,v,ho,h => by
    have h0 := (ho o List.mem_cons_self).q
    have ih : ∀ v ∈ grp l,1 ≤ v.qty ∧ v.qty ≤ 1000000 * l.length := fun v hv => zVz (fun x hx => ho x (List.mem_cons_of_mem _ hx)) hv
    rw [grp] at h
    rw [List.length_cons]
    split at h
    · rw [List.mem_singleton] at h
      subst h; dsimp only; omega
    · rename_i w ws e
      rw [e] at ih
      have hw := ih w List.mem_cons_self
      split at h
      · rcases List.mem_cons.1 h with rfl | h
        · dsimp only; omega
        · have := ih v (List.mem_cons_of_mem _ h); omega
      · rcases List.mem_cons.1 h with rfl | h
        · dsimp only; omega
        · have := ih v h; omega
theorem zBj {L : List zK} {s : Int} (h : ∀ o ∈ L,lZ o) (hl : L.length ≤ 250) (hb : (bestL L s).2 = true) : 1 ≤ (bestL L s).1.qty ∧ (bestL L s).1.qty ≤ 250000000 := by
  rw [bestL] at hb ⊢
  cases hl2 : xL L s with
  | nil => rw [hl2] at hb; cases hb
  | cons v vs =>
    dsimp only
    have hm : v ∈ grp (L.filter fun o => decide (o.side = s)) := by rw [← xL,hl2]; exact List.mem_cons_self
    have := zVz (fun o ho => h o (List.mem_filter.1 ho).1) hm
    have := List.length_filter_le (fun o : zK => decide (o.side = s)) L
    omega
theorem zHt {B : List (List zK)} {k : Nat} {L : List zK} (hL : B[k]? = some L) : (B.map wK).getD k top0 = wK L := zV (by rw [List.getElem?_map,hL]; rfl)
theorem nP (L : List zK) {s : Int} (hs : s = 1 ∨ s = 2) : (wK L).has s = (bestL L s).2 ∧ (wK L).qty s = (bestL L s).1.qty ∧ (wK L).price s = (bestL L s).1.price := by
  obtain ⟨e1,e2,e3,e4,e5,e6⟩ := zDn L
  rcases hs with rfl | rfl
  · exact ⟨e3,e2,e1⟩
  · exact ⟨e6,e5,e4⟩
theorem z0h {p : Prd} {B : List (List zK)} (h : BOk p B) (ho : zYl B) {inst : Int} (hi : 0 ≤ inst ∧ inst < B.length) {s : Int} (hs : s = 1 ∨ s = 2) (hn : (zP p B inst s).2.2 = true) :
    (1 ≤ (zP p B inst s).1.qty ∧ (zP p B inst s).1.qty ≤ 250000000) ∧ ((zP p B inst s).2.1 = true → (zP p B inst s).1 ∈ xI ⟨p,B.map wK,inst⟩ s ∧ QOk (B.map wK) (zP p B inst s).1) ∧
    ((zP p B inst s).2.1 = false → (bestL (B.getD inst.toNat []) s).2 = true ∧ (zP p B inst s).1.price = (bestL (B.getD inst.toNat []) s).1.price ∧ (zP p B inst s).1.qty = (bestL (B.getD inst.toNat []) s).1.qty) := by
  obtain ⟨k,rfl⟩ : ∃ k : Nat,inst = k := ⟨inst.toNat,by omega⟩
  obtain ⟨L,hL⟩ := yB (l := B) (i := k) (by omega)
  have hLo := ho k L hL
  rw [zP] at hn ⊢
  rw [Int.toNat_natCast,zV hL] at hn ⊢
  split
  · rename_i c
    simp only [Bool.and_eq_true] at c
    exact ⟨zBj hLo.1 hLo.2.2 c.1,⟨fun e => (by cases e),fun _ => ⟨c.1,rfl,rfl⟩⟩⟩
  · rename_i c
    rw [if_neg c] at hn
    dsimp only at hn ⊢
    have hm := zOg hn
    have ha : (zW (qB ⟨p,B.map wK,k⟩ s) s).1 ∈ xI ⟨p,B.map wK,k⟩ s := (List.mem_filter.1 hm).1
    obtain ⟨ok,_⟩ := zKs h.pc (by rw [List.length_map]; exact h.bl) hs ha
    refine ⟨?_,fun _ => ⟨ha,ok⟩,fun e => by rw [hn] at e; cases e⟩
    generalize (zW (qB ⟨p,B.map wK,k⟩ s) s).1 = q at ok
    have a := ok.a
    have b := ok.b
    rw [List.length_map] at a b
    obtain ⟨La,hLa⟩ := yB (l := B) (i := q.a.inst.toNat) (by omega)
    obtain ⟨Lb,hLb⟩ := yB (l := B) (i := q.b.inst.toNat) (by omega)
    have e1 := ok.ha
    have e2 := ok.hb
    have e3 := ok.qty
    rw [zHt hLa] at e1 e3
    rw [zHt hLb] at e2 e3
    rw [(nP La ok.sa).1] at e1
    rw [(nP Lb ok.sb).1] at e2
    rw [(nP La ok.sa).2.1,(nP Lb ok.sb).2.1] at e3
    have := zBj (ho _ _ hLa).1 (ho _ _ hLa).2.2 e1
    have := zBj (ho _ _ hLb).1 (ho _ _ hLb).2.2 e2
    omega
theorem zTq {L : List zK} {id q : Int} {o : zK} (h : o ∈ (yV L id q).1) : ∃ o' ∈ L,o.price = o'.price ∧ o.side = o'.side ∧ o.id = o'.id := by
  rw [yV] at h
  split at h
  · exact ⟨o,h,rfl,rfl,rfl⟩
  split at h
  · exact ⟨o,h,rfl,rfl,rfl⟩
  obtain ⟨o',ho',e⟩ := List.mem_filterMap.1 h
  refine ⟨o',ho',?_⟩
  split at e
  · split at e
    · cases e
    · cases e; exact ⟨rfl,rfl,rfl⟩
  · cases e; exact ⟨rfl,rfl,rfl⟩
theorem BOk.take {p : Prd} {B : List (List zK)} (h : BOk p B) (id q : Int) : BOk p (qP B id q).1 := by
  refine ⟨h.pc,h.ps,by rw [zEp]; exact h.bl,fun k L hL o ho => ?_⟩
  rw [qP] at hL
  split at hL
  · exact h.pr k L hL o ho
  · rename_i j hj
    dsimp only at hL
    rcases jY hL with ⟨rfl,rfl⟩ | ⟨_,hL⟩
    · obtain ⟨o',ho',e,_⟩ := zTq ho
      obtain ⟨L',hL',_⟩ := j0 hj
      rw [zV hL'] at ho'
      rw [e]; exact h.pr k L' hL' o' ho'
    · exact h.pr k L hL o ho
theorem BOk.takes {p : Prd} : ∀ {fs : List dJ} {B : List (List zK)},BOk p B → BOk p (y6 B fs)
  | [],B,h => h
  | f :: fs,B,h => BOk.takes (fs := fs) (h.take f.id f.qty)
theorem zEr (inst s : Int) : ∀ (os : List zK) (sh : List Int),(yW inst s os sh).length ≤ os.length
  | [],sh => Nat.le_refl 0
  | o :: os,[] => Nat.zero_le _
  | o :: os,k :: sh => by
    have := zEr inst s os sh
    rw [yW]
    split
    · simp only [List.length_cons]; omega
    · simp only [List.length_cons]; omega
theorem lK {p : Prd} {B : List (List zK)} (ho : zYl B) (inst s q : Int) : (yJ p B inst s q).length ≤ 250 := by
  refine Nat.le_trans (zEr _ _ _ _) (Nat.le_trans (List.length_filter_le _ _) ?_)
  by_cases h : inst.toNat < B.length
  · obtain ⟨L,hL⟩ := yB h
    rw [zV hL]; exact (ho _ _ hL).2.2
  · rw [List.getD_eq_getElem?_getD,List.getElem?_eq_none (by omega)]; exact Nat.zero_le _
theorem zIs {p : Prd} {B : List (List zK)} {inst : Int} {sd : Bool} {price q : Int} {t : dQ} {B' : List (List zK)} (hq : 1 ≤ q) (h : vO p B inst sd price q = some (t,B')) : 1 ≤ t.qty ∧ t.qty ≤ q := by
  rw [vO] at h
  dsimp only at h
  split at h
  · rename_i c
    simp only [Bool.and_eq_true,decide_eq_true_eq] at c
    split at h
    · cases h; dsimp only; omega
    · cases h; dsimp only; omega
  · cases h
theorem zHb {p : Prd} {inst : Int} {sd : Bool} {price : Int} : ∀ (m n : Nat) (B : List (List zK)) (q : Int),q.toNat ≤ m → q.toNat ≤ n → nC p inst sd price m B q = nC p inst sd price n B q
  | 0,0,B,q,_,_ => rfl
  | 0,n + 1,B,q,h,_ => by rw [nC,nC,if_pos (by omega)]
  | m + 1,0,B,q,_,h => by rw [nC,nC,if_pos (by omega)]
  | m + 1,n + 1,B,q,h1,h2 => by
    rw [nC,nC]
    split
    · rfl
    · rename_i hq
      cases hs : vO p B inst sd price q with
      | none => rfl
      | some x =>
        obtain ⟨t,B'⟩ := x
        have := zIs (by omega) hs
        dsimp only
        rw [zHb m n B' (q - t.qty) (by omega) (by omega)]
theorem fE {p : Prd} {B : List (List zK)} {inst : Int} {sd : Bool} {price q : Int} (h : q ≤ 0 ∨ vO p B inst sd price q = none) : uC p B inst sd price q = ⟨[],q,B⟩ := by
  rw [uC]
  cases hn : q.toNat with
  | zero => rfl
  | succ n =>
    rw [nC]
    rcases h with h | h
    · rw [if_pos h]
    · rw [if_neg (by omega),h]
theorem zFr {p : Prd} {B : List (List zK)} {inst : Int} {sd : Bool} {price q : Int} {t : dQ} {B' : List (List zK)} (hq : 1 ≤ q) (h : vO p B inst sd price q = some (t,B')) :
    uC p B inst sd price q = ⟨t :: (uC p B' inst sd price (q - t.qty)).steps,(uC p B' inst sd price (q - t.qty)).left,(uC p B' inst sd price (q - t.qty)).B⟩ := by
  have ht := zIs hq h
  rw [uC]
  cases hn : q.toNat with
  | zero => omega
  | succ n =>
    rw [nC,if_neg (by omega),h]
    dsimp only
    rw [zHb n (q - t.qty).toNat B' (q - t.qty) (by omega) (Nat.le_refl _)]
    rfl
open Go Cv Go.Proofs
theorem j6 {s : Int} (h : s = 1 ∨ s = 2) : zB (decide (s = 2)) = s := by
  rcases h with rfl | rfl <;> rfl
theorem yAt (i : RunI) (h : runC.cnd i) : z0l i := by
  obtain ⟨hR,hB,⟨h0,h1⟩,hq1,hq2⟩ : i.s.Rep i.p i.B ∧ BOk i.p i.B ∧ (0 ≤ i.inst ∧ i.inst < i.B.length) ∧ 1 ≤ i.q ∧ i.q ≤ 1000000 := h
  have hbl := hR.bl
  have hcl := jE i.p
  have hbB := hB.bl
  unfold z0l zJp gV
  refine (fun hT => zT (fun c => zT (fun c2 => Cv.cnd.mk (fun _ => zT (fun _ => Cv.cnd.mk (fun e => absurd hq2 (by simpa using e)) (fun _ => hT)) (fun e => absurd hq1 e)) (fun e1 => Cv.cnd.mk (fun _ => zT (fun _ => Cv.cnd.mk (fun e => absurd hq2 (by simpa using e)) (fun _ => hT)) (fun e => absurd hq1 e)) (fun e2 => by
    rcases fJ i.sd with e | e
    · rw [e] at e1; cases e1
    · rw [e] at e2; cases e2))) (fun c2 => absurd (by omega) c2)) (fun c => absurd h0 c)) ?_
  refine ⟨⟨i.s,i.B,[],i.q⟩,rfl,rfl,rfl,rfl,rfl,rfl,rfl,rfl,rfl,rfl,rfl,rfl,rfl,rfl,rfl,fun j => j.s.Rep i.p j.B ∧ BOk i.p j.B ∧ j.B.length = i.B.length ∧ (0 ≤ j.q ∧ j.q ≤ i.q) ∧ (j.steps.length : Int) ≤ i.q - j.q ∧ i.r = ⟨j.steps ++ (uC i.p j.B i.inst i.sd i.price j.q).steps,(uC i.p j.B i.inst i.sd i.price j.q).left,(uC i.p j.B i.inst i.sd i.price j.q).B⟩,fun j => j.q.toNat,⟨hR,hB,rfl,⟨by dsimp only;omega,Int.le_refl _⟩,by dsimp only; simp,rfl⟩,?_⟩
  rintro ⟨s,B,st,q⟩ ⟨r1,r2,r3,⟨r4,r4'⟩,r5,r6⟩
  dsimp only at r1 r2 r3 r4 r4' r5 r6 ⊢
  have hno (hn : q ≤ 0 ∨ vO i.p B i.inst i.sd i.price q = none) : ∃ (o : MSt),i.r.left = q ∧ AObj.adt MSt (5 : Nat) z7 o = AObj.adt MSt (5 : Nat) z7 s ∧ List.map z8 i.r.steps = List.map z8 st ∧ o.Rep i.p i.r.B := by
    rw [fE hn,List.append_nil] at r6
    rw [r6]; exact ⟨s,rfl,rfl,rfl,r1⟩
  refine zT (fun c => ?_) (fun c => hno (.inl (by omega)))
  have c : 0 < q := c
  refine ⟨i.sd,rfl,trivial,fun _ _ => ⟨⟨s,i.p,B,i.inst,!i.sd⟩,rfl,rfl,rfl,⟨r1,r2,h0,by dsimp only;omega⟩,fun _ _ => ?_⟩⟩
  dsimp only
  have hni := z0h r2 r1.ords (inst := i.inst) ⟨h0,by omega⟩ (fJ (!i.sd))
  have hsb : vO i.p B i.inst i.sd i.price q = (if ((zP i.p B i.inst (zB (!i.sd))).2.2 && (wN i.sd i.price (zP i.p B i.inst (zB (!i.sd))).1.price && decide (1 ≤ (zP i.p B i.inst (zB (!i.sd))).1.qty))) = true then
    if (zP i.p B i.inst (zB (!i.sd))).2.1 = true then
      some (⟨(zP i.p B i.inst (zB (!i.sd))).1.price,min q (zP i.p B i.inst (zB (!i.sd))).1.qty,true,yJ i.p B (zP i.p B i.inst (zB (!i.sd))).1.a.inst (zP i.p B i.inst (zB (!i.sd))).1.a.side (min q (zP i.p B i.inst (zB (!i.sd))).1.qty) ++ yJ i.p (y6 B (yJ i.p B (zP i.p B i.inst (zB (!i.sd))).1.a.inst (zP i.p B i.inst (zB (!i.sd))).1.a.side (min q (zP i.p B i.inst (zB (!i.sd))).1.qty))) (zP i.p B i.inst (zB (!i.sd))).1.b.inst (zP i.p B i.inst (zB (!i.sd))).1.b.side (min q (zP i.p B i.inst (zB (!i.sd))).1.qty)⟩,y6 (y6 B (yJ i.p B (zP i.p B i.inst (zB (!i.sd))).1.a.inst (zP i.p B i.inst (zB (!i.sd))).1.a.side (min q (zP i.p B i.inst (zB (!i.sd))).1.qty))) (yJ i.p (y6 B (yJ i.p B (zP i.p B i.inst (zB (!i.sd))).1.a.inst (zP i.p B i.inst (zB (!i.sd))).1.a.side (min q (zP i.p B i.inst (zB (!i.sd))).1.qty))) (zP i.p B i.inst (zB (!i.sd))).1.b.inst (zP i.p B i.inst (zB (!i.sd))).1.b.side (min q (zP i.p B i.inst (zB (!i.sd))).1.qty)))
    else some (⟨(zP i.p B i.inst (zB (!i.sd))).1.price,min q (zP i.p B i.inst (zB (!i.sd))).1.qty,false,yJ i.p B i.inst (zB (!i.sd)) (min q (zP i.p B i.inst (zB (!i.sd))).1.qty)⟩,y6 B (yJ i.p B i.inst (zB (!i.sd)) (min q (zP i.p B i.inst (zB (!i.sd))).1.qty))) else none) := rfl
  generalize zP i.p B i.inst (zB (!i.sd)) = nb at hni hsb ⊢
  refine Cv.cnd.mk (fun n1 => ?_) (fun n1 => ⟨⟨i.sd,i.price,nb.1.price⟩,rfl,rfl,rfl,trivial,fun _ _ => Cv.cnd.mk (fun n2 => ?_) (fun n2 => ?_)⟩)
  · have n1 : nb.2.2 = false := by simpa using n1
    rw [n1,if_neg (by simp)] at hsb
    exact hno (.inr hsb)
  · have n2 : wN i.sd i.price nb.1.price = false := by simpa using n2
    rw [n2,if_neg (by simp)] at hsb
    exact hno (.inr hsb)
  have n1 : nb.2.2 = true := by simpa using n1
  have n2 : wN i.sd i.price nb.1.price = true := by simpa using n2
  obtain ⟨⟨b1,b2⟩,hi,hr⟩ := hni n1
  rw [n1,n2,decide_eq_true b1,if_pos (by rfl)] at hsb
  have hk : yK (min q nb.1.qty) := by constructor <;> omega
  have hsl : (st.length + 1) * 48 ≤ 70368744177664 := by omega
  have beh : ∀ (t : dQ) (B' : List (List zK)) (s' : MSt),vO i.p B i.inst i.sd i.price q = some (t,B') → s'.Rep i.p B' → BOk i.p B' → B'.length = B.length →
      (s'.Rep i.p B' ∧ BOk i.p B' ∧ B'.length = i.B.length ∧ (0 ≤ q - t.qty ∧ q - t.qty ≤ i.q) ∧ ((st ++ [t]).length : Int) ≤ i.q - (q - t.qty) ∧ i.r = ⟨(st ++ [t]) ++ (uC i.p B' i.inst i.sd i.price (q - t.qty)).steps,(uC i.p B' i.inst i.sd i.price (q - t.qty)).left,(uC i.p B' i.inst i.sd i.price (q - t.qty)).B⟩) ∧ (q - t.qty).toNat < q.toNat := by
    intro t B' s' h1 h2 h3 h4
    have ht := zIs (by omega) h1
    refine ⟨⟨h2,h3,by omega,⟨by omega,by omega⟩,by rw [List.length_append,List.length_singleton]; omega,?_⟩,by omega⟩
    rw [zFr (by omega) h1] at r6
    rw [r6,List.append_assoc]; rfl
  refine Cv.cnd.mk (fun n3 => ?_) (fun n3 => ?_)
  · obtain ⟨_,ok⟩ := hi n3
    rw [n3,if_pos rfl] at hsb
    have oka := ok.a
    have okb := ok.b
    rw [List.length_map] at oka okb
    have ea := j6 ok.sa
    have eb := j6 ok.sb
    refine ⟨⟨s,i.p,B,nb.1.a.inst,decide (nb.1.a.side = 2),min q nb.1.qty⟩,rfl,ea,rfl,rfl,⟨r1,r2,oka.1,oka.2,hk⟩,fun s1 hs1 => ?_⟩
    dsimp only at hs1 ⊢
    rw [ea] at hs1 ⊢
    have l1 := lK (p := i.p) r1.ords nb.1.a.inst nb.1.a.side (min q nb.1.qty)
    have hB1 := r2.takes (fs := yJ i.p B nb.1.a.inst nb.1.a.side (min q nb.1.qty))
    have l2 := lK (p := i.p) hs1.ords nb.1.b.inst nb.1.b.side (min q nb.1.qty)
    refine ⟨trivial,by rw [List.length_map]; omega,⟨s1,i.p,y6 B (yJ i.p B nb.1.a.inst nb.1.a.side (min q nb.1.qty)),nb.1.b.inst,decide (nb.1.b.side = 2),min q nb.1.qty⟩,rfl,eb,rfl,rfl,⟨hs1,hB1,okb.1,by dsimp only; rw [wS]; exact okb.2,hk⟩,fun s2 hs2 => ?_⟩
    dsimp only at hs2 ⊢
    rw [eb] at hs2 ⊢
    obtain ⟨g1,g2⟩ := beh _ _ s2 hsb hs2 hB1.takes (by rw [wS,wS])
    refine ⟨trivial,by rw [List.length_map,List.length_map]; omega,by rw [List.length_map]; exact hsl,⟨s2,_,st ++ [_],_⟩,?_,rfl,?_,g1,g2,by (repeat' (first|exact trivial|exact rfl|apply And.intro))⟩
    · dsimp only; rw [w64 (by omega)]
    · dsimp only
      rw [List.map_append,n3]
      simp [z8]
  · rw [n3,if_neg (by decide)] at hsb
    refine ⟨i.sd,rfl,trivial,fun _ _ => ⟨rfl,⟨s,i.p,B,i.inst,!i.sd,min q nb.1.qty⟩,rfl,rfl,rfl,rfl,⟨r1,r2,h0,by dsimp only;omega,hk⟩,fun s1 hs1 => ?_⟩⟩
    dsimp only at hs1 ⊢
    obtain ⟨g1,g2⟩ := beh _ _ s1 hsb hs1 r2.takes (by rw [wS])
    refine ⟨by rw [List.length_map]; exact hsl,⟨s1,_,st ++ [_],_⟩,?_,rfl,?_,g1,g2,by (repeat' (first|exact trivial|exact rfl|apply And.intro))⟩
    · dsimp only; rw [w64 (by omega)]
    · dsimp only
      rw [List.map_append,n3]
      simp [z8]
theorem run_ok : runC.ok Try.prog 10 := z9e (gokc zZv (gokc zQb (gokc zTj (gokc zUy gok0)))) yAt
open Go Cv Go.Proofs
structure Ask where
  kind : Int
  inst : Int
  side : Int
  id : Int
  price : Int
  qty : Int
  deriving DecidableEq
@[reducible] def Ask.cells (c : Ask) : List V := [zF c.kind,zF c.inst,zF c.side,zF c.id,zF c.price,zF c.qty]
@[reducible] def yAf (c : Ask) : V := .agg c.cells
def askE (c : Ask) : List D := [.v (.int .i64 c.kind),.v (.int .i64 c.inst),.v (.int .i64 c.side),.v (.int .i64 c.id),.v (.int .i64 c.price),.v (.int .i64 c.qty)]
def z6c : Ask := ⟨0,0,0,0,0,0⟩
@[reducible] def Ask.raw (c : Ask) : Prop := yK c.kind ∧ yK c.inst ∧ yK c.side ∧ yK c.id ∧ yK c.price ∧ yK c.qty
structure SmI where
  p : Prd
  x : Ask
  i : Int
def jL (x : Ask) : Int := [1,1,1,2,3,3,4].getD (zD x.kind 0 6).toNat 0
def cI (t : SmI) : Ask := ⟨jL t.x,zD t.x.inst 0 (t.p.count - 1),1 + zD t.x.side 0 1,if jL t.x = 1 then t.i else zD t.x.id 0 t.i,
  if (t.p.legs (zD t.x.inst 0 (t.p.count - 1))).2.2 = true then t.p.tick * (zD t.x.price 0 7 - 4) else t.p.tick * (zD t.x.price 0 7 + 8),1 + zD t.x.qty 0 11⟩
def smallC : Con := con1 SmI (fun t => [prdV t.p,yAf t.x,zF t.i]) (fun _ => []) (fun t => t.p.check = 0 ∧ t.p.small ∧ t.x.raw ∧ 0 ≤ t.i ∧ t.i ≤ 1000000) (fun t => yAf (cI t)) (fun _ => [])
def known16C : Con := con1 Unit (fun _ => []) (fun _ => []) (fun _ => True) (fun _ => yG true) (fun _ => [])
open Go Cv Go.Proofs
def zDp (t : SmI) : Prop :=
  ∃ (i : Prd),sb i.code = sb t.p.code∧iE i.months = iE t.p.months∧i.tick = t.p.tick∧i.low = t.p.low∧i.high = t.p.high∧i.wide = t.p.wide∧i.rule = t.p.rule∧i.top = t.p.top∧i.least = t.p.least∧i.part = t.p.part∧iE i.settle = iE t.p.settle∧(i.code.length ≤ 1099511627776∧i.months.length ≤ 1099511627776∧i.settle.length ≤ 1099511627776)∧∀ (o : Unit),True→∃ (i_1 : WiI),i_1.n = t.x.kind∧i_1.lo = 0∧i_1.hi = 6∧(((-9223372036854775808) ≤ i_1.n∧i_1.n ≤ 9223372036854775807)∧(-1000000) ≤ i_1.lo∧i_1.lo ≤ i_1.hi∧i_1.hi ≤ 1000000)∧∀ (o : Unit),True→(0 ≤ zD i_1.n i_1.lo i_1.hi∧zD i_1.n i_1.lo i_1.hi < (↑(7 : Nat) : Int))∧∃ (n : Int),zG [[D.v (.int .i64 1)],[D.v (.int .i64 1)],[D.v (.int .i64 1)],[D.v (.int .i64 2)],[D.v (.int .i64 3)],[D.v (.int .i64 3)],[D.v (.int .i64 4)]] (zD i_1.n i_1.lo i_1.hi).toNat 0 1 = some [D.v (.int .i64 n)]∧∃ (i_2 : WiI),i_2.n = t.x.inst∧i_2.lo = 0∧i_2.hi = IntKind.i64.wrap ((↑i.count : Int) - 1)∧(((-9223372036854775808) ≤ i_2.n∧i_2.n ≤ 9223372036854775807)∧(-1000000) ≤ i_2.lo∧i_2.lo ≤ i_2.hi∧i_2.hi ≤ 1000000)∧∀ (o : Unit),True→∃ (i : WiI),i.n = t.x.side∧i.lo = 0∧i.hi = 1∧(((-9223372036854775808) ≤ i.n∧i.n ≤ 9223372036854775807)∧(-1000000) ≤ i.lo∧i.lo ≤ i.hi∧i.hi ≤ 1000000)∧∀ (o : Unit),True→∃ (i_3 : WiI),i_3.n = t.x.qty∧i_3.lo = 0∧i_3.hi = 11∧(((-9223372036854775808) ≤ i_3.n∧i_3.n ≤ 9223372036854775807)∧(-1000000) ≤ i_3.lo∧i_3.lo ≤ i_3.hi∧i_3.hi ≤ 1000000)∧∀ (o : Unit),True→∃ (i_4 : WiI),i_4.n = t.x.price∧i_4.lo = 0∧i_4.hi = 7∧(((-9223372036854775808) ≤ i_4.n∧i_4.n ≤ 9223372036854775807)∧(-1000000) ≤ i_4.lo∧i_4.lo ≤ i_4.hi∧i_4.hi ≤ 1000000)∧∀ (o : Unit),True→∃ (i_5 : j5),sb i_5.p.code = sb t.p.code∧iE i_5.p.months = iE t.p.months∧i_5.p.tick = t.p.tick∧i_5.p.low = t.p.low∧i_5.p.high = t.p.high∧i_5.p.wide = t.p.wide∧i_5.p.rule = t.p.rule∧i_5.p.top = t.p.top∧i_5.p.least = t.p.least∧i_5.p.part = t.p.part∧iE i_5.p.settle = iE t.p.settle∧i_5.n = zD i_2.n i_2.lo i_2.hi∧(i_5.p.code.length ≤ 1099511627776∧i_5.p.months.length ≤ 1099511627776∧i_5.p.settle.length ≤ 1099511627776)∧∀ (o : Unit),True→cnd (i_5.p.legs i_5.n).snd.snd (cnd (n == 1) (∃ (o : Unit),jL t.x = n∧zD t.x.inst 0 ((↑t.p.count : Int) - 1) = zD i_2.n i_2.lo i_2.hi∧1 + zD t.x.side 0 1 = IntKind.i64.wrap (1 + zD i.n i.lo i.hi)∧(if jL t.x = 1 then t.i else zD t.x.id 0 t.i) = t.i∧(if (t.p.legs (zD t.x.inst 0 ((↑t.p.count : Int) - 1))).snd.snd = true then t.p.tick * (zD t.x.price 0 (7 : Int) - (4 : Int)) else t.p.tick * (zD t.x.price 0 (7 : Int) + (8 : Int))) = IntKind.i64.wrap (t.p.tick * IntKind.i64.wrap (zD i_4.n i_4.lo i_4.hi - 4))∧1 + zD t.x.qty 0 11 = IntKind.i64.wrap (1 + zD i_3.n i_3.lo i_3.hi)∧True) (∃ (i_6 : WiI),i_6.n = t.x.id∧i_6.lo = 0∧i_6.hi = t.i∧(((-9223372036854775808) ≤ i_6.n∧i_6.n ≤ 9223372036854775807)∧(-1000000) ≤ i_6.lo∧i_6.lo ≤ i_6.hi∧i_6.hi ≤ 1000000)∧∀ (o : Unit),True→∃ (o : Unit),jL t.x = n∧zD t.x.inst 0 ((↑t.p.count : Int) - 1) = zD i_2.n i_2.lo i_2.hi∧1 + zD t.x.side 0 1 = IntKind.i64.wrap (1 + zD i.n i.lo i.hi)∧(if jL t.x = 1 then t.i else zD t.x.id 0 t.i) = zD i_6.n i_6.lo i_6.hi∧(if (t.p.legs (zD t.x.inst 0 ((↑t.p.count : Int) - 1))).snd.snd = true then t.p.tick * (zD t.x.price 0 (7 : Int) - (4 : Int)) else t.p.tick * (zD t.x.price 0 (7 : Int) + (8 : Int))) = IntKind.i64.wrap (t.p.tick * IntKind.i64.wrap (zD i_4.n i_4.lo i_4.hi - 4))∧1 + zD t.x.qty 0 11 = IntKind.i64.wrap (1 + zD i_3.n i_3.lo i_3.hi)∧True)) (cnd (n == 1) (∃ (o : Unit),jL t.x = n∧zD t.x.inst 0 ((↑t.p.count : Int) - 1) = zD i_2.n i_2.lo i_2.hi∧1 + zD t.x.side 0 1 = IntKind.i64.wrap (1 + zD i.n i.lo i.hi)∧(if jL t.x = 1 then t.i else zD t.x.id 0 t.i) = t.i∧(if (t.p.legs (zD t.x.inst 0 ((↑t.p.count : Int) - 1))).snd.snd = true then t.p.tick * (zD t.x.price 0 (7 : Int) - (4 : Int)) else t.p.tick * (zD t.x.price 0 (7 : Int) + (8 : Int))) = IntKind.i64.wrap (t.p.tick * IntKind.i64.wrap (zD i_4.n i_4.lo i_4.hi + 8))∧1 + zD t.x.qty 0 11 = IntKind.i64.wrap (1 + zD i_3.n i_3.lo i_3.hi)∧True) (∃ (i_6 : WiI),i_6.n = t.x.id∧i_6.lo = 0∧i_6.hi = t.i∧(((-9223372036854775808) ≤ i_6.n∧i_6.n ≤ 9223372036854775807)∧(-1000000) ≤ i_6.lo∧i_6.lo ≤ i_6.hi∧i_6.hi ≤ 1000000)∧∀ (o : Unit),True→∃ (o : Unit),jL t.x = n∧zD t.x.inst 0 ((↑t.p.count : Int) - 1) = zD i_2.n i_2.lo i_2.hi∧1 + zD t.x.side 0 1 = IntKind.i64.wrap (1 + zD i.n i.lo i.hi)∧(if jL t.x = 1 then t.i else zD t.x.id 0 t.i) = zD i_6.n i_6.lo i_6.hi∧(if (t.p.legs (zD t.x.inst 0 ((↑t.p.count : Int) - 1))).snd.snd = true then t.p.tick * (zD t.x.price 0 (7 : Int) - (4 : Int)) else t.p.tick * (zD t.x.price 0 (7 : Int) + (8 : Int))) = IntKind.i64.wrap (t.p.tick * IntKind.i64.wrap (zD i_4.n i_4.lo i_4.hi + 8))∧1 + zD t.x.qty 0 11 = IntKind.i64.wrap (1 + zD i_3.n i_3.lo i_3.hi)∧True))
theorem zXu (t : SmI) : zDp t = walk Try.prog ([(12,r5countC),(15,withinC),(20,r5legsC)]) 0 ([]) ([]) [] Try.f8 (Try.f8.body.getD .skip) (smallC.pat t) (smallC.pre t) (smallC.alts t) := by kernel_rfl
theorem zXy (hG : GOk Try.prog ([(12,r5countC),(15,withinC),(20,r5legsC)])) (h : ∀ (t : SmI),smallC.cnd t → zDp t) : smallC.ok Try.prog 8 := zE mixed ([(12,r5countC),(15,withinC),(20,r5legsC)]) hG 0 (fun (t : SmI) => []) (fun (t : SmI) => []) [] Try.func8 (by kernel_rfl) (by kernel_rfl) (by kernel_rfl) (fun _ => by kernel_rfl) (fun (t : SmI) hc => Eq.mp (zXu t) (h t hc))
def bX (u : Unit) : Prop :=
  ∃ (i : Int),i = 1∧True∧∀ (o : Unit),True→∃ (i_1 : Prd),sb i_1.code = sb [(67 : UInt8),(76 : UInt8)]∧iE i_1.months = iE [(320 : Int),(321 : Int),(323 : Int)]∧i_1.tick = 5∧i_1.low = 0∧i_1.high = 1000∧i_1.wide = 200∧i_1.rule = i∧i_1.top = 4∧i_1.least = 2∧i_1.part = 40∧iE i_1.settle = iE [(500 : Int),(505 : Int),(490 : Int)]∧(i_1.code.length ≤ 1099511627776∧i_1.months.length ≤ 1099511627776∧i_1.settle.length ≤ 1099511627776)∧(∀ (o : Unit),i_1.check = 0→∃ (i : SaI),i.inst = 0∧i.id = 1∧zB i.sd = 2∧i.price = 10∧i.qty = 5∧zR i.s = zR (gD i_1)∧((i.s.p.code.length ≤ 1099511627776∧i.s.p.months.length ≤ 1099511627776∧i.s.p.settle.length ≤ 1099511627776)∧i.s.books.length ≤ 1000000∧∀ (b : Book),b ∈ i.s.books→(b.a.slots.length ≤ 1000000∧(b.a.free ≠ 0→∃ (s : Slot),s ∈ b.a.slots∧s.used = false)∧∀ (q : qX),q ∈ b.a.queues→q.last = (-1) ∨ 0 ≤ q.last∧q.last < (↑b.a.slots.length : Int))∧b.a.queues.length ≤ 100000∧b.buys.length ≤ 100000∧b.sells.length ≤ 100000∧b.spare.length ≤ 100000)∧∀ (o : Unit),True→∃ (i_2 : RunI),i_2.inst = 0∧zB i_2.sd = 1∧i_2.price = 15∧i_2.q = 3∧zR i_2.s = zR (MSt.addF i).fst∧(i_2.s.Rep i_2.p i_2.B∧BOk i_2.p i_2.B∧(0 ≤ i_2.inst∧i_2.inst < (↑i_2.B.length : Int))∧1 ≤ i_2.q∧i_2.q ≤ 1000000)∧∀ (o : MSt),o.Rep i_2.p i_2.r.B→cnd ((MSt.addF i).snd == 0) (cnd ((↑(List.map z8 i_2.r.steps).length : Int) == 1) (((0 : Int) ≤ (0 : Int)∧0 < (↑(List.map z8 i_2.r.steps).length : Int))∧∃ (n : Int),zG (List.map z8 i_2.r.steps) (Int.toNat 0) ((0 : Nat) + (0 : Nat)) 1 = some [D.v (.int .i64 n)]∧cnd (n == 10) (((0 : Int) ≤ (0 : Int)∧0 < (↑(List.map z8 i_2.r.steps).length : Int))∧∃ (n : Int),zG (List.map z8 i_2.r.steps) (Int.toNat 0) ((0 : Nat) + (1 : Nat)) 1 = some [D.v (.int .i64 n)]∧cnd (n == 3) (((0 : Int) ≤ (0 : Int)∧0 < (↑(List.map z8 i_2.r.steps).length : Int))∧∃ (b : Bool),zG (List.map z8 i_2.r.steps) (Int.toNat 0) ((0 : Nat) + (2 : Nat)) 1 = some [D.v (.bool b)]∧cnd (!b) (((0 : Int) ≤ (0 : Int)∧0 < (↑(List.map z8 i_2.r.steps).length : Int))∧∃ (els : List (List D)),zG (List.map z8 i_2.r.steps) (Int.toNat 0) ((0 : Nat) + (3 : Nat)) 1 = some [D.ro 6 els]∧cnd ((↑els.length : Int) == 1) (((0 : Int) ≤ (0 : Int)∧0 < (↑(List.map z8 i_2.r.steps).length : Int))∧∃ (els : List (List D)),zG (List.map z8 i_2.r.steps) (Int.toNat 0) ((0 : Nat) + (3 : Nat)) 1 = some [D.ro 6 els]∧((0 : Int) ≤ (0 : Int)∧0 < (↑els.length : Int))∧∃ (n : Int),zG els (Int.toNat 0) ((0 : Nat) + (5 : Nat)) 1 = some [D.v (.int .i64 n)]∧cnd (n == 2) (∃ (o : Unit),true = (i_2.r.left == 0)∧True) (∃ (o : Unit),true = false∧True)) (∃ (o : Unit),true = false∧True)) (∃ (o : Unit),true = false∧True)) (∃ (o : Unit),true = false∧True)) (∃ (o : Unit),true = false∧True)) (∃ (o : Unit),true = false∧True)) (∃ (o : Unit),true = false∧True))∧∀ (o : Unit),i_1.check ≠ 0→∃ (o : Unit),true = false∧True
theorem zOj (u : Unit) : bX u = walk Try.prog ([(29,threeC),(7,newSC),(9,saddC),(10,runC)]) 0 ([]) ([]) [] Try.f11 (Try.f11.body.getD .skip) (known16C.pat u) (known16C.pre u) (known16C.alts u) := by kernel_rfl
theorem zPl (hG : GOk Try.prog ([(29,threeC),(7,newSC),(9,saddC),(10,runC)])) (h : ∀ (u : Unit),known16C.cnd u → bX u) : known16C.ok Try.prog 11 := zE mixed ([(29,threeC),(7,newSC),(9,saddC),(10,runC)]) hG 0 (fun (u : Unit) => []) (fun (u : Unit) => []) [] Try.func11 (by kernel_rfl) (by kernel_rfl) (by kernel_rfl) (fun _ => by kernel_rfl) (fun (u : Unit) hc => Eq.mp (zOj u) (h u hc))
open Go Cv Go.Proofs
theorem zVq {p : Prd} (hc : p.check = 0) : 1 ≤ p.count ∧ p.count ≤ 21 := by
  have := wI hc
  have := (xE hc).m2
  have := jE p
  omega
theorem z5l (t : SmI) (h : smallC.cnd t) : zDp t := by
  obtain ⟨hc,hp,⟨x1,x2,x3,x4,x5,x6⟩,hi0,hi1⟩ : t.p.check = 0 ∧ t.p.small ∧ t.x.raw ∧ 0 ≤ t.i ∧ t.i ≤ 1000000 := h
  have hcb := zVq hc
  have t1 := (xE hc).t1
  have t2 := (xE hc).t2
  have w6 := yP (n := t.x.kind) (lo := 0) (hi := 6) (by omega)
  have w1 := yP (n := t.x.side) (lo := 0) (hi := 1) (by omega)
  have w11 := yP (n := t.x.qty) (lo := 0) (hi := 11) (by omega)
  have w7 := yP (n := t.x.price) (lo := 0) (hi := 7) (by omega)
  have hcw : IntKind.i64.wrap ((t.p.count : Int) - 1) = t.p.count - 1 := w64 (by omega)
  obtain ⟨n,hn⟩ : ∃ n,[1,1,1,2,3,3,4][(zD t.x.kind 0 6).toNat]? = some n := yB (l := ([1,1,1,2,3,3,4] : List Int)) (by simp; omega)
  have hk : jL t.x = n := zV hn
  have e7 : ∀ a : Int,-4 ≤ a ∧ a ≤ 15 → IntKind.i64.wrap (t.p.tick * IntKind.i64.wrap a) = t.p.tick * a := by
    intro a ha
    rw [w64 (x := a) (by omega)]
    have h1 : t.p.tick * a ≤ 1000 * 15 := by
      rcases Int.le_total 0 a with h0 | h0
      · exact Int.mul_le_mul t2 ha.2 h0 (by decide)
      · have : t.p.tick * a ≤ 0 := Int.mul_nonpos_of_nonneg_of_nonpos (by omega) h0
        omega
    have h2 : -(1000 * 15) ≤ t.p.tick * a := by
      rcases Int.le_total 0 a with h0 | h0
      · have : 0 ≤ t.p.tick * a := Int.mul_nonneg (by omega) h0
        omega
      · have : t.p.tick * (-a) ≤ 1000 * 15 := Int.mul_le_mul t2 (by omega) (by omega) (by decide)
        rw [Int.mul_neg] at this
        omega
    exact w64 (by omega)
  unfold zDp
  refine ⟨t.p,rfl,rfl,rfl,rfl,rfl,rfl,rfl,rfl,rfl,rfl,rfl,hp,fun _ _ => ⟨⟨t.x.kind,0,6⟩,rfl,rfl,rfl,⟨x1,by dsimp only;omega,by dsimp only;omega,by dsimp only;omega⟩,fun _ _ => ⟨⟨by dsimp only;omega,by dsimp only;omega⟩,n,elI (l := [1,1,1,2,3,3,4]) hn,⟨t.x.inst,0,t.p.count - 1⟩,rfl,rfl,hcw.symm,⟨x2,by dsimp only;omega,by dsimp only;omega,by dsimp only;omega⟩,fun _ _ => ⟨⟨t.x.side,0,1⟩,rfl,rfl,rfl,⟨x3,by dsimp only;omega,by dsimp only;omega,by dsimp only;omega⟩,fun _ _ => ⟨⟨t.x.qty,0,11⟩,rfl,rfl,rfl,⟨x6,by dsimp only;omega,by dsimp only;omega,by dsimp only;omega⟩,fun _ _ => ⟨⟨t.x.price,0,7⟩,rfl,rfl,rfl,⟨x5,by dsimp only;omega,by dsimp only;omega,by dsimp only;omega⟩,fun _ _ => ⟨⟨t.p,zD t.x.inst 0 (t.p.count - 1)⟩,rfl,rfl,rfl,rfl,rfl,rfl,rfl,rfl,rfl,rfl,rfl,rfl,hp,fun _ _ => ?_⟩⟩⟩⟩⟩⟩⟩
  dsimp only
  rw [w64 (x := 1 + zD t.x.side 0 1) (by omega),w64 (x := 1 + zD t.x.qty 0 11) (by omega),e7 _ (by omega),e7 _ (by omega)]
  refine Cv.cnd.mk (fun c => Cv.cnd.mk (fun d => ?_) (fun d => ?_)) (fun c => Cv.cnd.mk (fun d => ?_) (fun d => ?_))
  · have d : n = 1 := by simpa using d
    exact ⟨(),hk,rfl,rfl,by rw [hk,if_pos d],by rw [if_pos c],rfl,trivial⟩
  · have d : ¬ n = 1 := by simpa using d
    exact ⟨⟨t.x.id,0,t.i⟩,rfl,rfl,rfl,⟨x4,by dsimp only;omega,hi0,hi1⟩,fun _ _ => ⟨(),hk,rfl,rfl,by rw [hk,if_neg d],by rw [if_pos c],rfl,trivial⟩⟩
  · have d : n = 1 := by simpa using d
    exact ⟨(),hk,rfl,rfl,by rw [hk,if_pos d],by rw [if_neg (by rw [c]; simp)],rfl,trivial⟩
  · have d : ¬ n = 1 := by simpa using d
    exact ⟨⟨t.x.id,0,t.i⟩,rfl,rfl,rfl,⟨x4,by dsimp only;omega,hi0,hi1⟩,fun _ _ => ⟨(),hk,rfl,rfl,by rw [hk,if_neg d],by rw [if_neg (by rw [c]; simp)],rfl,trivial⟩⟩
theorem small_ok : smallC.ok Try.prog 8 := zXy (gokc zIo (gokc within_ok (gokc zPe gok0))) z5l
theorem zVt {L : List zK} {s id p q : Int} {o : zK} (h : o ∈ zAe L s id p q) : o.price = p ∨ ∃ o' ∈ L,o.price = o'.price := by
  have key : ∀ X : List zK,(o ∈ X.takeWhile (before s p) ++ ⟨id,s,p,q,jM L s p⟩ :: X.dropWhile (before s p)) → o.price = p ∨ o ∈ X := by
    intro X hX
    rcases List.mem_append.1 hX with hX | hX
    · exact .inr (List.takeWhile_sublist _ |>.subset hX)
    · rcases List.mem_cons.1 hX with rfl | hX
      · exact .inl rfl
      · exact .inr (List.dropWhile_sublist _ |>.subset hX)
  rw [zAe] at h
  split at h
  · rcases key _ h with h | h
    · exact .inl h
    · obtain ⟨o',ho',_,_,e,_⟩ := zMa h
      exact .inr ⟨o',ho',e⟩
  · rcases key _ h with h | h
    · exact .inl h
    · exact .inr ⟨o,h,rfl⟩
theorem BOk.add {p : Prd} {B : List (List zK)} (h : BOk p B) (inst id s price q : Int) : BOk p (cZ p B inst id s price q).1 := by
  rw [cZ]
  split
  · exact h
  split
  · exact h
  split
  · exact h
  split
  · exact h
  rename_i c1 _ _ c4
  have c4 : p.price inst price = 0 := by simpa using c4
  refine ⟨h.pc,h.ps,by simpa using h.bl,fun k L hL o ho => ?_⟩
  dsimp only at hL
  rcases jY hL with ⟨rfl,rfl⟩ | ⟨_,hL⟩
  · obtain ⟨L',hL'⟩ := yB (l := B) (i := inst.toNat) (by omega)
    rw [zV hL',nA] at ho
    have e : ((inst.toNat : Nat) : Int) = inst := by omega
    repeat' split at ho
    · exact h.pr _ L' hL' o ho
    · exact h.pr _ L' hL' o ho
    · exact h.pr _ L' hL' o ho
    · rcases zVt ho with h1 | ⟨o',ho',h1⟩
      · rw [h1,e]; exact c4
      · rw [h1]; exact h.pr _ L' hL' o' ho'
  · exact h.pr k L hL o ho
theorem BOk.new {p : Prd} (hc : p.check = 0) (hp : p.small) : BOk p (List.replicate p.count []) := by
  refine ⟨hc,hp,by simp,fun k L hL o ho => ?_⟩
  rw [List.eq_of_mem_replicate (List.mem_of_getElem? hL)] at ho
  cases ho
theorem MSt.Rep.fit {s : MSt} {p : Prd} {B : List (List zK)} (h : s.Rep p B) (hb : BOk p B) : s.fit := by
  have := jE p
  refine ⟨by rw [h.ep]; exact hb.ps,by rw [h.bl,hb.bl]; omega,fun b hm => ?_⟩
  obtain ⟨k,hk⟩ := List.mem_iff_getElem?.1 hm
  have hlt := (List.getElem?_eq_some_iff.1 hk).1
  rw [h.bl] at hlt
  obtain ⟨L,hL⟩ := yB hlt
  exact (h.bk k b L hk hL).fit
theorem zWk (u : Unit) (h : known16C.cnd u) : bX u := by
  have hc : (qK 1).check = 0 := by decide +kernel
  have hp : (qK 1).small := by refine ⟨?_,?_,?_⟩ <;> decide
  have hB0 := BOk.new hc hp
  have hR0 := tD (qK 1)
  have hadd := hR0.add 0 1 true 10 5
  have hB1 := hB0.add 0 1 (zB true) 10 5
  have ha : (cZ (qK 1) (List.replicate (qK 1).count []) 0 1 (zB true) 10 5).2 = 0 := by decide +kernel
  have hl : (0 : Int) < ((cZ (qK 1) (List.replicate (qK 1).count []) 0 1 (zB true) 10 5).1.length : Int) := by decide +kernel
  have hr1 : (uC (qK 1) (cZ (qK 1) (List.replicate (qK 1).count []) 0 1 (zB true) 10 5).1 0 false 15 3).steps = [⟨10,3,false,[⟨1,0,2,10,3,2⟩]⟩] := by decide +kernel
  have hr2 : (uC (qK 1) (cZ (qK 1) (List.replicate (qK 1).count []) 0 1 (zB true) 10 5).1 0 false 15 3).left = 0 := by decide +kernel
  unfold bX
  refine ⟨1,rfl,trivial,fun _ _ => ⟨qK 1,rfl,rfl,rfl,rfl,rfl,rfl,rfl,rfl,rfl,rfl,rfl,hp,fun _ _ => ⟨⟨gD (qK 1),0,1,true,10,5⟩,rfl,rfl,rfl,rfl,rfl,rfl,hR0.fit hB0,fun _ _ => ⟨⟨(MSt.addF ⟨gD (qK 1),0,1,true,10,5⟩).1,qK 1,(cZ (qK 1) (List.replicate (qK 1).count []) 0 1 (zB true) 10 5).1,0,false,15,3⟩,rfl,rfl,rfl,rfl,rfl,⟨hadd.1,hB1,⟨by decide,hl⟩,by decide,by decide⟩,fun o ho => ?_⟩⟩,fun _ hx => absurd hc hx⟩⟩
  have e1 : RunI.r ⟨(MSt.addF ⟨gD (qK 1),0,1,true,10,5⟩).1,qK 1,(cZ (qK 1) (List.replicate (qK 1).count []) 0 1 (zB true) 10 5).1,0,false,15,3⟩ = uC (qK 1) (cZ (qK 1) (List.replicate (qK 1).count []) 0 1 (zB true) 10 5).1 0 false 15 3 := rfl
  rw [e1,hr1,hr2,hadd.2,ha]
  refine Cv.cnd.mk (fun _ => Cv.cnd.mk (fun _ => ⟨⟨by decide,by decide⟩,10,rfl,Cv.cnd.mk (fun _ => ⟨⟨by decide,by decide⟩,3,rfl,Cv.cnd.mk (fun _ => ⟨⟨by decide,by decide⟩,false,rfl,Cv.cnd.mk (fun _ => ⟨⟨by decide,by decide⟩,_,rfl,Cv.cnd.mk (fun _ => ⟨⟨by decide,by decide⟩,_,rfl,⟨by decide,by decide⟩,2,rfl,Cv.cnd.mk (fun _ => ⟨(),rfl,trivial⟩) (fun e => absurd e (by decide))⟩) (fun e => absurd e (by decide))⟩) (fun e => absurd e (by decide))⟩) (fun e => absurd e (by decide))⟩) (fun e => absurd e (by decide))⟩) (fun e => absurd e (by decide))) (fun e => absurd e (by decide))
theorem known16_ok : known16C.ok Try.prog 11 := zPl (gokc zQw (gokc newS_ok (gokc sadd_ok (gokc run_ok gok0)))) zWk
open Go Cv Go.Proofs
structure SoI where
  s : MSt
  p : Prd
  B : List (List zK)
  inst : Int
  sd : Bool
@[reducible] def SoI.ok (i : SoI) : Prop := i.s.Rep i.p i.B ∧ i.B.length ≤ 1000
def atB (B : List (List zK)) (inst : Int) : List zK := if inst < 0 then [] else B.getD inst.toNat []
def sladC : Con := con1 SoI (fun i => [.nm 0 0,zF i.inst,zF (zB i.sd)]) (fun i => [zR i.s]) (fun i => i.ok) (fun _ => .own 1) (fun i => [zR i.s,.own 58 3 ((xL (atB i.B i.inst) (zB i.sd)).map lvE)])
open Go Cv Go.Proofs
structure MmI where
  x : Prd
  l : List Ask
  inst : Int
  side : Int
  price : Int
  qty : Int
@[reducible] def MmI.raw (i : MmI) : Prop := i.x.raw ∧ (∀ c ∈ i.l,c.raw) ∧ i.l.length ≤ 9223372036854775807 ∧ yK i.inst ∧ yK i.side ∧ yK i.price ∧ yK i.qty
def MmI.p (i : MmI) : Prd := wE i.x
def MmI.ask (i : MmI) (j : Nat) : Ask := cI ⟨i.p,i.l.getD j z6c,j⟩
def pX (p : Prd) (B : List (List zK)) (y : Ask) : List (List zK) := (cZ p B y.inst y.id y.side y.price y.qty).1
def noB (p : Prd) : List (List zK) := List.replicate p.count []
def MmI.mon (i : MmI) : Nat → List (List zK)
  | 0 => noB i.p
  | j + 1 => if (i.ask j).inst < i.p.months.length then pX i.p (i.mon j) (i.ask j) else i.mon j
def MmI.n (i : MmI) : Nat := min i.l.length 40
def MmI.mi (i : MmI) : Int := zD i.inst 0 (i.p.months.length - 1)
def MmI.last (i : MmI) : Ask := cI ⟨i.p,⟨0,i.mi,i.side,0,i.price,i.qty⟩,0⟩
def MmI.msd (i : MmI) : Int := 1 + zD i.side 0 1
def MmI.mp (i : MmI) : Int := i.p.tick * (8 + zD i.price 0 7)
def MmI.mq (i : MmI) : Int := 5 * (1 + zD i.qty 0 11)
def MmI.run (i : MmI) : z1r := uC i.p (i.mon i.n) i.mi (decide (i.msd = 2)) i.mp i.mq
def MmI.lad (i : MmI) : List Lv := xL (atB (i.mon i.n) i.mi) (3 - i.msd)
def mmC : Con := con1 MmI (fun i => [prdV i.x,roV 6 (i.l.map askE),zF i.inst,zF i.side,zF i.price,zF i.qty]) (fun _ => []) (fun i => i.raw) (fun _ => yG true) (fun _ => [])
def mmA (i : MmI) : List SAnn := [
  { ι := Nat × MSt,slots := fun j => [(14,.nm 0 0),(16,zF j.1)],rows := fun j => [zR j.2] },
  { ι := Nat × Int,slots := fun j => [(22,zF j.2),(23,zF j.1),(24,zF j.1)],rows := fun _ => [] }]
def yAp (t : Nat) : SAnn := { ι := Prd,slots := fun _ => [(t,.nm 0 0)],rows := fun p => [.cells [sV p.code,.own 1,zF p.tick,zF p.low,zF p.high,zF p.wide,zF p.rule,zF p.top,zF p.least,zF p.part,.own 2] 25,.fro 1 (iE p.months),.fro 1 (iE p.settle)] }
def z8x (t : Nat) : SAnn := { ι := Ask,slots := fun _ => [(t,.nm 0 0)],rows := fun y => [.cells y.cells 33] }
def yBd (t : Nat) : SAnn := { ι := Ask,slots := fun _ => [(t,.nm 0 0)],rows := fun y => [.cells y.cells 33],slots0 := fun _ => [(t,.nm 0 0)],rows0 := fun y => [.cells y.cells 33] }
def mmJ : List (Nat × SAnn) := [(4,yAp 13),(24,bj 46),(32,z8x 17),(44,z8x 18),(52,yBd 18),(80,bj 133),(88,bj 163),(98,ij 25),(104,bj 205)]
open Go Cv Go.Proofs
@[reducible] def yU (i : MmI) : AObj := Sx.AObj.cells [V.d (D.v (Value.string (sb i.x.code))),V.own (0 : Nat),V.d (D.v (.int .i64 i.x.tick)),V.d (D.v (.int .i64 i.x.low)),V.d (D.v (.int .i64 i.x.high)),V.d (D.v (.int .i64 i.x.wide)),V.d (D.v (.int .i64 i.x.rule)),V.d (D.v (.int .i64 i.x.top)),V.d (D.v (.int .i64 i.x.least)),V.d (D.v (.int .i64 i.x.part)),V.own ((0 : Nat) + (1 : Nat))] (25 : Nat)
@[reducible] def y4 (i_1 : Prd) : AObj := Sx.AObj.cells (vZ (tT ((0 : Nat) + (1 : Nat) + (1 : Nat) + (1 : Nat)) (qL [] (0 : Nat) []) (3 : Nat)) [sV i_1.code,V.own (1 : Nat),zF i_1.tick,zF i_1.low,zF i_1.high,zF i_1.wide,zF i_1.rule,zF i_1.top,zF i_1.least,zF i_1.part,V.own (2 : Nat)]) (25 : TypeId)
@[reducible] def qH (i_8 : SoI) : AObj := AObj.own (58 : Nat) (3 : Nat) (List.map lvE (xL (atB i_8.B i_8.inst) (zB i_8.sd)))
@[reducible] def qG (i_7 : Sx.Ask) : AObj := Sx.AObj.cells [V.d (D.v (.int .i64 i_7.kind)),V.d (D.v (.int .i64 i_7.inst)),V.d (D.v (.int .i64 i_7.side)),V.d (D.v (.int .i64 i_7.id)),V.d (D.v (.int .i64 i_7.price)),V.d (D.v (.int .i64 (IntKind.i64.wrap ((5 : Int) * i_7.qty))))] (33 : TypeId)
@[reducible] def zNk (i : MmI) (I : Sx.Ask→Prop) (i_1 : Prd) (o : Unit) (i_3 : Nat × MSt) (i_5 : WiI) : Prop := ∃ (i_6 : SmI),sb i_6.p.code = sb i_1.code∧iE i_6.p.months = iE i_1.months∧i_6.p.tick = i_1.tick∧i_6.p.low = i_1.low∧i_6.p.high = i_1.high∧i_6.p.wide = i_1.wide∧i_6.p.rule = i_1.rule∧i_6.p.top = i_1.top∧i_6.p.least = i_1.least∧i_6.p.part = i_1.part∧iE i_6.p.settle = iE i_1.settle∧i_6.x.kind = 0∧i_6.x.inst = zD i_5.n i_5.lo i_5.hi∧i_6.x.side = i.side∧i_6.x.id = 0∧i_6.x.price = i.price∧i_6.x.qty = i.qty∧i_6.i = 0∧(i_6.p.check = 0∧(i_6.p.code.length ≤ 1099511627776∧i_6.p.months.length ≤ 1099511627776∧i_6.p.settle.length ≤ 1099511627776)∧(((-9223372036854775808) ≤ i_6.x.kind∧i_6.x.kind ≤ 9223372036854775807)∧((-9223372036854775808) ≤ i_6.x.inst∧i_6.x.inst ≤ 9223372036854775807)∧((-9223372036854775808) ≤ i_6.x.side∧i_6.x.side ≤ 9223372036854775807)∧((-9223372036854775808) ≤ i_6.x.id∧i_6.x.id ≤ 9223372036854775807)∧((-9223372036854775808) ≤ i_6.x.price∧i_6.x.price ≤ 9223372036854775807)∧(-9223372036854775808) ≤ i_6.x.qty∧i_6.x.qty ≤ 9223372036854775807)∧0 ≤ i_6.i∧i_6.i ≤ 1000000)∧∀ (o : Unit),True→∃ (i' : Sx.Ask),i'.kind = jL i_6.x∧i'.inst = zD i_6.x.inst 0 ((↑i_6.p.count : Int) - 1)∧i'.side = 1 + zD i_6.x.side 0 1∧(i'.id = if jL i_6.x = 1 then i_6.i else zD i_6.x.id 0 i_6.i)∧(i'.price = if (i_6.p.legs (zD i_6.x.inst 0 ((↑i_6.p.count : Int) - 1))).snd.snd = true then i_6.p.tick * (zD i_6.x.price 0 (7 : Int) - (4 : Int)) else i_6.p.tick * (zD i_6.x.price 0 (7 : Int) + (8 : Int)))∧i'.qty = 1 + zD i_6.x.qty 0 11∧I i'∧zR i_3.snd = zR i_3.snd∧y4 i_1 = y4 i_1∧AObj.fro 1 (iE i_1.months) = AObj.fro 1 (iE i_1.months)∧AObj.fro 1 (iE i_1.settle) = AObj.fro 1 (iE i_1.settle)∧yU i = yU i∧AObj.fro 1 (iE i.x.settle) = AObj.fro 1 (iE i.x.settle)∧AObj.fro 1 (iE i.x.months) = AObj.fro 1 (iE i.x.months)
@[reducible] def zUo (i : MmI) (i_1 : Prd) (o : Unit) (i_3 : Nat × MSt) (I_2 : Sx.Ask→Prop) (n : Int) (n_1 : Int) (n_2 : Int) (n_3 : Int) (n_4 : Int) (n_5 : Int) : Prop := ∃ (i_5 : SmI),sb i_5.p.code = sb i_1.code∧iE i_5.p.months = iE i_1.months∧i_5.p.tick = i_1.tick∧i_5.p.low = i_1.low∧i_5.p.high = i_1.high∧i_5.p.wide = i_1.wide∧i_5.p.rule = i_1.rule∧i_5.p.top = i_1.top∧i_5.p.least = i_1.least∧i_5.p.part = i_1.part∧iE i_5.p.settle = iE i_1.settle∧i_5.x.kind = n∧i_5.x.inst = n_1∧i_5.x.side = n_2∧i_5.x.id = n_3∧i_5.x.price = n_4∧i_5.x.qty = n_5∧i_5.i = (↑i_3.fst : Int)∧(i_5.p.check = 0∧(i_5.p.code.length ≤ 1099511627776∧i_5.p.months.length ≤ 1099511627776∧i_5.p.settle.length ≤ 1099511627776)∧(((-9223372036854775808) ≤ i_5.x.kind∧i_5.x.kind ≤ 9223372036854775807)∧((-9223372036854775808) ≤ i_5.x.inst∧i_5.x.inst ≤ 9223372036854775807)∧((-9223372036854775808) ≤ i_5.x.side∧i_5.x.side ≤ 9223372036854775807)∧((-9223372036854775808) ≤ i_5.x.id∧i_5.x.id ≤ 9223372036854775807)∧((-9223372036854775808) ≤ i_5.x.price∧i_5.x.price ≤ 9223372036854775807)∧(-9223372036854775808) ≤ i_5.x.qty∧i_5.x.qty ≤ 9223372036854775807)∧0 ≤ i_5.i∧i_5.i ≤ 1000000)∧∀ (o : Unit),True→∃ (i' : Sx.Ask),i'.kind = jL i_5.x∧i'.inst = zD i_5.x.inst 0 ((↑i_5.p.count : Int) - 1)∧i'.side = 1 + zD i_5.x.side 0 1∧(i'.id = if jL i_5.x = 1 then i_5.i else zD i_5.x.id 0 i_5.i)∧(i'.price = if (i_5.p.legs (zD i_5.x.inst 0 ((↑i_5.p.count : Int) - 1))).snd.snd = true then i_5.p.tick * (zD i_5.x.price 0 (7 : Int) - (4 : Int)) else i_5.p.tick * (zD i_5.x.price 0 (7 : Int) + (8 : Int)))∧i'.qty = 1 + zD i_5.x.qty 0 11∧I_2 i'∧zR i_3.snd = zR i_3.snd∧y4 i_1 = y4 i_1∧AObj.fro 1 (iE i_1.months) = AObj.fro 1 (iE i_1.months)∧AObj.fro 1 (iE i_1.settle) = AObj.fro 1 (iE i_1.settle)∧yU i = yU i∧AObj.fro 1 (iE i.x.settle) = AObj.fro 1 (iE i.x.settle)∧AObj.fro 1 (iE i.x.months) = AObj.fro 1 (iE i.x.months)
def Vmm (i : MmI) : Prop :=
  ∃ (i0 : Prd),∃ (I : Prd→Prop),(∃ (i_1 : Prd),sb i_1.code = sb i.x.code∧iE i_1.months = iE i.x.months∧i_1.tick = i.x.tick∧i_1.low = i.x.low∧i_1.high = i.x.high∧i_1.wide = i.x.wide∧i_1.rule = i.x.rule∧i_1.top = i.x.top∧i_1.least = i.x.least∧i_1.part = i.x.part∧iE i_1.settle = iE i.x.settle∧(((-9223372036854775808) ≤ i_1.tick∧i_1.tick ≤ 9223372036854775807)∧((-9223372036854775808) ≤ i_1.wide∧i_1.wide ≤ 9223372036854775807)∧((-9223372036854775808) ≤ i_1.rule∧i_1.rule ≤ 9223372036854775807)∧((-9223372036854775808) ≤ i_1.top∧i_1.top ≤ 9223372036854775807)∧((-9223372036854775808) ≤ i_1.least∧i_1.least ≤ 9223372036854775807)∧((-9223372036854775808) ≤ i_1.part∧i_1.part ≤ 9223372036854775807)∧i_1.months.length ≤ 9223372036854775807)∧∀ (o : Unit),True→∃ (i' : Prd),sb i'.code = sb [(206 : UInt8),(169 : UInt8)]∧i'.tick = yA i_1∧i'.low = (-20) * yA i_1∧i'.high = 100 * yA i_1∧i'.wide = yA i_1 * (5 + zD i_1.wide 0 60)∧i'.rule = 1 + zD i_1.rule 0 2∧i'.top = zD i_1.top 0 9∧i'.least = 1 + zD i_1.least 0 4∧i'.part = zD i_1.part 0 100∧AObj.fro 1 (iE i'.months) = AObj.fro 1 (iE (qC (kN i_1).toNat))∧AObj.fro 1 (iE i'.settle) = AObj.fro 1 (iE (xP (yA i_1) (kN i_1).toNat))∧I i'∧yU i = yU i∧AObj.fro 1 (iE i.x.settle) = AObj.fro 1 (iE i.x.settle)∧AObj.fro 1 (iE i.x.months) = AObj.fro 1 (iE i.x.months))∧∀ (i_1 : Prd),I i_1→∃ (i_2 : Prd),sb i_2.code = sb i_1.code∧iE i_2.months = iE i_1.months∧i_2.tick = i_1.tick∧i_2.low = i_1.low∧i_2.high = i_1.high∧i_2.wide = i_1.wide∧i_2.rule = i_1.rule∧i_2.top = i_1.top∧i_2.least = i_1.least∧i_2.part = i_1.part∧iE i_2.settle = iE i_1.settle∧(i_2.code.length ≤ 1099511627776∧i_2.months.length ≤ 1099511627776∧i_2.settle.length ≤ 1099511627776)∧(∀ (o : Unit),i_2.check = 0→∃ (i0 : Nat × MSt),(↑i0.fst : Int) = 0∧zR i0.snd = zR (gD i_2)∧∃ (I : Nat × MSt→Prop),∃ (μ : Nat × MSt→Nat),I i0∧∀ (i_3 : Nat × MSt),I i_3→∃ (i0 : Bool),∃ (I_1 : Bool→Prop),cnd (decide ((↑i_3.fst : Int) < (↑(List.map askE i.l).length : Int))) (∃ (i' : Bool),i' = decide ((↑i_3.fst : Int) < 40)∧I_1 i'∧zR i_3.snd = zR i_3.snd∧y4 i_1 = y4 i_1∧AObj.fro 1 (iE i_1.months) = AObj.fro 1 (iE i_1.months)∧AObj.fro 1 (iE i_1.settle) = AObj.fro 1 (iE i_1.settle)∧yU i = yU i∧AObj.fro 1 (iE i.x.settle) = AObj.fro 1 (iE i.x.settle)∧AObj.fro 1 (iE i.x.months) = AObj.fro 1 (iE i.x.months)) (∃ (i' : Bool),i' = false∧I_1 i'∧zR i_3.snd = zR i_3.snd∧y4 i_1 = y4 i_1∧AObj.fro 1 (iE i_1.months) = AObj.fro 1 (iE i_1.months)∧AObj.fro 1 (iE i_1.settle) = AObj.fro 1 (iE i_1.settle)∧yU i = yU i∧AObj.fro 1 (iE i.x.settle) = AObj.fro 1 (iE i.x.settle)∧AObj.fro 1 (iE i.x.months) = AObj.fro 1 (iE i.x.months))∧∀ (i_4 : Bool),I_1 i_4→cnd i_4 (∃ (i0 : Sx.Ask),∃ (I_2 : Sx.Ask→Prop),((0 ≤ (↑i_3.fst : Int)∧(↑i_3.fst : Int) < (↑(List.map askE i.l).length : Int))∧∃ (n : Int),∃ (n_1 : Int),∃ (n_2 : Int),∃ (n_3 : Int),∃ (n_4 : Int),∃ (n_5 : Int),zG (List.map askE i.l) (↑i_3.fst : Int).toNat 0 6 = some [D.v (.int .i64 n),D.v (.int .i64 n_1),D.v (.int .i64 n_2),D.v (.int .i64 n_3),D.v (.int .i64 n_4),D.v (.int .i64 n_5)]∧(zUo i i_1 o i_3 I_2 n n_1 n_2 n_3 n_4 n_5)∧True∧(sb i_1.code = sb i_1.code∧True∧i_1.tick = i_1.tick∧i_1.low = i_1.low∧i_1.high = i_1.high∧i_1.wide = i_1.wide∧i_1.rule = i_1.rule∧i_1.top = i_1.top∧i_1.least = i_1.least∧i_1.part = i_1.part∧True∧True)∧zUo i i_1 o i_3 I_2 n n_1 n_2 n_3 n_4 n_5)∧∀ (i_5 : Sx.Ask),I_2 i_5→cnd (decide (i_5.inst < (↑(iE i_1.months).length : Int))) (∃ (i_6 : SaI),i_6.inst = i_5.inst∧i_6.id = i_5.id∧zB i_6.sd = i_5.side∧i_6.price = i_5.price∧i_6.qty = i_5.qty∧zR i_6.s = zR i_3.snd∧((i_6.s.p.code.length ≤ 1099511627776∧i_6.s.p.months.length ≤ 1099511627776∧i_6.s.p.settle.length ≤ 1099511627776)∧i_6.s.books.length ≤ 1000000∧∀ (b : Book),b ∈ i_6.s.books→(b.a.slots.length ≤ 1000000∧(b.a.free ≠ 0→∃ (s : Slot),s ∈ b.a.slots∧s.used = false)∧∀ (q : qX),q ∈ b.a.queues→q.last = (-1) ∨ 0 ≤ q.last∧q.last < (↑b.a.slots.length : Int))∧b.a.queues.length ≤ 100000∧b.buys.length ≤ 100000∧b.sells.length ≤ 100000∧b.spare.length ≤ 100000)∧∀ (o : Unit),True→∃ (i' : Nat × MSt),(↑i'.fst : Int) = IntKind.i64.wrap ((↑i_3.fst : Int) + 1)∧zR i'.snd = zR (MSt.addF i_6).fst∧I i'∧μ i' < μ i_3∧y4 i_1 = y4 i_1∧AObj.fro 1 (iE i_1.months) = AObj.fro 1 (iE i_1.months)∧AObj.fro 1 (iE i_1.settle) = AObj.fro 1 (iE i_1.settle)∧yU i = yU i∧AObj.fro 1 (iE i.x.settle) = AObj.fro 1 (iE i.x.settle)∧AObj.fro 1 (iE i.x.months) = AObj.fro 1 (iE i.x.months)) (∃ (i' : Nat × MSt),(↑i'.fst : Int) = IntKind.i64.wrap ((↑i_3.fst : Int) + 1)∧zR i'.snd = zR i_3.snd∧I i'∧μ i' < μ i_3∧y4 i_1 = y4 i_1∧AObj.fro 1 (iE i_1.months) = AObj.fro 1 (iE i_1.months)∧AObj.fro 1 (iE i_1.settle) = AObj.fro 1 (iE i_1.settle)∧yU i = yU i∧AObj.fro 1 (iE i.x.settle) = AObj.fro 1 (iE i.x.settle)∧AObj.fro 1 (iE i.x.months) = AObj.fro 1 (iE i.x.months))) (∃ (i0 : Sx.Ask),∃ (I : Sx.Ask→Prop),((∃ (i_5 : WiI),i_5.n = i.inst∧i_5.lo = 0∧i_5.hi = IntKind.i64.wrap ((↑(iE i_1.months).length : Int) - 1)∧(((-9223372036854775808) ≤ i_5.n∧i_5.n ≤ 9223372036854775807)∧(-1000000) ≤ i_5.lo∧i_5.lo ≤ i_5.hi∧i_5.hi ≤ 1000000)∧∀ (o : Unit),True→(sb i_1.code = sb i_1.code∧True∧i_1.tick = i_1.tick∧i_1.low = i_1.low∧i_1.high = i_1.high∧i_1.wide = i_1.wide∧i_1.rule = i_1.rule∧i_1.top = i_1.top∧i_1.least = i_1.least∧i_1.part = i_1.part∧True∧True)∧(zNk i I i_1 o i_3 i_5)∧(sb i_1.code = sb i_1.code∧True∧i_1.tick = i_1.tick∧i_1.low = i_1.low∧i_1.high = i_1.high∧i_1.wide = i_1.wide∧i_1.rule = i_1.rule∧i_1.top = i_1.top∧i_1.least = i_1.least∧i_1.part = i_1.part∧True∧True)∧zNk i I i_1 o i_3 i_5)∧(↑(iE i_1.months).length : Int) = (↑(iE i_1.months).length : Int)∧True∧(sb i_1.code = sb i_1.code∧True∧i_1.tick = i_1.tick∧i_1.low = i_1.low∧i_1.high = i_1.high∧i_1.wide = i_1.wide∧i_1.rule = i_1.rule∧i_1.top = i_1.top∧i_1.least = i_1.least∧i_1.part = i_1.part∧True∧True)∧∃ (i_5 : WiI),i_5.n = i.inst∧i_5.lo = 0∧i_5.hi = IntKind.i64.wrap ((↑(iE i_1.months).length : Int) - 1)∧(((-9223372036854775808) ≤ i_5.n∧i_5.n ≤ 9223372036854775807)∧(-1000000) ≤ i_5.lo∧i_5.lo ≤ i_5.hi∧i_5.hi ≤ 1000000)∧∀ (o : Unit),True→(sb i_1.code = sb i_1.code∧True∧i_1.tick = i_1.tick∧i_1.low = i_1.low∧i_1.high = i_1.high∧i_1.wide = i_1.wide∧i_1.rule = i_1.rule∧i_1.top = i_1.top∧i_1.least = i_1.least∧i_1.part = i_1.part∧True∧True)∧zNk i I i_1 o i_3 i_5)∧∀ (i_5 : Sx.Ask),I i_5→∃ (i_6 : WiI),i_6.n = i.inst∧i_6.lo = 0∧i_6.hi = IntKind.i64.wrap ((↑(iE i_1.months).length : Int) - 1)∧(((-9223372036854775808) ≤ i_6.n∧i_6.n ≤ 9223372036854775807)∧(-1000000) ≤ i_6.lo∧i_6.lo ≤ i_6.hi∧i_6.hi ≤ 1000000)∧∀ (o : Unit),True→∃ (i0 : Sx.Ask),i0.kind = i_5.kind∧i0.inst = zD i_6.n i_6.lo i_6.hi∧i0.side = i_5.side∧i0.id = i_5.id∧i0.price = i_5.price∧i0.qty = i_5.qty∧∃ (I : Sx.Ask→Prop),(∃ (i_7 : WiI),i_7.n = i.price∧i_7.lo = 0∧i_7.hi = 7∧(((-9223372036854775808) ≤ i_7.n∧i_7.n ≤ 9223372036854775807)∧(-1000000) ≤ i_7.lo∧i_7.lo ≤ i_7.hi∧i_7.hi ≤ 1000000)∧∀ (o : Unit),True→i_1.tick = i_1.tick∧∃ (i' : Sx.Ask),i'.kind = i0.kind∧i'.inst = i0.inst∧i'.side = i0.side∧i'.id = i0.id∧i'.price = IntKind.i64.wrap (i_1.tick * IntKind.i64.wrap (8 + zD i_7.n i_7.lo i_7.hi))∧i'.qty = i0.qty∧I i'∧zR i_3.snd = zR i_3.snd∧y4 i_1 = y4 i_1∧AObj.fro 1 (iE i_1.months) = AObj.fro 1 (iE i_1.months)∧AObj.fro 1 (iE i_1.settle) = AObj.fro 1 (iE i_1.settle)∧yU i = yU i∧AObj.fro 1 (iE i.x.settle) = AObj.fro 1 (iE i.x.settle)∧AObj.fro 1 (iE i.x.months) = AObj.fro 1 (iE i.x.months))∧∀ (i_7 : Sx.Ask),I i_7→∃ (i_8 : SoI),i_8.inst = i_7.inst∧zB i_8.sd = IntKind.i64.wrap (3 - i_7.side)∧zR i_8.s = zR i_3.snd∧(i_8.s.Rep i_8.p i_8.B∧i_8.B.length ≤ 1000)∧∀ (o : Unit),True→∃ (i_9 : RunI),i_9.inst = i_7.inst∧zB i_9.sd = i_7.side∧i_9.price = i_7.price∧i_9.q = IntKind.i64.wrap (5 * i_7.qty)∧zR i_9.s = zR i_8.s∧(i_9.s.Rep i_9.p i_9.B∧BOk i_9.p i_9.B∧(0 ≤ i_9.inst∧i_9.inst < (↑i_9.B.length : Int))∧1 ≤ i_9.q∧i_9.q ≤ 1000000)∧∀ (o : MSt),o.Rep i_9.p i_9.r.B→∃ (i0 : Nat × Int),i0.snd = IntKind.i64.wrap (5 * i_7.qty)∧(↑i0.fst : Int) = 0∧(↑i0.fst : Int) = 0∧∃ (I : Nat × Int→Prop),∃ (μ : Nat × Int→Nat),I i0∧∀ (i_10 : Nat × Int),I i_10→∃ (i0 : Bool),∃ (I_2 : Bool→Prop),cnd (decide ((↑i_10.fst : Int) < (↑(List.map lvE (xL (atB i_8.B i_8.inst) (zB i_8.sd))).length : Int))) (∃ (i' : Bool),i' = decide (i_10.snd > 0)∧I_2 i'∧zR o = zR o∧AObj.own 41 4 (List.map z8 i_9.r.steps) = AObj.own 41 4 (List.map z8 i_9.r.steps)∧qH i_8 = qH i_8∧qG i_7 = qG i_7∧y4 i_1 = y4 i_1∧AObj.fro 1 (iE i_1.months) = AObj.fro 1 (iE i_1.months)∧AObj.fro 1 (iE i_1.settle) = AObj.fro 1 (iE i_1.settle)∧yU i = yU i∧AObj.fro 1 (iE i.x.settle) = AObj.fro 1 (iE i.x.settle)∧AObj.fro 1 (iE i.x.months) = AObj.fro 1 (iE i.x.months)) (∃ (i' : Bool),i' = false∧I_2 i'∧zR o = zR o∧AObj.own 41 4 (List.map z8 i_9.r.steps) = AObj.own 41 4 (List.map z8 i_9.r.steps)∧qH i_8 = qH i_8∧qG i_7 = qG i_7∧y4 i_1 = y4 i_1∧AObj.fro 1 (iE i_1.months) = AObj.fro 1 (iE i_1.months)∧AObj.fro 1 (iE i_1.settle) = AObj.fro 1 (iE i_1.settle)∧yU i = yU i∧AObj.fro 1 (iE i.x.settle) = AObj.fro 1 (iE i.x.settle)∧AObj.fro 1 (iE i.x.months) = AObj.fro 1 (iE i.x.months))∧∀ (i_11 : Bool),I_2 i_11→cnd i_11 (∃ (i0 : Bool),∃ (I_3 : Bool→Prop),cnd (i_7.side == 1) ((0 ≤ (↑i_10.fst : Int)∧(↑i_10.fst : Int) < (↑(List.map lvE (xL (atB i_8.B i_8.inst) (zB i_8.sd))).length : Int))∧∃ (n : Int),zG (List.map lvE (xL (atB i_8.B i_8.inst) (zB i_8.sd))) (↑i_10.fst : Int).toNat ((0 : Nat) + (0 : Nat)) 1 = some [D.v (.int .i64 n)]∧cnd (decide (n > i_7.price)) (∃ (i' : Bool),i' = true∧I_3 i'∧zR o = zR o∧AObj.own 41 4 (List.map z8 i_9.r.steps) = AObj.own 41 4 (List.map z8 i_9.r.steps)∧qH i_8 = qH i_8∧qG i_7 = qG i_7∧y4 i_1 = y4 i_1∧AObj.fro 1 (iE i_1.months) = AObj.fro 1 (iE i_1.months)∧AObj.fro 1 (iE i_1.settle) = AObj.fro 1 (iE i_1.settle)∧yU i = yU i∧AObj.fro 1 (iE i.x.settle) = AObj.fro 1 (iE i.x.settle)∧AObj.fro 1 (iE i.x.months) = AObj.fro 1 (iE i.x.months)) (cnd (i_7.side == 2) ((0 ≤ (↑i_10.fst : Int)∧(↑i_10.fst : Int) < (↑(List.map lvE (xL (atB i_8.B i_8.inst) (zB i_8.sd))).length : Int))∧∃ (n : Int),zG (List.map lvE (xL (atB i_8.B i_8.inst) (zB i_8.sd))) (↑i_10.fst : Int).toNat ((0 : Nat) + (0 : Nat)) 1 = some [D.v (.int .i64 n)]∧∃ (i' : Bool),i' = decide (n < i_7.price)∧I_3 i'∧zR o = zR o∧AObj.own 41 4 (List.map z8 i_9.r.steps) = AObj.own 41 4 (List.map z8 i_9.r.steps)∧qH i_8 = qH i_8∧qG i_7 = qG i_7∧y4 i_1 = y4 i_1∧AObj.fro 1 (iE i_1.months) = AObj.fro 1 (iE i_1.months)∧AObj.fro 1 (iE i_1.settle) = AObj.fro 1 (iE i_1.settle)∧yU i = yU i∧AObj.fro 1 (iE i.x.settle) = AObj.fro 1 (iE i.x.settle)∧AObj.fro 1 (iE i.x.months) = AObj.fro 1 (iE i.x.months)) (∃ (i' : Bool),i' = false∧I_3 i'∧zR o = zR o∧AObj.own 41 4 (List.map z8 i_9.r.steps) = AObj.own 41 4 (List.map z8 i_9.r.steps)∧qH i_8 = qH i_8∧qG i_7 = qG i_7∧y4 i_1 = y4 i_1∧AObj.fro 1 (iE i_1.months) = AObj.fro 1 (iE i_1.months)∧AObj.fro 1 (iE i_1.settle) = AObj.fro 1 (iE i_1.settle)∧yU i = yU i∧AObj.fro 1 (iE i.x.settle) = AObj.fro 1 (iE i.x.settle)∧AObj.fro 1 (iE i.x.months) = AObj.fro 1 (iE i.x.months)))) (cnd (i_7.side == 2) ((0 ≤ (↑i_10.fst : Int)∧(↑i_10.fst : Int) < (↑(List.map lvE (xL (atB i_8.B i_8.inst) (zB i_8.sd))).length : Int))∧∃ (n : Int),zG (List.map lvE (xL (atB i_8.B i_8.inst) (zB i_8.sd))) (↑i_10.fst : Int).toNat ((0 : Nat) + (0 : Nat)) 1 = some [D.v (.int .i64 n)]∧∃ (i' : Bool),i' = decide (n < i_7.price)∧I_3 i'∧zR o = zR o∧AObj.own 41 4 (List.map z8 i_9.r.steps) = AObj.own 41 4 (List.map z8 i_9.r.steps)∧qH i_8 = qH i_8∧qG i_7 = qG i_7∧y4 i_1 = y4 i_1∧AObj.fro 1 (iE i_1.months) = AObj.fro 1 (iE i_1.months)∧AObj.fro 1 (iE i_1.settle) = AObj.fro 1 (iE i_1.settle)∧yU i = yU i∧AObj.fro 1 (iE i.x.settle) = AObj.fro 1 (iE i.x.settle)∧AObj.fro 1 (iE i.x.months) = AObj.fro 1 (iE i.x.months)) (∃ (i' : Bool),i' = false∧I_3 i'∧zR o = zR o∧AObj.own 41 4 (List.map z8 i_9.r.steps) = AObj.own 41 4 (List.map z8 i_9.r.steps)∧qH i_8 = qH i_8∧qG i_7 = qG i_7∧y4 i_1 = y4 i_1∧AObj.fro 1 (iE i_1.months) = AObj.fro 1 (iE i_1.months)∧AObj.fro 1 (iE i_1.settle) = AObj.fro 1 (iE i_1.settle)∧yU i = yU i∧AObj.fro 1 (iE i.x.settle) = AObj.fro 1 (iE i.x.settle)∧AObj.fro 1 (iE i.x.months) = AObj.fro 1 (iE i.x.months)))∧∀ (i_12 : Bool),I_3 i_12→cnd i_12 (cnd ((↑i_10.fst : Int) == (↑(List.map z8 i_9.r.steps).length : Int)) (cnd (i_9.r.left == i_10.snd) (∃ (i : Unit),True∧∀ (o : Unit),True→∃ (o : Unit),true = true∧True) (∃ (o : Unit),true = false∧True)) (∃ (o : Unit),true = false∧True)) ((0 ≤ (↑i_10.fst : Int)∧(↑i_10.fst : Int) < (↑(List.map lvE (xL (atB i_8.B i_8.inst) (zB i_8.sd))).length : Int))∧∃ (n : Int),zG (List.map lvE (xL (atB i_8.B i_8.inst) (zB i_8.sd))) (↑i_10.fst : Int).toNat ((0 : Nat) + (1 : Nat)) 1 = some [D.v (.int .i64 n)]∧∃ (i0 : Int),∃ (I_4 : Int→Prop),cnd (decide (i_10.snd < n)) (∃ (i' : Int),i' = i_10.snd∧I_4 i'∧zR o = zR o∧AObj.own 41 4 (List.map z8 i_9.r.steps) = AObj.own 41 4 (List.map z8 i_9.r.steps)∧qH i_8 = qH i_8∧qG i_7 = qG i_7∧y4 i_1 = y4 i_1∧AObj.fro 1 (iE i_1.months) = AObj.fro 1 (iE i_1.months)∧AObj.fro 1 (iE i_1.settle) = AObj.fro 1 (iE i_1.settle)∧yU i = yU i∧AObj.fro 1 (iE i.x.settle) = AObj.fro 1 (iE i.x.settle)∧AObj.fro 1 (iE i.x.months) = AObj.fro 1 (iE i.x.months)) (∃ (i' : Int),i' = n∧I_4 i'∧zR o = zR o∧AObj.own 41 4 (List.map z8 i_9.r.steps) = AObj.own 41 4 (List.map z8 i_9.r.steps)∧qH i_8 = qH i_8∧qG i_7 = qG i_7∧y4 i_1 = y4 i_1∧AObj.fro 1 (iE i_1.months) = AObj.fro 1 (iE i_1.months)∧AObj.fro 1 (iE i_1.settle) = AObj.fro 1 (iE i_1.settle)∧yU i = yU i∧AObj.fro 1 (iE i.x.settle) = AObj.fro 1 (iE i.x.settle)∧AObj.fro 1 (iE i.x.months) = AObj.fro 1 (iE i.x.months))∧∀ (i_13 : Int),I_4 i_13→∃ (i0 : Bool),∃ (I_5 : Bool→Prop),cnd (decide ((↑i_10.fst : Int) ≥ (↑(List.map z8 i_9.r.steps).length : Int))) (∃ (i' : Bool),i' = true∧I_5 i'∧zR o = zR o∧AObj.own 41 4 (List.map z8 i_9.r.steps) = AObj.own 41 4 (List.map z8 i_9.r.steps)∧qH i_8 = qH i_8∧qG i_7 = qG i_7∧y4 i_1 = y4 i_1∧AObj.fro 1 (iE i_1.months) = AObj.fro 1 (iE i_1.months)∧AObj.fro 1 (iE i_1.settle) = AObj.fro 1 (iE i_1.settle)∧yU i = yU i∧AObj.fro 1 (iE i.x.settle) = AObj.fro 1 (iE i.x.settle)∧AObj.fro 1 (iE i.x.months) = AObj.fro 1 (iE i.x.months)) ((0 ≤ (↑i_10.fst : Int)∧(↑i_10.fst : Int) < (↑(List.map z8 i_9.r.steps).length : Int))∧∃ (b : Bool),zG (List.map z8 i_9.r.steps) (↑i_10.fst : Int).toNat ((0 : Nat) + (2 : Nat)) 1 = some [D.v (.bool b)]∧cnd b (∃ (i' : Bool),i' = true∧I_5 i'∧zR o = zR o∧AObj.own 41 4 (List.map z8 i_9.r.steps) = AObj.own 41 4 (List.map z8 i_9.r.steps)∧qH i_8 = qH i_8∧qG i_7 = qG i_7∧y4 i_1 = y4 i_1∧AObj.fro 1 (iE i_1.months) = AObj.fro 1 (iE i_1.months)∧AObj.fro 1 (iE i_1.settle) = AObj.fro 1 (iE i_1.settle)∧yU i = yU i∧AObj.fro 1 (iE i.x.settle) = AObj.fro 1 (iE i.x.settle)∧AObj.fro 1 (iE i.x.months) = AObj.fro 1 (iE i.x.months)) ((0 ≤ (↑i_10.fst : Int)∧(↑i_10.fst : Int) < (↑(List.map z8 i_9.r.steps).length : Int))∧∃ (n : Int),zG (List.map z8 i_9.r.steps) (↑i_10.fst : Int).toNat ((0 : Nat) + (0 : Nat)) 1 = some [D.v (.int .i64 n)]∧(0 ≤ (↑i_10.fst : Int)∧(↑i_10.fst : Int) < (↑(List.map lvE (xL (atB i_8.B i_8.inst) (zB i_8.sd))).length : Int))∧∃ (n_1 : Int),zG (List.map lvE (xL (atB i_8.B i_8.inst) (zB i_8.sd))) (↑i_10.fst : Int).toNat ((0 : Nat) + (0 : Nat)) 1 = some [D.v (.int .i64 n_1)]∧cnd (n != n_1) (∃ (i' : Bool),i' = true∧I_5 i'∧zR o = zR o∧AObj.own 41 4 (List.map z8 i_9.r.steps) = AObj.own 41 4 (List.map z8 i_9.r.steps)∧qH i_8 = qH i_8∧qG i_7 = qG i_7∧y4 i_1 = y4 i_1∧AObj.fro 1 (iE i_1.months) = AObj.fro 1 (iE i_1.months)∧AObj.fro 1 (iE i_1.settle) = AObj.fro 1 (iE i_1.settle)∧yU i = yU i∧AObj.fro 1 (iE i.x.settle) = AObj.fro 1 (iE i.x.settle)∧AObj.fro 1 (iE i.x.months) = AObj.fro 1 (iE i.x.months)) ((0 ≤ (↑i_10.fst : Int)∧(↑i_10.fst : Int) < (↑(List.map z8 i_9.r.steps).length : Int))∧∃ (n : Int),zG (List.map z8 i_9.r.steps) (↑i_10.fst : Int).toNat ((0 : Nat) + (1 : Nat)) 1 = some [D.v (.int .i64 n)]∧∃ (i' : Bool),i' = (n != i_13)∧I_5 i'∧zR o = zR o∧AObj.own 41 4 (List.map z8 i_9.r.steps) = AObj.own 41 4 (List.map z8 i_9.r.steps)∧qH i_8 = qH i_8∧qG i_7 = qG i_7∧y4 i_1 = y4 i_1∧AObj.fro 1 (iE i_1.months) = AObj.fro 1 (iE i_1.months)∧AObj.fro 1 (iE i_1.settle) = AObj.fro 1 (iE i_1.settle)∧yU i = yU i∧AObj.fro 1 (iE i.x.settle) = AObj.fro 1 (iE i.x.settle)∧AObj.fro 1 (iE i.x.months) = AObj.fro 1 (iE i.x.months))))∧∀ (i_14 : Bool),I_5 i_14→cnd i_14 (∃ (o : Unit),true = false∧True) (∃ (i' : Nat × Int),i'.snd = IntKind.i64.wrap (i_10.snd - i_13)∧(↑i'.fst : Int) = IntKind.i64.wrap ((↑i_10.fst : Int) + 1)∧(↑i'.fst : Int) = IntKind.i64.wrap ((↑i_10.fst : Int) + 1)∧I i'∧μ i' < μ i_10∧zR o = zR o∧AObj.own 41 4 (List.map z8 i_9.r.steps) = AObj.own 41 4 (List.map z8 i_9.r.steps)∧qH i_8 = qH i_8∧qG i_7 = qG i_7∧y4 i_1 = y4 i_1∧AObj.fro 1 (iE i_1.months) = AObj.fro 1 (iE i_1.months)∧AObj.fro 1 (iE i_1.settle) = AObj.fro 1 (iE i_1.settle)∧yU i = yU i∧AObj.fro 1 (iE i.x.settle) = AObj.fro 1 (iE i.x.settle)∧AObj.fro 1 (iE i.x.months) = AObj.fro 1 (iE i.x.months)))) (cnd ((↑i_10.fst : Int) == (↑(List.map z8 i_9.r.steps).length : Int)) (cnd (i_9.r.left == i_10.snd) (∃ (i : Unit),True∧∀ (o : Unit),True→∃ (o : Unit),true = true∧True) (∃ (o : Unit),true = false∧True)) (∃ (o : Unit),true = false∧True))))∧∀ (o : Unit),i_2.check ≠ 0→∃ (o : Unit),true = false∧True
theorem eqmm (i : MmI) : Vmm i = walk Try.prog ([(6,kprodC),(7,newSC),(8,smallC),(9,saddC),(15,withinC),(16,sladC),(10,runC),(11,known16C)]) 0 (mmJ) (mmA i) [] Try.f5 (Try.f5.body.getD .skip) (mmC.pat i) (mmC.pre i) (mmC.alts i) := by kernel_rfl
open Go Cv Go.Proofs
@[reducible] def zCp (i : SoI) : Prop := ∃ (o : Unit),sb i.s.p.code = sb i.s.p.code∧i.s.p.tick = i.s.p.tick∧i.s.p.low = i.s.p.low∧i.s.p.high = i.s.p.high∧i.s.p.wide = i.s.p.wide∧i.s.p.rule = i.s.p.rule∧i.s.p.top = i.s.p.top∧i.s.p.least = i.s.p.least∧i.s.p.part = i.s.p.part∧AObj.objs 64 Book 6 zN i.s.books none = AObj.objs 64 Book 6 zN i.s.books none∧yH i.s.wh = yH i.s.wh∧AObj.fro 1 (iE i.s.p.months) = AObj.fro 1 (iE i.s.p.months)∧AObj.fro 1 (iE i.s.p.settle) = AObj.fro 1 (iE i.s.p.settle)∧List.map lvE (xL (atB i.B i.inst) (zB i.sd)) = []∧True
def zMu (i : SoI) : Prop :=
  cnd (decide (i.inst ≥ 0)) (cnd (!decide (i.inst < (↑i.s.books.length : Int))) (zCp i) ((0 ≤ i.inst∧i.inst < (↑i.s.books.length : Int))∧i.inst.toNat < i.s.books.length∧∃ (x : Book),i.s.books[i.inst.toNat]? = some x∧∃ (i_1 : BkT),zB i_1.s = zB i.sd∧z9 i_1.b = z9 x∧i_1.b.Rep i_1.L∧∀ (o : Unit),True→∃ (x : Book),z9 i_1.b = z9 x∧i.inst.toNat = i.inst.toNat∧i.inst.toNat < i.s.books.length∧∃ (o : Unit),sb i.s.p.code = sb i.s.p.code∧i.s.p.tick = i.s.p.tick∧i.s.p.low = i.s.p.low∧i.s.p.high = i.s.p.high∧i.s.p.wide = i.s.p.wide∧i.s.p.rule = i.s.p.rule∧i.s.p.top = i.s.p.top∧i.s.p.least = i.s.p.least∧i.s.p.part = i.s.p.part∧AObj.objs 64 Book 6 zN i.s.books none = AObj.objs 64 Book 6 zN (i.s.books.set i.inst.toNat x) none∧yH i.s.wh = yH i.s.wh∧AObj.fro 1 (iE i.s.p.months) = AObj.fro 1 (iE i.s.p.months)∧AObj.fro 1 (iE i.s.p.settle) = AObj.fro 1 (iE i.s.p.settle)∧List.map lvE (xL (atB i.B i.inst) (zB i.sd)) = List.map lvE (xL i_1.L (zB i_1.s))∧True)) (zCp i)
theorem z6b (i : SoI) : zMu i = walk Try.prog ([(37,ladC)]) 1 ([]) ([]) [0] Try.f16 (Try.f16.body.getD .skip) (sladC.pat i) (sladC.pre i) (sladC.alts i) := by kernel_rfl
theorem z6a (hG : GOk Try.prog ([(37,ladC)])) (h : ∀ (i : SoI),sladC.cnd i → zMu i) : sladC.ok Try.prog 16 := zE mixed ([(37,ladC)]) hG 1 (fun (i : SoI) => []) (fun (i : SoI) => []) [0] Try.func16 (by kernel_rfl) (by kernel_rfl) (by kernel_rfl) (fun _ => by kernel_rfl) (fun (i : SoI) hc => Eq.mp (z6b i) (h i hc))
open Go Cv Go.Proofs
theorem z1m {B : List (List zK)} {inst : Int} {L : List zK} (h0 : 0 ≤ inst) (hL : B[inst.toNat]? = some L) : atB B inst = L := by
  rw [atB,if_neg (by omega),zV hL]
theorem z0a {B : List (List zK)} {inst : Int} (h : inst < 0 ∨ (B.length : Int) ≤ inst) : atB B inst = [] := by
  rw [atB]
  split
  · rfl
  · rw [List.getD_eq_getElem?_getD,List.getElem?_eq_none (by omega)]; rfl
theorem z9s (i : SoI) (h : sladC.cnd i) : zMu i := by
  obtain ⟨hR,hB⟩ : i.s.Rep i.p i.B ∧ i.B.length ≤ 1000 := h
  have hbl := hR.bl
  have out (hx : i.inst < 0 ∨ (i.B.length : Int) ≤ i.inst) : List.map lvE (xL (atB i.B i.inst) (zB i.sd)) = [] := by
    rw [z0a hx]; rfl
  unfold zMu zCp
  refine zT (fun c => Cv.cnd.mk (fun d => ?_) (fun d => ?_)) (fun c => ?_)
  · have d : ¬ i.inst < (i.s.books.length : Int) := by simpa using d
    rw [out (.inr (by omega))]; exact ⟨(),by (repeat' (first|exact trivial|exact rfl|apply And.intro))⟩
  · have d : i.inst < (i.s.books.length : Int) := by simpa using d
    obtain ⟨b,hb⟩ := yB (l := i.s.books) (i := i.inst.toNat) (by omega)
    obtain ⟨L,hL⟩ := yB (l := i.B) (i := i.inst.toNat) (by omega)
    refine ⟨⟨c,d⟩,by omega,b,hb,⟨b,L,i.sd⟩,rfl,rfl,hR.bk _ b L hb hL,fun _ _ => ⟨b,rfl,rfl,by omega,?_⟩⟩
    rw [kW hb,z1m c hL]
    exact ⟨(),by (repeat' (first|exact trivial|exact rfl|apply And.intro))⟩
  · rw [out (.inl (by omega))]; exact ⟨(),by (repeat' (first|exact trivial|exact rfl|apply And.intro))⟩
theorem slad_ok : sladC.ok Try.prog 16 := z6a (gokc z3b gok0) z9s
open Go Cv Go.Proofs
def tX (s : Int) (F : List zK) : Prop := F.Pairwise fun o o' => btr s o'.price o.price = false
def vS (L : List zK) (s : Int) : List zK := L.filter fun o => decide (o.side = s)
structure BWf (p : Prd) (B : List (List zK)) : Prop where
  ok : BOk p B
  od : zYl B
  ub : ((whL 0 B).map (·.1)).Nodup
  srt : ∀ (k : Nat) (L : List zK),B[k]? = some L → ∀ s,s = 1 ∨ s = 2 → tX s (vS L s)
theorem z3p {s x y : Int} (h : btr s y x = false) (h2 : btr s x y = false) : x = y := by
  rw [btr] at h h2
  split at h
  · rename_i e; rw [if_pos e] at h2; have := of_decide_eq_false h; have := of_decide_eq_false h2; omega
  · rename_i e; rw [if_neg e] at h2; have := of_decide_eq_false h; have := of_decide_eq_false h2; omega
theorem zGy {s : Int} {b : Book} {Q : List (List Nat)} : ∀ {R : List y5},(R.Pairwise fun r r' => btr s r.price r'.price = true) → tX s (R.flatMap (b.rOrds Q s))
  | [],_ => List.Pairwise.nil
  | r :: R,h => by
    rw [List.pairwise_cons] at h
    rw [List.flatMap_cons,tX,List.pairwise_append]
    refine ⟨List.pairwise_of_forall_mem_list fun o ho o' ho' => ?_,zGy h.2,fun o ho o' ho' => ?_⟩
    · rw [(xB ho).2,(xB ho').2]; exact uT _ _
    · obtain ⟨r',hr',ho'⟩ := List.mem_flatMap.1 ho'
      rw [(xB ho).2,(xB ho').2]; exact zEm (h.1 r' hr')
theorem Book.Rep.srt {b : Book} {L : List zK} (h : b.Rep L) {s : Int} (hs : s = 1 ∨ s = 2) : tX s (vS L s) := by
  obtain ⟨Q,c,ht,rfl⟩ := h
  rw [vS,eM hs]
  exact zGy (c.srt s hs)
theorem MSt.Rep.wf {s : MSt} {p : Prd} {B : List (List zK)} (h : s.Rep p B) (hb : BOk p B) : BWf p B := by
  refine ⟨hb,h.ords,h.ids,fun k L hL => ?_⟩
  obtain ⟨b,hb⟩ := yB (l := s.books) (i := k) (by rw [h.bl]; exact (List.getElem?_eq_some_iff.1 hL).1)
  exact fun s hs => (h.bk k b L hb hL).srt hs
theorem zSk {L : List zK} (h : ∀ o ∈ L,lZ o) (hn : (L.map (·.id)).Nodup) (id q : Int) : ∀ o ∈ (yV L id q).1,lZ o := by
  intro o ho
  rw [yV] at ho
  split at ho
  · exact h o ho
  split at ho
  · exact h o ho
  rename_i hb
  obtain ⟨o',ho',e⟩ := List.mem_filterMap.1 ho
  have h0 := h o' ho'
  split at e
  · rename_i e1
    have hg := wR hn ho'
    rw [e1] at hg
    rw [hg] at hb
    split at e
    · cases e
    · rename_i e2
      cases e
      have := h0.q
      exact ⟨h0.s,by dsimp only;omega⟩
  · cases e; exact h0
theorem zRh (L : List zK) (id q : Int) : (yV L id q).1.length ≤ L.length := by
  rw [yV]
  split
  · exact Nat.le_refl _
  split
  · exact Nat.le_refl _
  exact List.length_filterMap_le _ _
theorem zRi {L : List zK} {s : Int} (h : tX s (vS L s)) (id q : Int) : tX s (vS (yV L id q).1 s) := by
  rw [yV]
  split
  · exact h
  split
  · exact h
  have e : vS (kY L id q) s = kY (vS L s) id q := by
    rw [vS,vS,kY,kY,List.filter_filterMap,List.filterMap_filter]
    refine vF fun o _ => ?_
    by_cases e1 : o.id = id
    · rw [if_pos e1]
      by_cases e2 : o.qty = q
      · rw [if_pos e2]; simp
      · rw [if_neg e2]; by_cases e3 : o.side = s <;> simp [Option.filter,e3]
    · rw [if_neg e1]; by_cases e3 : o.side = s <;> simp [Option.filter,e3]
  rw [e,kY]
  refine List.Pairwise.filterMap _ (fun a a' haa b hb b' hb' => ?_) h
  have g : ∀ {a b : zK},(if a.id = id then (if a.qty = q then none else some { a with qty := a.qty - q }) else some a) = some b → b.price = a.price := by
    intro a b e
    split at e
    · split at e
      · cases e
      · cases e; rfl
    · cases e; rfl
  rw [g hb,g hb']; exact haa
theorem zYt {B : List (List zK)} (h : ((whL 0 B).map (·.1)).Nodup) {k : Nat} {L L' : List zK} (hL : B[k]? = some L) (hs : (L'.map (·.id)).Sublist (L.map (·.id))) : ((whL 0 (B.set k L')).map (·.1)).Nodup := by
  have hk := (List.getElem?_eq_some_iff.1 hL).1
  obtain ⟨rest,hr⟩ := nR (B := B) 0 k hk
  have h0 := hr L
  rw [kW hL] at h0
  have h1 := (h0.map (·.1)).nodup_iff.1 h
  refine ((hr L').map (·.1)).nodup_iff.2 ?_
  rw [List.map_append,List.map_map] at h1 ⊢
  exact h1.sublist (List.Sublist.append hs (List.Sublist.refl _))
theorem BWf.take {p : Prd} {B : List (List zK)} (h : BWf p B) (id q : Int) : BWf p (qP B id q).1 := by
  refine ⟨h.ok.take id q,?_,?_,?_⟩
  all_goals
    rw [qP]
    cases hi : wW B id with
    | none => first | exact h.od | exact h.ub | exact h.srt
    | some k =>
      obtain ⟨L,hL,hh⟩ := j0 hi
      have ho := h.od k L hL
      dsimp only
      rw [zV hL]
      first
      | (intro j M hM
         rcases jY hM with ⟨rfl,rfl⟩ | ⟨_,hM⟩
         · refine ⟨zSk ho.1 ho.2.1 id q,?_,Nat.le_trans (zRh L id q) ho.2.2⟩
           rcases rO ho.2.1 id q with ⟨e,_⟩ | ⟨e,_⟩
           · rw [e]; exact ho.2.1
           · rw [e]; exact ho.2.1.sublist (List.Sublist.map _ List.filter_sublist)
         · exact h.od j M hM)
      | (refine zYt h.ub hL ?_
         rcases rO ho.2.1 id q with ⟨e,_⟩ | ⟨e,_⟩
         · rw [e]; exact List.Sublist.refl _
         · rw [e]; exact List.Sublist.map _ List.filter_sublist)
      | (intro j M hM s hs
         rcases jY hM with ⟨rfl,rfl⟩ | ⟨_,hM⟩
         · exact zRi (h.srt _ L hL s hs) id q
         · exact h.srt j M hM s hs)
theorem BWf.takes {p : Prd} : ∀ {fs : List dJ} {B : List (List zK)},BWf p B → BWf p (y6 B fs)
  | [],B,h => h
  | f :: fs,B,h => BWf.takes (fs := fs) (h.take f.id f.qty)
theorem BWf.inst {p : Prd} {B : List (List zK)} (h : BWf p B) {k : Nat} {L : List zK} (hL : B[k]? = some L) {id : Int} (hid : id ∈ L.map (·.id)) : wW B id = some k := by
  cases hi : wW B id with
  | none =>
    have := sJ hi L (List.mem_of_getElem? hL)
    rw [hasId_iff.2 hid] at this; cases this
  | some j =>
    obtain ⟨M,hM,hh⟩ := j0 hi
    rw [zTh h.ub hM hL (hasId_iff.1 hh) hid]
theorem mY {p : Prd} {k : Nat} {i s : Int} : ∀ {os : List zK} {B : List (List zK)} {L : List zK},BWf p B → B[k]? = some L → (∀ o ∈ os,o ∈ L) → (os.map (·.id)).Nodup →
    y6 B (yW i s os (os.map (·.qty))) = B.set k (L.filter fun o => !decide (o.id ∈ os.map (·.id)))
  | [],B,L,h,hL,_,_ => by
    show B = _
    have : (L.filter fun o => !decide (o.id ∈ ([] : List zK).map (·.id))) = L := by
      rw [List.filter_eq_self]; intro o _; simp
    rw [this,kW hL]
  | o :: os,B,L,h,hL,ho,hn => by
    have ho0 := ho o List.mem_cons_self
    have hod := h.od k L hL
    have hq := (hod.1 o ho0).q
    have hk := (List.getElem?_eq_some_iff.1 hL).1
    rw [List.map_cons,List.nodup_cons] at hn
    have hi := h.inst hL (List.mem_map_of_mem (f := (·.id)) ho0)
    have hg := wR hod.2.1 ho0
    have hh : qN L o.id = true := hasId_iff.2 (List.mem_map_of_mem (f := (·.id)) ho0)
    have ht : (qP B o.id o.qty).1 = B.set k (L.filter fun x => !decide (x.id = o.id)) := by
      simp only [qP,hi,zV hL]
      rw [yV,if_neg (by rw [hh]; decide),if_neg (by rw [hg]; omega)]
      dsimp only
      have := aQ hod.2.1 hh
      rw [hg] at this
      rw [this]
    rw [List.map_cons,yW,if_pos (show (0 : Int) < o.qty by omega)]
    show y6 (qP B o.id o.qty).1 (yW i s os (os.map (·.qty))) = _
    have hW := h.take o.id o.qty
    rw [ht] at hW ⊢
    rw [mY (L := L.filter fun x => !decide (x.id = o.id)) hW (k7 hk) (fun x hx => ?_) hn.2,List.set_set,List.filter_filter]
    · congr 1
      refine List.filter_congr fun x _ => ?_
      by_cases e : x.id = o.id
      · simp [e]
      · simp [e]
    · refine List.mem_filter.2 ⟨ho x (List.mem_cons_of_mem _ hx),?_⟩
      have : x.id ≠ o.id := fun e => hn.1 (e ▸ List.mem_map_of_mem (f := (·.id)) hx)
      simp [this]
theorem zNs {s : Int} {F : List zK} (hs : tX s F) {v : Lv} {vs : List Lv} (h : grp F = v :: vs) :
    v = tW v.price (F.filter fun o => decide (o.price = v.price)) ∧ vs = grp (F.filter fun o => !decide (o.price = v.price)) ∧ ∀ o ∈ F,btr s o.price v.price = false := by
  obtain ⟨o,r,rfl,he⟩ := rF h
  rw [tX,List.pairwise_cons] at hs
  have key : ∀ (r : List zK),(∀ x ∈ r,btr s x.price o.price = false) → tX s r → r = r.filter (fun x => decide (x.price = o.price)) ++ r.filter fun x => !decide (x.price = o.price) := by
    intro r
    induction r with
    | nil => intro _ _; rfl
    | cons x r ih =>
      intro h1 h2
      rw [tX,List.pairwise_cons] at h2
      by_cases e : x.price = o.price
      · rw [List.filter_cons_of_pos (by simpa using e),List.filter_cons_of_neg (by simpa using e),List.cons_append,← ih (fun y hy => h1 y (List.mem_cons_of_mem _ hy)) h2.2]
      · have h3 : ∀ y ∈ r,¬ y.price = o.price := by
          intro y hy e2
          have a := h2.1 y hy
          have b := h1 x List.mem_cons_self
          rw [e2] at a
          exact e (z3p a b)
        rw [List.filter_cons_of_neg (by simpa using e),List.filter_cons_of_pos (by simpa using e)]
        have e1 : r.filter (fun x => decide (x.price = o.price)) = [] := by
          rw [List.filter_eq_nil_iff]; intro y hy; simpa using h3 y hy
        have e2 : r.filter (fun x => !decide (x.price = o.price)) = r := by
          rw [List.filter_eq_self]; intro y hy; simpa using h3 y hy
        rw [e1,e2,List.nil_append]
  have hk := key r hs.1 hs.2
  rw [← he]
  have hf1 : (o :: r).filter (fun x => decide (x.price = o.price)) = o :: r.filter fun x => decide (x.price = o.price) := List.filter_cons_of_pos (by simp)
  have hf2 : (o :: r).filter (fun x => !decide (x.price = o.price)) = r.filter fun x => !decide (x.price = o.price) := List.filter_cons_of_neg (by simp)
  rw [hf1,hf2]
  have hg : grp (o :: r) = tW o.price (o :: r.filter fun x => decide (x.price = o.price)) :: grp (r.filter fun x => !decide (x.price = o.price)) := by
    conv => lhs; rw [hk]
    refine zCy (l := o :: r.filter fun x => decide (x.price = o.price)) (by simp) (fun x hx => ?_) (fun x y e => ?_)
    · rcases List.mem_cons.1 hx with rfl | hx
      · rfl
      · simpa using (List.mem_filter.1 hx).2
    · have : x ∈ r.filter fun x => !decide (x.price = o.price) := by rw [e]; exact List.mem_cons_self
      simpa using (List.mem_filter.1 this).2
  rw [h] at hg
  cases hg
  refine ⟨rfl,rfl,fun x hx => ?_⟩
  rcases List.mem_cons.1 hx with rfl | hx
  · exact uT _ _
  · exact hs.1 x hx
theorem zWo (L : List zK) (s p : Int) : atL L s p = (vS L s).filter fun o => decide (o.price = p) := by
  rw [atL,vS,List.filter_filter]
  refine List.filter_congr fun o _ => ?_
  exact Bool.and_comm _ _
theorem lO : ∀ {sh qs : List Int},sh.length = qs.length → (∀ n,sh.getD n 0 ≤ qs.getD n 0) → sh.sum ≤ qs.sum
  | [],[],_,_ => Int.le_refl _
  | [],_ :: _,h,_ => by cases h
  | _ :: _,[],h,_ => by cases h
  | x :: sh,y :: qs,h,h2 => by
    have := lO (sh := sh) (qs := qs) (by simpa using h) fun n => h2 (n + 1)
    have h0 : x ≤ y := h2 0
    rw [List.sum_cons,List.sum_cons]; omega
theorem sH : ∀ {sh qs : List Int},sh.length = qs.length → (∀ n,sh.getD n 0 ≤ qs.getD n 0) → sh.sum = qs.sum → sh = qs
  | [],[],_,_,_ => rfl
  | [],_ :: _,h,_,_ => by cases h
  | _ :: _,[],h,_,_ => by cases h
  | x :: sh,y :: qs,h,h2,h3 => by
    have := lO (sh := sh) (qs := qs) (by simpa using h) fun n => h2 (n + 1)
    have h0 : x ≤ y := h2 0
    rw [List.sum_cons,List.sum_cons] at h3
    rw [sH (sh := sh) (qs := qs) (by simpa using h) (fun n => h2 (n + 1)) (by omega),show x = y by omega]
theorem zHr {qs sh : List Int} {q : Int} (h : tA qs sh q) (hq : q = qs.sum) : sh = qs := sH h.len (fun n => (h.bd n).2) (h.sum.trans hq)
open Go Cv Go.Proofs
def Mt (sd : Bool) (price : Int) : List Lv → Int → List dQ → Int → Prop
  | [],w,ts,l => ts = [] ∧ l = w
  | v :: vs,w,ts,l => if w ≤ 0 ∨ wN sd price v.price = false then ts = [] ∧ l = w else ∃ t ts',ts = t :: ts' ∧ t.implied = false ∧ t.price = v.price ∧ t.qty = min w v.qty ∧ Mt sd price vs (w - min w v.qty) ts' l
def eN (p : Prd) (B : List (List zK)) : Prop := ∀ (j : Nat) (L : List zK),p.months.length ≤ j→B[j]? = some L→L = []
theorem zTg (s : Int) : (wK []).has s = false := by
  rw [Top.has]; split <;> rfl
theorem l5 {p : Prd} {B : List (List zK)} (h : BOk p B) (hs : eN p B) {k : Nat} (hk : k < p.months.length) {s : Int} (hs2 : s = 1 ∨ s = 2) : qB ⟨p,B.map wK,k⟩ s = [] := by
  have ha : xI ⟨p,B.map wK,k⟩ s = [] := by
    rw [List.eq_nil_iff_forall_not_mem]
    intro q hq
    obtain ⟨ok,_,hlt,hc⟩ := zKs h.pc (by rw [List.length_map]; exact h.bl) hs2 hq
    rcases hc with ⟨hl,_⟩ | ⟨_,_,hge⟩
    · rcases wF h.pc (k := k) (by omega) with ⟨_,_⟩ | ⟨e,_⟩
      · have : (p.legs k).2.2 = false := by
          rw [Prd.legs,if_neg (by have := wI h.pc; omega),if_pos (by omega)]
        rw [this] at hl; cases hl
      · rw [e] at hl; cases hl
    · have a := ok.a
      rw [List.length_map] at a
      obtain ⟨L,hL⟩ := yB (l := B) (i := q.a.inst.toNat) (by omega)
      have e := hs q.a.inst.toNat L (by omega) hL
      have hh := ok.ha
      rw [zHt hL,e,zTg] at hh
      cases hh
  rw [qB,ha]; rfl
theorem zJc {p : Prd} {B : List (List zK)} (h : BWf p B) {k : Nat} {L : List zK} (hL : B[k]? = some L) {s : Int} (hs : s = 1 ∨ s = 2) {v : Lv} {vs : List Lv} (hl : xL L s = v :: vs) :
    y6 B (yJ p B k s v.qty) = B.set k (L.filter fun o => !(decide (o.side = s) && decide (o.price = v.price))) ∧ xL (L.filter fun o => !(decide (o.side = s) && decide (o.price = v.price))) s = vs := by
  have ho := h.od k L hL
  have hsr := h.srt k L hL s hs
  have hgs := zNs hsr (v := v) (vs := vs) (by rw [← hl]; rfl)
  have hb : (bestL (B.getD k []) s).1 = v := by rw [zV hL,bestL,hl]
  have hos : aW B k s = atL L s v.price := by rw [aW,Int.toNat_natCast,hb,zV hL]
  have hat : atL L s v.price = (vS L s).filter fun o => decide (o.price = v.price) := zWo L s v.price
  have hvq : v.qty = ((atL L s v.price).map (·.qty)).sum := by
    have := congrArg Lv.qty hgs.1
    rw [hat]; exact this
  have hsub : ∀ o ∈ atL L s v.price,o ∈ L ∧ o.side = s ∧ o.price = v.price := by
    intro o hm
    obtain ⟨a,b⟩ := List.mem_filter.1 hm
    simp only [Bool.and_eq_true,decide_eq_true_eq] at b
    exact ⟨a,b⟩
  have hr : yF ((atL L s v.price).map (·.qty)) v.qty = true := by
    refine zIe ?_ ?_ (fun x hx => ?_) (by omega)
    · rw [List.length_map]; exact Nat.le_trans (List.length_filter_le _ _) ho.2.2
    · rw [hvq]
      refine zHz fun x hx => ?_
      obtain ⟨o,hm,rfl⟩ := List.mem_map.1 hx
      have := (ho.1 o (hsub o hm).1).q
      omega
    · obtain ⟨o,hm,rfl⟩ := List.mem_map.1 hx
      exact (ho.1 o (hsub o hm).1).q
  have hsh := zHr (cS h.ok.pc hr) hvq
  have hfs : yJ p B k s v.qty = yW k s (atL L s v.price) ((atL L s v.price).map (·.qty)) := by
    rw [yJ,hos,hsh]
  have hw := mY (p := p) (k := k) (i := k) (s := s) (os := atL L s v.price) h hL (fun o hm => (hsub o hm).1) (ho.2.1.sublist (List.Sublist.map _ List.filter_sublist))
  have hf : L.filter (fun o => !decide (o.id ∈ (atL L s v.price).map (·.id))) = L.filter fun o => !(decide (o.side = s) && decide (o.price = v.price)) := by
    refine List.filter_congr fun o hm => ?_
    congr 1
    rw [Bool.eq_iff_iff]
    simp only [decide_eq_true_eq,Bool.and_eq_true]
    constructor
    · intro hx
      obtain ⟨o',hm',e⟩ := List.mem_map.1 hx
      have h1 := wR ho.2.1 hm
      have h2 := wR ho.2.1 (hsub o' hm').1
      rw [e,h1] at h2
      rw [h2]; exact (hsub o' hm').2
    · intro hx
      refine List.mem_map_of_mem (f := (·.id)) (List.mem_filter.2 ⟨hm,?_⟩)
      simp [hx]
  rw [hfs,hw,hf]
  refine ⟨rfl,?_⟩
  rw [xL,List.filter_filter]
  have e : (L.filter fun o => decide (o.side = s) && !(decide (o.side = s) && decide (o.price = v.price))) = (vS L s).filter fun o => !decide (o.price = v.price) := by
    rw [vS,List.filter_filter]
    refine List.filter_congr fun o _ => ?_
    cases decide (o.side = s) <;> simp
  rw [e]; exact hgs.2.1.symm
theorem zZy (sd : Bool) (price : Int) (vs : List Lv) : Mt sd price vs 0 [] 0 := by
  cases vs with
  | nil => exact ⟨rfl,rfl⟩
  | cons v vs => rw [Mt,if_pos (.inl (Int.le_refl 0))]; exact ⟨rfl,rfl⟩
theorem z7q {p : Prd} {sd : Bool} {price : Int} {k : Nat} (hk : k < p.months.length) : ∀ (vs : List Lv) (B : List (List zK)) (q : Int),BWf p B → eN p B → xL (B.getD k []) (zB (!sd)) = vs →
    Mt sd price vs q (uC p B k sd price q).steps (uC p B k sd price q).left := by
  intro vs
  induction vs with
  | nil =>
    intro B q h hs hl
    have hkB : k < B.length := by rw [h.ok.bl]; have := wI h.ok.pc; omega
    have hnx : zP p B k (zB (!sd)) = (zRs,false,false) := by
      rw [zP,l5 h.ok hs hk (fJ _),Int.toNat_natCast,bestL,hl]; rfl
    have : vO p B k sd price q = none := by
      rw [vO,hnx]; rfl
    rw [fE (.inr this)]
    exact ⟨rfl,rfl⟩
  | cons v vs ih =>
    intro B q h hs hl
    have hkB : k < B.length := by rw [h.ok.bl]; have := wI h.ok.pc; omega
    obtain ⟨L,hL⟩ := yB hkB
    rw [zV hL] at hl
    have hbL : bestL L (zB (!sd)) = (v,true) := by rw [bestL,hl]
    have hvq := zBj (h.od k L hL).1 (h.od k L hL).2.2 (s := zB (!sd)) (by rw [hbL])
    rw [hbL] at hvq
    have hnx : zP p B k (zB (!sd)) = (⟨v.price,v.qty,⟨0,0⟩,⟨0,0⟩⟩,false,true) := by
      rw [zP,l5 h.ok hs hk (fJ _),Int.toNat_natCast,zV hL,hbL]; rfl
    rw [Mt]
    by_cases hq : q ≤ 0
    · rw [if_pos (.inl hq),fE (.inl hq)]; exact ⟨rfl,rfl⟩
    cases hg : wN sd price v.price with
    | false =>
      have : vO p B k sd price q = none := by
        rw [vO,hnx]
        dsimp only
        rw [hg]; rfl
      rw [if_pos (.inr rfl),fE (.inr this)]; exact ⟨rfl,rfl⟩
    | true =>
      rw [if_neg (by simp; omega)]
      have hst : vO p B k sd price q = some (⟨v.price,min q v.qty,false,yJ p B k (zB (!sd)) (min q v.qty)⟩,y6 B (yJ p B k (zB (!sd)) (min q v.qty))) := by
        rw [vO,hnx]
        dsimp only
        rw [hg,decide_eq_true hvq.1]; rfl
      rw [zFr (by omega) hst]
      refine ⟨_,_,rfl,rfl,rfl,rfl,?_⟩
      dsimp only
      by_cases hc : q < v.qty
      · have e : q - min q v.qty = 0 := by omega
        rw [e,fE (.inl (Int.le_refl 0))]
        exact zZy sd price vs
      · have e : min q v.qty = v.qty := by omega
        rw [e]
        obtain ⟨g1,g2⟩ := zJc h hL (fJ (!sd)) hl
        refine ih _ _ h.takes ?_ ?_
        · rw [g1]
          intro j M hj hM
          rcases jY hM with ⟨rfl,rfl⟩ | ⟨_,hM⟩
          · omega
          · exact hs j M hj hM
        · rw [g1,zV (k7 hkB)]; exact g2
open Go Cv Go.Proofs
theorem z9q {l : List Ask} {k : Nat} {c : Ask} (h : l[k]? = some c) : zG (l.map askE) k 0 6 = some [D.v (.int .i64 c.kind),.v (.int .i64 c.inst),.v (.int .i64 c.side),.v (.int .i64 c.id),.v (.int .i64 c.price),.v (.int .i64 c.qty)] := elA h (by simp [askE]) rfl
theorem zHq (t : SmI) : (cI t).side = 1 ∨ (cI t).side = 2 := by
  have := yP (n := t.x.side) (lo := 0) (hi := 1) (by omega)
  show 1 + zD t.x.side 0 1 = 1 ∨ 1 + zD t.x.side 0 1 = 2
  omega
theorem BOk.ask {p : Prd} {B : List (List zK)} (h : BOk p B) (y : Ask) : BOk p (pX p B y) := h.add _ _ _ _ _
theorem MSt.Rep.ask {s : MSt} {p : Prd} {B : List (List zK)} (h : s.Rep p B) {y : Ask} (hs : y.side = 1 ∨ y.side = 2) : (MSt.addF ⟨s,y.inst,y.id,decide (y.side = 2),y.price,y.qty⟩).1.Rep p (pX p B y) := by
  have := (h.add y.inst y.id (decide (y.side = 2)) y.price y.qty).1
  rw [j6 hs] at this
  exact this
theorem zOf {p : Prd} {B : List (List zK)} (h : eN p B) {y : Ask} (hy : y.inst < p.months.length) : eN p (pX p B y) := by
  intro j L hj hL
  rw [pX,cZ] at hL
  split at hL
  · exact h j L hj hL
  split at hL
  · exact h j L hj hL
  split at hL
  · exact h j L hj hL
  split at hL
  · exact h j L hj hL
  rcases jY hL with ⟨rfl,rfl⟩ | ⟨_,hL⟩
  · omega
  · exact h j L hj hL
theorem zNx (p : Prd) : eN p (noB p) := fun j L _ hL => List.eq_of_mem_replicate (List.mem_of_getElem? hL)
theorem aU (i : MmI) : ∀ j,eN i.p (i.mon j)
  | 0 => zNx _
  | j + 1 => by
    rw [MmI.mon]
    split
    · exact zOf (aU i j) (by assumption)
    · exact aU i j
theorem yAj {l : List Lv} {k : Nat} {v : Lv} (h : l[k]? = some v) : zG (l.map lvE) k (0 + 0) 1 = some [D.v (.int .i64 v.price)] ∧ zG (l.map lvE) k (0 + 1) 1 = some [D.v (.int .i64 v.qty)] := ⟨elA h (by simp [lvE]) rfl,elA h (by simp [lvE]) rfl⟩
theorem yAr {l : List dQ} {k : Nat} {t : dQ} (h : l[k]? = some t) : zG (l.map z8) k (0 + 0) 1 = some [D.v (.int .i64 t.price)] ∧ zG (l.map z8) k (0 + 1) 1 = some [D.v (.int .i64 t.qty)] ∧ zG (l.map z8) k (0 + 2) 1 = some [D.v (.bool t.implied)] := ⟨elA h (by simp [z8]) rfl,elA h (by simp [z8]) rfl,elA h (by simp [z8]) rfl⟩
theorem zGa {α : Type} {l : List α} {j : Nat} {x : α} {r : List α} (h : l.drop j = x :: r) : l[j]? = some x ∧ l.drop (j + 1) = r ∧ j < l.length := by
  have h0 : (l.drop j)[0]? = some x := by rw [h]; rfl
  rw [List.getElem?_drop] at h0
  refine ⟨h0,?_,(List.getElem?_eq_some_iff.1 h0).1⟩
  have : l.drop (j + 1) = (l.drop j).drop 1 := by rw [List.drop_drop]
  rw [this,h]; rfl
theorem vmm (i : MmI) (h : mmC.cnd i) : Vmm i := by
  obtain ⟨hx,hl,hll,r1,r2,r3,r4⟩ : i.raw := h
  have hc : i.p.check = 0 := zGz i.x
  have hp : i.p.small := zGp i.x
  have hge := wI hc
  have m2 := (xE hc).m2
  have m6 := (xE hc).m6
  have t1 := (xE hc).t1
  have t2 := (xE hc).t2
  have hcl := jE i.p
  have wmi := yP (n := i.inst) (lo := 0) (hi := i.p.months.length - 1) (by omega)
  have w1 := yP (n := i.side) (lo := 0) (hi := 1) (by omega)
  have w7 := yP (n := i.price) (lo := 0) (hi := 7) (by omega)
  have w11 := yP (n := i.qty) (lo := 0) (hi := 11) (by omega)
  have hmi : i.mi = zD i.inst 0 (i.p.months.length - 1) := rfl
  have hsd : i.msd = 1 ∨ i.msd = 2 := by rw [MmI.msd]; omega
  have hmq : 1 ≤ i.mq ∧ i.mq ≤ 60 := by rw [MmI.mq]; omega
  unfold Vmm zNk zUo
  refine ⟨i.p,fun q => q = i.p,⟨i.x,rfl,rfl,rfl,rfl,rfl,rfl,rfl,rfl,rfl,rfl,rfl,hx,fun _ _ => ⟨i.p,rfl,rfl,rfl,rfl,rfl,rfl,rfl,rfl,rfl,rfl,rfl,rfl,by (repeat' (first|exact trivial|exact rfl|apply And.intro))⟩⟩,?_⟩
  rintro _ rfl
  refine ⟨i.p,rfl,rfl,rfl,rfl,rfl,rfl,rfl,rfl,rfl,rfl,rfl,hp,fun _ _ => ?_,fun _ e => absurd hc e⟩
  refine ⟨(0,gD i.p),rfl,rfl,fun j => j.2.Rep i.p (i.mon j.1) ∧ BOk i.p (i.mon j.1) ∧ j.1 ≤ i.n,fun j => i.n - j.1,⟨tD _,BOk.new hc hp,Nat.zero_le _⟩,?_⟩
  rintro ⟨j,s⟩ ⟨g1,g2,g3⟩
  dsimp only at g1 g2 g3 ⊢
  have hn : i.n = min i.l.length 40 := rfl
  have e1 : (i.l.map askE).length = i.l.length := List.length_map ..
  have e2 : (iE i.p.months).length = i.p.months.length := yS _
  refine ⟨true,fun b => b = decide (j < i.n),zT (fun c => ⟨_,rfl,decide_eq_decide.2 (by omega),by (repeat' (first|exact trivial|exact rfl|apply And.intro))⟩) (fun c => ⟨false,rfl,(decide_eq_false (by omega)).symm,by (repeat' (first|exact trivial|exact rfl|apply And.intro))⟩),fun b hb => ?_⟩
  subst hb
  refine zT (fun c => ?_) (fun c => ?_)
  · -- an ask
    obtain ⟨a,ha⟩ := yB (l := i.l) (i := j) (by omega)
    have hask : i.ask j = cI ⟨i.p,a,j⟩ := by rw [MmI.ask,zV ha]
    refine ⟨z6c,fun y => y = i.ask j,⟨⟨by omega,by omega⟩,a.kind,a.inst,a.side,a.id,a.price,a.qty,z9q ha,?_⟩,?_⟩
    · refine (fun hT => ⟨hT,trivial,⟨rfl,trivial,rfl,rfl,rfl,rfl,rfl,rfl,rfl,rfl,trivial,trivial⟩,hT⟩) ?_
      exact ⟨⟨i.p,a,j⟩,rfl,rfl,rfl,rfl,rfl,rfl,rfl,rfl,rfl,rfl,rfl,rfl,rfl,rfl,rfl,rfl,rfl,rfl,⟨hc,hp,hl a (List.mem_of_getElem? ha),by dsimp only;omega,by dsimp only;omega⟩,fun _ _ => ⟨cI ⟨i.p,a,j⟩,rfl,rfl,rfl,rfl,rfl,rfl,hask.symm,by (repeat' (first|exact trivial|exact rfl|apply And.intro))⟩⟩
    · rintro y rfl
      have hys : (i.ask j).side = 1 ∨ (i.ask j).side = 2 := by rw [hask]; exact zHq _
      refine zT (fun d => ?_) (fun d => ?_)
      · rw [e2] at d
        refine ⟨⟨s,(i.ask j).inst,(i.ask j).id,decide ((i.ask j).side = 2),(i.ask j).price,(i.ask j).qty⟩,rfl,rfl,j6 hys,rfl,rfl,rfl,g1.fit g2,fun _ _ => ⟨(j + 1,(MSt.addF ⟨s,(i.ask j).inst,(i.ask j).id,decide ((i.ask j).side = 2),(i.ask j).price,(i.ask j).qty⟩).1),wjn (by omega),rfl,⟨?_,?_,by dsimp only;omega⟩,by dsimp only;omega,by (repeat' (first|exact trivial|exact rfl|apply And.intro))⟩⟩
        · dsimp only; rw [MmI.mon,if_pos d]; exact g1.ask hys
        · dsimp only; rw [MmI.mon,if_pos d]; exact g2.ask _
      · rw [e2] at d
        refine ⟨(j + 1,s),wjn (by omega),rfl,⟨?_,?_,by dsimp only;omega⟩,by dsimp only;omega,by (repeat' (first|exact trivial|exact rfl|apply And.intro))⟩
        · dsimp only; rw [MmI.mon,if_neg d]; exact g1
        · dsimp only; rw [MmI.mon,if_neg d]; exact g2
  have hj : j = i.n := by omega
  subst hj
  have wm : IntKind.i64.wrap ((i.p.months.length : Int) - 1) = i.p.months.length - 1 := w64 (by omega)
  have wm2 : IntKind.i64.wrap (((iE i.p.months).length : Int) - 1) = i.p.months.length - 1 := by rw [e2]; exact wm
  refine ⟨z6c,fun y => y = i.last,?_,?_⟩
  · refine (fun hE hT => ⟨⟨⟨i.inst,0,i.p.months.length - 1⟩,rfl,rfl,wm2.symm,⟨r1,by dsimp only;omega,by dsimp only;omega,by dsimp only;omega⟩,fun _ _ => ⟨hE,hT,hE,hT⟩⟩,rfl,trivial,hE,⟨⟨i.inst,0,i.p.months.length - 1⟩,rfl,rfl,wm2.symm,⟨r1,by dsimp only;omega,by dsimp only;omega,by dsimp only;omega⟩,fun _ _ => ⟨hE,hT⟩⟩⟩) ⟨rfl,trivial,rfl,rfl,rfl,rfl,rfl,rfl,rfl,rfl,trivial,trivial⟩ ?_
    exact ⟨⟨i.p,⟨0,i.mi,i.side,0,i.price,i.qty⟩,0⟩,rfl,rfl,rfl,rfl,rfl,rfl,rfl,rfl,rfl,rfl,rfl,rfl,rfl,rfl,rfl,rfl,rfl,rfl,⟨hc,hp,⟨by dsimp only;omega,by dsimp only;omega,r2,by dsimp only;omega,r3,r4⟩,by dsimp only;omega,by dsimp only;omega⟩,fun _ _ => ⟨i.last,rfl,rfl,rfl,rfl,rfl,rfl,rfl,by (repeat' (first|exact trivial|exact rfl|apply And.intro))⟩⟩
  rintro y rfl
  have hps : ∀ a : Int,8 ≤ a ∧ a ≤ 15 → IntKind.i64.wrap (i.p.tick * IntKind.i64.wrap a) = i.p.tick * a := by
    intro a ha
    rw [w64 (x := a) (by omega)]
    have h1 : i.p.tick * a ≤ 1000 * 15 := Int.mul_le_mul t2 ha.2 (by omega) (by decide)
    have h2 : 0 ≤ i.p.tick * a := Int.mul_nonneg (by omega) (by omega)
    exact w64 (by omega)
  refine ⟨⟨i.inst,0,i.p.months.length - 1⟩,rfl,rfl,wm2.symm,⟨r1,by dsimp only;omega,by dsimp only;omega,by dsimp only;omega⟩,fun _ _ => ⟨{ i.last with inst := i.mi },rfl,rfl,rfl,rfl,rfl,rfl,fun y => y = { i.last with inst := i.mi,price := i.mp },⟨⟨i.price,0,7⟩,rfl,rfl,rfl,⟨r3,by dsimp only;omega,by dsimp only;omega,by dsimp only;omega⟩,fun _ _ => ⟨rfl,{ i.last with inst := i.mi,price := i.mp },rfl,rfl,rfl,rfl,(hps (8 + zD i.price 0 7) (by omega)).symm,rfl,rfl,by (repeat' (first|exact trivial|exact rfl|apply And.intro))⟩⟩,?_⟩⟩
  rintro y rfl
  have es : i.last.side = i.msd := rfl
  have eq5 : IntKind.i64.wrap (5 * i.last.qty) = i.mq := by
    show IntKind.i64.wrap (5 * (1 + zD i.qty 0 11)) = 5 * (1 + zD i.qty 0 11)
    exact w64 (by omega)
  dsimp only
  rw [es,eq5,w64 (x := 3 - i.msd) (by omega)]
  refine ⟨⟨s,i.p,i.mon i.n,i.mi,decide (3 - i.msd = 2)⟩,rfl,j6 (by omega),rfl,⟨g1,by dsimp only; rw [g2.bl]; omega⟩,fun _ _ => ⟨⟨s,i.p,i.mon i.n,i.mi,decide (i.msd = 2),i.mp,i.mq⟩,rfl,j6 hsd,rfl,rfl,rfl,⟨g1,g2,⟨by dsimp only;omega,by dsimp only; rw [g2.bl]; omega⟩,by dsimp only;omega,by dsimp only;omega⟩,fun o _ => ?_⟩⟩
  have e3 : (i.lad.map lvE).length = i.lad.length := List.length_map ..
  have e4 : (i.run.steps.map z8).length = i.run.steps.length := List.length_map ..
  have er : RunI.r ⟨s,i.p,i.mon i.n,i.mi,decide (i.msd = 2),i.mp,i.mq⟩ = i.run := rfl
  have el : xL (atB (i.mon i.n) i.mi) (zB (decide (3 - i.msd = 2))) = i.lad := by rw [j6 (by omega)]; rfl
  dsimp only
  rw [er,el]
  have hmt : Mt (decide (i.msd = 2)) i.mp i.lad i.mq i.run.steps i.run.left := by
    obtain ⟨k,hk⟩ : ∃ k : Nat,i.mi = k := ⟨i.mi.toNat,by omega⟩
    have ek : zB (!decide (i.msd = 2)) = 3 - i.msd := by
      rcases hsd with e | e <;> rw [e] <;> rfl
    have hL : xL ((i.mon i.n).getD k []) (zB (!decide (i.msd = 2))) = i.lad := by
      rw [ek,MmI.lad,atB,if_neg (by omega),hk,Int.toNat_natCast]
    have := z7q (p := i.p) (sd := decide (i.msd = 2)) (price := i.mp) (k := k) (by omega) i.lad (i.mon i.n) i.mq (g1.wf g2) (aU i i.n) hL
    rw [← hk] at this
    exact this
  have hlad : i.lad.length ≤ 250 := by
    have : ∀ L : List zK,(grp L).length ≤ L.length := by
      intro L
      induction L with
      | nil => exact Nat.le_refl _
      | cons o L ih =>
        rw [grp]
        split
        · simp
        · rename_i v vs e
          rw [e] at ih
          simp only [List.length_cons] at ih
          split
          · simp only [List.length_cons]; omega
          · simp only [List.length_cons]; omega
    have h1 := this ((atB (i.mon i.n) i.mi).filter fun o => decide (o.side = 3 - i.msd))
    have h2 : (atB (i.mon i.n) i.mi).length ≤ 250 := by
      rw [atB]
      split
      · exact Nat.zero_le _
      · by_cases hk : i.mi.toNat < (i.mon i.n).length
        · obtain ⟨L,hL⟩ := yB hk
          rw [zV hL]; exact (g1.ords _ L hL).2.2
        · rw [List.getD_eq_getElem?_getD,List.getElem?_eq_none (by omega)]; exact Nat.zero_le _
    exact Nat.le_trans h1 (Nat.le_trans (List.length_filter_le _ _) h2)
  have hlq : ∀ v ∈ i.lad,1 ≤ v.qty := by
    intro v hv
    refine (zVz (l := (atB (i.mon i.n) i.mi).filter fun o => decide (o.side = 3 - i.msd)) (fun o ho => ?_) hv).1
    have ho := (List.mem_filter.1 ho).1
    rw [atB,if_neg (by omega)] at ho
    by_cases hk : i.mi.toNat < (i.mon i.n).length
    · obtain ⟨L,hL⟩ := yB hk
      rw [zV hL] at ho
      exact (g1.ords _ L hL).1 o ho
    · rw [List.getD_eq_getElem?_getD,List.getElem?_eq_none (by omega)] at ho; cases ho
  generalize i.run.steps = ts at hmt e4 ⊢
  generalize i.run.left = lf at hmt ⊢
  generalize i.lad = lad at hmt hlad hlq e3 ⊢
  refine ⟨(0,i.mq),rfl,rfl,rfl,fun j => j.1 ≤ lad.length ∧ j.1 ≤ ts.length ∧ (0 ≤ j.2 ∧ j.2 ≤ 60) ∧ Mt (decide (i.msd = 2)) i.mp (lad.drop j.1) j.2 (ts.drop j.1) lf,fun j => lad.length - j.1,⟨Nat.zero_le _,Nat.zero_le _,⟨by dsimp only;omega,hmq.2⟩,hmt⟩,?_⟩
  rintro ⟨m,w⟩ ⟨k1,k2,k3,k4⟩
  dsimp only at k1 k2 k3 k4 ⊢
  have fin (hd : ts.drop m = [] ∧ lf = w) : cnd ((m : Int) == ((ts.map z8).length : Int)) (cnd (lf == w) (∃ (_ : Unit),True ∧ ∀ (o : Unit),True → ∃ (o : Unit),true = true ∧ True) (∃ (o : Unit),true = false ∧ True)) (∃ (o : Unit),true = false ∧ True) := by
    have : ts.length ≤ m := List.drop_eq_nil_iff.1 hd.1
    refine Cv.cnd.mk (fun _ => Cv.cnd.mk (fun _ => ⟨(),trivial,fun _ _ => ⟨(),rfl,trivial⟩⟩) (fun e => ?_)) (fun e => ?_)
    · rw [hd.2] at e; simp at e
    · have : ¬ (m : Int) = ((ts.map z8).length : Int) := by simpa using e
      omega
  refine ⟨true,fun b => b = decide (m < lad.length ∧ 0 < w),zT (fun c => ⟨_,rfl,?_,by (repeat' (first|exact trivial|exact rfl|apply And.intro))⟩) (fun c => ⟨false,rfl,?_,by (repeat' (first|exact trivial|exact rfl|apply And.intro))⟩),fun b hb => ?_⟩
  · exact decide_eq_decide.2 (by omega)
  · exact (decide_eq_false (by omega)).symm
  subst hb
  refine zT (fun c => ?_) (fun c => ?_)
  rotate_left
  · refine fin ?_
    cases hd : lad.drop m with
    | nil => rw [hd] at k4; exact k4
    | cons v vs =>
      have := (zGa hd).2.2
      rw [hd,Mt,if_pos (.inl (by omega))] at k4
      exact k4
  obtain ⟨v,hv⟩ := yB (l := lad) (i := m) c.1
  have hdv : lad.drop m = v :: lad.drop (m + 1) := by
    rw [List.drop_eq_getElem_cons c.1,(List.getElem?_eq_some_iff.1 hv).2]
  obtain ⟨ev1,ev2⟩ := yAj hv
  have hvq := hlq v (List.mem_of_getElem? hv)
  rw [hdv,Mt] at k4
  refine ⟨true,fun b => b = !wN (decide (i.msd = 2)) i.mp v.price,?_,fun b hb => ?_⟩
  · rcases hsd with e | e
    · rw [e]
      refine Cv.cnd.mk (fun _ => ⟨⟨by omega,by omega⟩,v.price,ev1,zT (fun d => ⟨true,rfl,?_,by (repeat' (first|exact trivial|exact rfl|apply And.intro))⟩) (fun d => Cv.cnd.mk (fun x => by cases x) (fun _ => ⟨false,rfl,?_,by (repeat' (first|exact trivial|exact rfl|apply And.intro))⟩))⟩) (fun x => by cases x)
      · have : decide (v.price ≤ i.mp) = false := decide_eq_false (by omega)
        show true = !(decide (v.price ≤ i.mp))
        rw [this]; rfl
      · have : decide (v.price ≤ i.mp) = true := decide_eq_true (by omega)
        show false = !(decide (v.price ≤ i.mp))
        rw [this]; rfl
    · rw [e]
      refine Cv.cnd.mk (fun x => by cases x) (fun _ => Cv.cnd.mk (fun _ => ⟨⟨by omega,by omega⟩,v.price,ev1,decide (v.price < i.mp),rfl,?_,by (repeat' (first|exact trivial|exact rfl|apply And.intro))⟩) (fun x => by cases x))
      show decide (v.price < i.mp) = !(decide (i.mp ≤ v.price))
      by_cases d : v.price < i.mp
      · rw [decide_eq_true d,decide_eq_false (by omega)]; rfl
      · rw [decide_eq_false d,decide_eq_true (by omega)]; rfl
  subst hb
  refine Cv.cnd.mk (fun d => ?_) (fun d => ?_)
  · have d : wN (decide (i.msd = 2)) i.mp v.price = false := by simpa using d
    rw [if_pos (.inr d)] at k4
    exact fin k4
  have d : wN (decide (i.msd = 2)) i.mp v.price = true := by simpa using d
  rw [if_neg (by rw [d]; simp; omega)] at k4
  obtain ⟨t,ts',q1,q2,q3,q4,q5⟩ := k4
  obtain ⟨p1,p2,p3⟩ := zGa q1
  obtain ⟨et1,et2,et3⟩ := yAr p1
  rw [q2] at et3
  rw [q3] at et1
  rw [q4] at et2
  refine ⟨⟨by omega,by omega⟩,v.qty,ev2,0,fun k => k = min w v.qty,zT (fun e => ⟨w,rfl,by omega,by (repeat' (first|exact trivial|exact rfl|apply And.intro))⟩) (fun e => ⟨v.qty,rfl,by omega,by (repeat' (first|exact trivial|exact rfl|apply And.intro))⟩),fun k hk => ?_⟩
  subst hk
  refine ⟨true,fun b => b = false,?_,fun b hb => ?_⟩
  · refine zT (fun e => absurd e (by omega)) (fun _ => ⟨⟨by omega,by omega⟩,false,et3,Cv.cnd.mk (fun x => by cases x) (fun _ => ⟨⟨by omega,by omega⟩,v.price,et1,⟨by omega,by omega⟩,v.price,ev1,Cv.cnd.mk (fun x => by simp at x) (fun _ => ⟨⟨by omega,by omega⟩,min w v.qty,et2,_,rfl,by simp,by (repeat' (first|exact trivial|exact rfl|apply And.intro))⟩)⟩)⟩)
  subst hb
  refine Cv.cnd.mk (fun x => by cases x) (fun _ => ⟨(m + 1,w - min w v.qty),(w64 (by omega)).symm,wjn (by omega),wjn (by omega),⟨by dsimp only;omega,by dsimp only;omega,⟨by dsimp only;omega,?_⟩,?_⟩,by dsimp only;omega,by (repeat' (first|exact trivial|exact rfl|apply And.intro))⟩)
  · dsimp only; omega
  · dsimp only; rw [p2]; exact q5
end Sx
