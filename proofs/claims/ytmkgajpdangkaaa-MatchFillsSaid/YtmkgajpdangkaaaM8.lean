/- Texts of ours, one behind the other: a walk that the kernel reckons, and contracts of functions. No condition. -/
import Derived.Test.YtmkgajpdangkaaaM7
namespace Sx
set_option linter.unusedVariables false
set_option maxRecDepth 100000
open Go Cv Go.Proofs
def zBa (b : Bool) : Prop :=
  ∃ (o:Unit),(zB !b)=IntKind.i64.wrap (3 - zB b)∧True
theorem zRm (b : Bool) : zBa b = walk Try.prog ([]) 0 ([]) ([]) [] Try.f26 (Try.f26.body.getD .skip) (motherC.pat b) (motherC.pre b) (motherC.alts b) := by kernel_rfl
theorem zXg (hG : GOk Try.prog ([])) (h : ∀ (b : Bool),motherC.cnd b → zBa b) : motherC.ok Try.prog 26 := zE mixed ([]) hG 0 (fun (b : Bool) => []) (fun (b : Bool) => []) [] Try.func26 (by kernel_rfl) (by kernel_rfl) (by kernel_rfl) (fun _ => by kernel_rfl) (fun (b : Bool) hc => Eq.mp (zRm b) (h b hc))
def zIs (i : GoI) : Prop :=
  cnd (zB i.s==1) (cnd (decide (i.x≤i.p)) (∃ (o:Unit),fE i.s i.p i.x=true∧True) (cnd (zB i.s==2) (∃ (o:Unit),fE i.s i.p i.x=decide (i.x ≥ i.p)∧True) (∃ (o:Unit),fE i.s i.p i.x=false∧True))) (cnd (zB i.s==2) (∃ (o:Unit),fE i.s i.p i.x=decide (i.x ≥ i.p)∧True) (∃ (o:Unit),fE i.s i.p i.x=false∧True))
theorem z2r (i : GoI) : zIs i = walk Try.prog ([]) 0 ([]) ([]) [] Try.f27 (Try.f27.body.getD .skip) (mgoodC.pat i) (mgoodC.pre i) (mgoodC.alts i) := by kernel_rfl
theorem z2i (hG : GOk Try.prog ([])) (h : ∀ (i : GoI),mgoodC.cnd i → zIs i) : mgoodC.ok Try.prog 27 := zE mixed ([]) hG 0 (fun (i : GoI) => []) (fun (i : GoI) => []) [] Try.func27 (by kernel_rfl) (by kernel_rfl) (by kernel_rfl) (fun _ => by kernel_rfl) (fun (i : GoI) hc => Eq.mp (z2r i) (h i hc))
@[reducible] def zBm (i : NxI) (i_1 : MSt) (o : Unit) : Prop := ∃ (i_2:dP),sb i_2.i.p.code=sb i.s.p.code∧iE i_2.i.p.months=iE i_1.p.months∧i_2.i.p.tick=i.s.p.tick∧i_2.i.p.low=i.s.p.low∧i_2.i.p.high=i.s.p.high∧i_2.i.p.wide=i.s.p.wide∧i_2.i.p.rule=i.s.p.rule∧i_2.i.p.top=i.s.p.top∧i_2.i.p.least=i.s.p.least∧i_2.i.p.part=i.s.p.part∧iE i_2.i.p.settle=iE i_1.p.settle∧List.map zQ i_2.i.tops=List.map zQ i_1.tops∧i_2.i.inst=i.inst∧zB i_2.s=zB i.sd∧((i_2.i.p.code.length≤1099511627776∧i_2.i.p.months.length≤1099511627776∧i_2.i.p.settle.length≤1099511627776)∧i_2.i.tops.length≤1000000∧∀ (t:Top),t ∈ i_2.i.tops→((-9223372036854775808)≤t.p1∧t.p1≤9223372036854775807)∧(-9223372036854775808)≤t.p2∧t.p2≤9223372036854775807)∧∀ (o:Unit),True→∃ (i_3:BsI),List.map zI i_3.l=List.map zI (qY i_2.i (zB i_2.s))∧i_3.s=zB i.sd∧((i_3.s=1 ∨ i_3.s=2)∧i_3.l.length≤1000000)∧∀ (o:Unit),True→(0≤i.inst∧i.inst<(↑i_1.books.length:Int))∧i.inst.toNat<i_1.books.length∧∃ (x:Book),i_1.books[i.inst.toNat]?=some x∧∃ (i_4:BkS),zB i_4.side=zB i.sd∧yC i_4.b=yC x∧(∀ (q:kB),q ∈ i_4.b.a.queues→(-9223372036854775808)≤q.count∧q.count≤9223372036854775807)∧∀ (o:Unit),True→∃ (x:Book),yC i_4.b=yC x∧i.inst.toNat=i.inst.toNat∧i.inst.toNat<i_1.books.length∧cnd (i_4.b.best (i_4.b.side i_4.side)).snd (cnd (zW i_3.l i_3.s).snd (∃ (i_5:I3'),i_5.side=zB i.sd∧i_5.x=(zW i_3.l i_3.s).fst.price∧i_5.y=(i_4.b.best (i_4.b.side i_4.side)).fst.price∧True∧∀ (o:Unit),True→cnd (!btr i_5.side i_5.x i_5.y) (∃ (o:Unit),(zO i.p i.B i.inst (zB i.sd)).fst.price=(i_4.b.best (i_4.b.side i_4.side)).fst.price∧(zO i.p i.B i.inst (zB i.sd)).fst.qty=(i_4.b.best (i_4.b.side i_4.side)).fst.qty∧(zO i.p i.B i.inst (zB i.sd)).fst.a.inst=0∧(zO i.p i.B i.inst (zB i.sd)).fst.a.side=0∧(zO i.p i.B i.inst (zB i.sd)).fst.b.inst=0∧(zO i.p i.B i.inst (zB i.sd)).fst.b.side=0∧(zO i.p i.B i.inst (zB i.sd)).snd.fst=false∧(zO i.p i.B i.inst (zB i.sd)).snd.snd=true∧sb i.s.p.code=sb i_1.p.code∧i.s.p.tick=i_1.p.tick∧i.s.p.low=i_1.p.low∧i.s.p.high=i_1.p.high∧i.s.p.wide=i_1.p.wide∧i.s.p.rule=i_1.p.rule∧i.s.p.top=i_1.p.top∧i.s.p.least=i_1.p.least∧i.s.p.part=i_1.p.part∧AObj.objs 64 Book 6 zM i.s.books none=AObj.objs 64 Book 6 zM (i_1.books.set i.inst.toNat x) none∧yJ i.s.wh=yJ i_1.wh∧AObj.fro 1 (iE i.s.p.months)=AObj.fro 1 (iE i_1.p.months)∧AObj.fro 1 (iE i.s.p.settle)=AObj.fro 1 (iE i_1.p.settle)∧True) (∃ (o:Unit),(zO i.p i.B i.inst (zB i.sd)).fst.price=(zW i_3.l i_3.s).fst.price∧(zO i.p i.B i.inst (zB i.sd)).fst.qty=(zW i_3.l i_3.s).fst.qty∧(zO i.p i.B i.inst (zB i.sd)).fst.a.inst=(zW i_3.l i_3.s).fst.a.inst∧(zO i.p i.B i.inst (zB i.sd)).fst.a.side=(zW i_3.l i_3.s).fst.a.side∧(zO i.p i.B i.inst (zB i.sd)).fst.b.inst=(zW i_3.l i_3.s).fst.b.inst∧(zO i.p i.B i.inst (zB i.sd)).fst.b.side=(zW i_3.l i_3.s).fst.b.side∧(zO i.p i.B i.inst (zB i.sd)).snd.fst=(zW i_3.l i_3.s).snd∧(zO i.p i.B i.inst (zB i.sd)).snd.snd=(zW i_3.l i_3.s).snd∧sb i.s.p.code=sb i_1.p.code∧i.s.p.tick=i_1.p.tick∧i.s.p.low=i_1.p.low∧i.s.p.high=i_1.p.high∧i.s.p.wide=i_1.p.wide∧i.s.p.rule=i_1.p.rule∧i.s.p.top=i_1.p.top∧i.s.p.least=i_1.p.least∧i.s.p.part=i_1.p.part∧AObj.objs 64 Book 6 zM i.s.books none=AObj.objs 64 Book 6 zM (i_1.books.set i.inst.toNat x) none∧yJ i.s.wh=yJ i_1.wh∧AObj.fro 1 (iE i.s.p.months)=AObj.fro 1 (iE i_1.p.months)∧AObj.fro 1 (iE i.s.p.settle)=AObj.fro 1 (iE i_1.p.settle)∧True)) (∃ (o:Unit),(zO i.p i.B i.inst (zB i.sd)).fst.price=(i_4.b.best (i_4.b.side i_4.side)).fst.price∧(zO i.p i.B i.inst (zB i.sd)).fst.qty=(i_4.b.best (i_4.b.side i_4.side)).fst.qty∧(zO i.p i.B i.inst (zB i.sd)).fst.a.inst=0∧(zO i.p i.B i.inst (zB i.sd)).fst.a.side=0∧(zO i.p i.B i.inst (zB i.sd)).fst.b.inst=0∧(zO i.p i.B i.inst (zB i.sd)).fst.b.side=0∧(zO i.p i.B i.inst (zB i.sd)).snd.fst=false∧(zO i.p i.B i.inst (zB i.sd)).snd.snd=true∧sb i.s.p.code=sb i_1.p.code∧i.s.p.tick=i_1.p.tick∧i.s.p.low=i_1.p.low∧i.s.p.high=i_1.p.high∧i.s.p.wide=i_1.p.wide∧i.s.p.rule=i_1.p.rule∧i.s.p.top=i_1.p.top∧i.s.p.least=i_1.p.least∧i.s.p.part=i_1.p.part∧AObj.objs 64 Book 6 zM i.s.books none=AObj.objs 64 Book 6 zM (i_1.books.set i.inst.toNat x) none∧yJ i.s.wh=yJ i_1.wh∧AObj.fro 1 (iE i.s.p.months)=AObj.fro 1 (iE i_1.p.months)∧AObj.fro 1 (iE i.s.p.settle)=AObj.fro 1 (iE i_1.p.settle)∧True)) (∃ (o:Unit),(zO i.p i.B i.inst (zB i.sd)).fst.price=(zW i_3.l i_3.s).fst.price∧(zO i.p i.B i.inst (zB i.sd)).fst.qty=(zW i_3.l i_3.s).fst.qty∧(zO i.p i.B i.inst (zB i.sd)).fst.a.inst=(zW i_3.l i_3.s).fst.a.inst∧(zO i.p i.B i.inst (zB i.sd)).fst.a.side=(zW i_3.l i_3.s).fst.a.side∧(zO i.p i.B i.inst (zB i.sd)).fst.b.inst=(zW i_3.l i_3.s).fst.b.inst∧(zO i.p i.B i.inst (zB i.sd)).fst.b.side=(zW i_3.l i_3.s).fst.b.side∧(zO i.p i.B i.inst (zB i.sd)).snd.fst=(zW i_3.l i_3.s).snd∧(zO i.p i.B i.inst (zB i.sd)).snd.snd=(zW i_3.l i_3.s).snd∧sb i.s.p.code=sb i_1.p.code∧i.s.p.tick=i_1.p.tick∧i.s.p.low=i_1.p.low∧i.s.p.high=i_1.p.high∧i.s.p.wide=i_1.p.wide∧i.s.p.rule=i_1.p.rule∧i.s.p.top=i_1.p.top∧i.s.p.least=i_1.p.least∧i.s.p.part=i_1.p.part∧AObj.objs 64 Book 6 zM i.s.books none=AObj.objs 64 Book 6 zM (i_1.books.set i.inst.toNat x) none∧yJ i.s.wh=yJ i_1.wh∧AObj.fro 1 (iE i.s.p.months)=AObj.fro 1 (iE i_1.p.months)∧AObj.fro 1 (iE i.s.p.settle)=AObj.fro 1 (iE i_1.p.settle)∧True)
@[reducible] def zCc (i : NxI) (i_1 : MSt) (o : Unit) (i_2 : dP) : Prop := ∃ (i_3:BsI),List.map zI i_3.l=List.map zI (qY i_2.i (zB i_2.s))∧i_3.s=zB i.sd∧((i_3.s=1 ∨ i_3.s=2)∧i_3.l.length≤1000000)∧∀ (o:Unit),True→(0≤i.inst∧i.inst<(↑i_1.books.length:Int))∧i.inst.toNat<i_1.books.length∧∃ (x:Book),i_1.books[i.inst.toNat]?=some x∧∃ (i_4:BkS),zB i_4.side=zB i.sd∧yC i_4.b=yC x∧(∀ (q:kB),q ∈ i_4.b.a.queues→(-9223372036854775808)≤q.count∧q.count≤9223372036854775807)∧∀ (o:Unit),True→∃ (x:Book),yC i_4.b=yC x∧i.inst.toNat=i.inst.toNat∧i.inst.toNat<i_1.books.length∧cnd (i_4.b.best (i_4.b.side i_4.side)).snd (cnd (zW i_3.l i_3.s).snd (∃ (i_5:I3'),i_5.side=zB i.sd∧i_5.x=(zW i_3.l i_3.s).fst.price∧i_5.y=(i_4.b.best (i_4.b.side i_4.side)).fst.price∧True∧∀ (o:Unit),True→cnd (!btr i_5.side i_5.x i_5.y) (∃ (o:Unit),(zO i.p i.B i.inst (zB i.sd)).fst.price=(i_4.b.best (i_4.b.side i_4.side)).fst.price∧(zO i.p i.B i.inst (zB i.sd)).fst.qty=(i_4.b.best (i_4.b.side i_4.side)).fst.qty∧(zO i.p i.B i.inst (zB i.sd)).fst.a.inst=0∧(zO i.p i.B i.inst (zB i.sd)).fst.a.side=0∧(zO i.p i.B i.inst (zB i.sd)).fst.b.inst=0∧(zO i.p i.B i.inst (zB i.sd)).fst.b.side=0∧(zO i.p i.B i.inst (zB i.sd)).snd.fst=false∧(zO i.p i.B i.inst (zB i.sd)).snd.snd=true∧sb i.s.p.code=sb i_1.p.code∧i.s.p.tick=i_1.p.tick∧i.s.p.low=i_1.p.low∧i.s.p.high=i_1.p.high∧i.s.p.wide=i_1.p.wide∧i.s.p.rule=i_1.p.rule∧i.s.p.top=i_1.p.top∧i.s.p.least=i_1.p.least∧i.s.p.part=i_1.p.part∧AObj.objs 64 Book 6 zM i.s.books none=AObj.objs 64 Book 6 zM (i_1.books.set i.inst.toNat x) none∧yJ i.s.wh=yJ i_1.wh∧AObj.fro 1 (iE i.s.p.months)=AObj.fro 1 (iE i_1.p.months)∧AObj.fro 1 (iE i.s.p.settle)=AObj.fro 1 (iE i_1.p.settle)∧True) (∃ (o:Unit),(zO i.p i.B i.inst (zB i.sd)).fst.price=(zW i_3.l i_3.s).fst.price∧(zO i.p i.B i.inst (zB i.sd)).fst.qty=(zW i_3.l i_3.s).fst.qty∧(zO i.p i.B i.inst (zB i.sd)).fst.a.inst=(zW i_3.l i_3.s).fst.a.inst∧(zO i.p i.B i.inst (zB i.sd)).fst.a.side=(zW i_3.l i_3.s).fst.a.side∧(zO i.p i.B i.inst (zB i.sd)).fst.b.inst=(zW i_3.l i_3.s).fst.b.inst∧(zO i.p i.B i.inst (zB i.sd)).fst.b.side=(zW i_3.l i_3.s).fst.b.side∧(zO i.p i.B i.inst (zB i.sd)).snd.fst=(zW i_3.l i_3.s).snd∧(zO i.p i.B i.inst (zB i.sd)).snd.snd=(zW i_3.l i_3.s).snd∧sb i.s.p.code=sb i_1.p.code∧i.s.p.tick=i_1.p.tick∧i.s.p.low=i_1.p.low∧i.s.p.high=i_1.p.high∧i.s.p.wide=i_1.p.wide∧i.s.p.rule=i_1.p.rule∧i.s.p.top=i_1.p.top∧i.s.p.least=i_1.p.least∧i.s.p.part=i_1.p.part∧AObj.objs 64 Book 6 zM i.s.books none=AObj.objs 64 Book 6 zM (i_1.books.set i.inst.toNat x) none∧yJ i.s.wh=yJ i_1.wh∧AObj.fro 1 (iE i.s.p.months)=AObj.fro 1 (iE i_1.p.months)∧AObj.fro 1 (iE i.s.p.settle)=AObj.fro 1 (iE i_1.p.settle)∧True)) (∃ (o:Unit),(zO i.p i.B i.inst (zB i.sd)).fst.price=(i_4.b.best (i_4.b.side i_4.side)).fst.price∧(zO i.p i.B i.inst (zB i.sd)).fst.qty=(i_4.b.best (i_4.b.side i_4.side)).fst.qty∧(zO i.p i.B i.inst (zB i.sd)).fst.a.inst=0∧(zO i.p i.B i.inst (zB i.sd)).fst.a.side=0∧(zO i.p i.B i.inst (zB i.sd)).fst.b.inst=0∧(zO i.p i.B i.inst (zB i.sd)).fst.b.side=0∧(zO i.p i.B i.inst (zB i.sd)).snd.fst=false∧(zO i.p i.B i.inst (zB i.sd)).snd.snd=true∧sb i.s.p.code=sb i_1.p.code∧i.s.p.tick=i_1.p.tick∧i.s.p.low=i_1.p.low∧i.s.p.high=i_1.p.high∧i.s.p.wide=i_1.p.wide∧i.s.p.rule=i_1.p.rule∧i.s.p.top=i_1.p.top∧i.s.p.least=i_1.p.least∧i.s.p.part=i_1.p.part∧AObj.objs 64 Book 6 zM i.s.books none=AObj.objs 64 Book 6 zM (i_1.books.set i.inst.toNat x) none∧yJ i.s.wh=yJ i_1.wh∧AObj.fro 1 (iE i.s.p.months)=AObj.fro 1 (iE i_1.p.months)∧AObj.fro 1 (iE i.s.p.settle)=AObj.fro 1 (iE i_1.p.settle)∧True)) (∃ (o:Unit),(zO i.p i.B i.inst (zB i.sd)).fst.price=(zW i_3.l i_3.s).fst.price∧(zO i.p i.B i.inst (zB i.sd)).fst.qty=(zW i_3.l i_3.s).fst.qty∧(zO i.p i.B i.inst (zB i.sd)).fst.a.inst=(zW i_3.l i_3.s).fst.a.inst∧(zO i.p i.B i.inst (zB i.sd)).fst.a.side=(zW i_3.l i_3.s).fst.a.side∧(zO i.p i.B i.inst (zB i.sd)).fst.b.inst=(zW i_3.l i_3.s).fst.b.inst∧(zO i.p i.B i.inst (zB i.sd)).fst.b.side=(zW i_3.l i_3.s).fst.b.side∧(zO i.p i.B i.inst (zB i.sd)).snd.fst=(zW i_3.l i_3.s).snd∧(zO i.p i.B i.inst (zB i.sd)).snd.snd=(zW i_3.l i_3.s).snd∧sb i.s.p.code=sb i_1.p.code∧i.s.p.tick=i_1.p.tick∧i.s.p.low=i_1.p.low∧i.s.p.high=i_1.p.high∧i.s.p.wide=i_1.p.wide∧i.s.p.rule=i_1.p.rule∧i.s.p.top=i_1.p.top∧i.s.p.least=i_1.p.least∧i.s.p.part=i_1.p.part∧AObj.objs 64 Book 6 zM i.s.books none=AObj.objs 64 Book 6 zM (i_1.books.set i.inst.toNat x) none∧yJ i.s.wh=yJ i_1.wh∧AObj.fro 1 (iE i.s.p.months)=AObj.fro 1 (iE i_1.p.months)∧AObj.fro 1 (iE i.s.p.settle)=AObj.fro 1 (iE i_1.p.settle)∧True)
def zKt (i : NxI) : Prop :=
  (∃ (i_1:MSt),sb i_1.p.code=sb i.s.p.code∧i_1.p.tick=i.s.p.tick∧i_1.p.low=i.s.p.low∧i_1.p.high=i.s.p.high∧i_1.p.wide=i.s.p.wide∧i_1.p.rule=i.s.p.rule∧i_1.p.top=i.s.p.top∧i_1.p.least=i.s.p.least∧i_1.p.part=i.s.p.part∧AObj.objs 64 Book 6 zM i_1.books none=AObj.objs 64 Book 6 zM i.s.books none∧yJ i_1.wh=yJ i.s.wh∧AObj.fro 1 (iE i_1.p.months)=AObj.fro 1 (iE i.s.p.months)∧AObj.fro 1 (iE i_1.p.settle)=AObj.fro 1 (iE i.s.p.settle)∧(i_1.books.length≤1000000∧∀ (b:Book),b ∈ i_1.books→∀ (q:kB),q ∈ b.a.queues→(-9223372036854775808)≤q.count∧q.count≤9223372036854775807)∧∀ (o:Unit),True→(sb i_1.p.code=sb i.s.p.code∧True∧i_1.p.tick=i.s.p.tick∧i_1.p.low=i.s.p.low∧i_1.p.high=i.s.p.high∧i_1.p.wide=i.s.p.wide∧i_1.p.rule=i.s.p.rule∧i_1.p.top=i.s.p.top∧i_1.p.least=i.s.p.least∧i_1.p.part=i.s.p.part∧True∧True)∧(∃ (i_2:dP),sb i_2.i.p.code=sb i.s.p.code∧iE i_2.i.p.months=iE i_1.p.months∧i_2.i.p.tick=i.s.p.tick∧i_2.i.p.low=i.s.p.low∧i_2.i.p.high=i.s.p.high∧i_2.i.p.wide=i.s.p.wide∧i_2.i.p.rule=i.s.p.rule∧i_2.i.p.top=i.s.p.top∧i_2.i.p.least=i.s.p.least∧i_2.i.p.part=i.s.p.part∧iE i_2.i.p.settle=iE i_1.p.settle∧List.map zQ i_2.i.tops=List.map zQ i_1.tops∧i_2.i.inst=i.inst∧zB i_2.s=zB i.sd∧((i_2.i.p.code.length≤1099511627776∧i_2.i.p.months.length≤1099511627776∧i_2.i.p.settle.length≤1099511627776)∧i_2.i.tops.length≤1000000∧∀ (t:Top),t ∈ i_2.i.tops→((-9223372036854775808)≤t.p1∧t.p1≤9223372036854775807)∧(-9223372036854775808)≤t.p2∧t.p2≤9223372036854775807)∧∀ (o:Unit),True→(zCc i i_1 o i_2)∧zCc i i_1 o i_2)∧(sb i_1.p.code=sb i.s.p.code∧True∧i_1.p.tick=i.s.p.tick∧i_1.p.low=i.s.p.low∧i_1.p.high=i.s.p.high∧i_1.p.wide=i.s.p.wide∧i_1.p.rule=i.s.p.rule∧i_1.p.top=i.s.p.top∧i_1.p.least=i.s.p.least∧i_1.p.part=i.s.p.part∧True∧True)∧zBm i i_1 o)∧(sb i.s.p.code=sb i.s.p.code∧True∧i.s.p.tick=i.s.p.tick∧i.s.p.low=i.s.p.low∧i.s.p.high=i.s.p.high∧i.s.p.wide=i.s.p.wide∧i.s.p.rule=i.s.p.rule∧i.s.p.top=i.s.p.top∧i.s.p.least=i.s.p.least∧i.s.p.part=i.s.p.part∧True∧True)∧∃ (i_1:MSt),sb i_1.p.code=sb i.s.p.code∧i_1.p.tick=i.s.p.tick∧i_1.p.low=i.s.p.low∧i_1.p.high=i.s.p.high∧i_1.p.wide=i.s.p.wide∧i_1.p.rule=i.s.p.rule∧i_1.p.top=i.s.p.top∧i_1.p.least=i.s.p.least∧i_1.p.part=i.s.p.part∧AObj.objs 64 Book 6 zM i_1.books none=AObj.objs 64 Book 6 zM i.s.books none∧yJ i_1.wh=yJ i.s.wh∧AObj.fro 1 (iE i_1.p.months)=AObj.fro 1 (iE i.s.p.months)∧AObj.fro 1 (iE i_1.p.settle)=AObj.fro 1 (iE i.s.p.settle)∧(i_1.books.length≤1000000∧∀ (b:Book),b ∈ i_1.books→∀ (q:kB),q ∈ b.a.queues→(-9223372036854775808)≤q.count∧q.count≤9223372036854775807)∧∀ (o:Unit),True→(sb i_1.p.code=sb i.s.p.code∧True∧i_1.p.tick=i.s.p.tick∧i_1.p.low=i.s.p.low∧i_1.p.high=i.s.p.high∧i_1.p.wide=i.s.p.wide∧i_1.p.rule=i.s.p.rule∧i_1.p.top=i.s.p.top∧i_1.p.least=i.s.p.least∧i_1.p.part=i.s.p.part∧True∧True)∧zBm i i_1 o
theorem z6t (i : NxI) : zKt i = walk Try.prog ([(51,topsOC),(50,quotesC),(49,bestQC),(52,bestC),(45,bbetterC)]) 0 ([]) ([]) [0] Try.f25 (Try.f25.body.getD .skip) (nextC.pat i) (nextC.pre i) (nextC.alts i) := by kernel_rfl
theorem z3z (hG : GOk Try.prog ([(51,topsOC),(50,quotesC),(49,bestQC),(52,bestC),(45,bbetterC)])) (h : ∀ (i : NxI),nextC.cnd i → zKt i) : nextC.ok Try.prog 25 := zE mixed ([(51,topsOC),(50,quotesC),(49,bestQC),(52,bestC),(45,bbetterC)]) hG 0 (fun (i : NxI) => []) (fun (i : NxI) => []) [0] Try.func25 (by kernel_rfl) (by kernel_rfl) (by kernel_rfl) (fun _ => by kernel_rfl) (fun (i : NxI) hc => Eq.mp (z6t i) (h i hc))
@[reducible] def zFj (i_1 : BkS) (b : Bool) : AObj := Sx.AObj.cells [V.d (D.v (.int .i64 (i_1.b.best (i_1.b.side i_1.side)).fst.price)),V.d (D.v (.int .i64 (i_1.b.best (i_1.b.side i_1.side)).fst.qty)),V.d (D.v (.int .i64 (i_1.b.best (i_1.b.side i_1.side)).fst.count))] (58 : Nat)
@[reducible] def bK (i : TrI) : AObj := Sx.AObj.cells [V.d (D.v (.int .i64 i.inst)),V.d (D.v (.int .i64 (zB i.sd)))] (74 : Nat)
@[reducible] def zFl (i_1 : BkS) : AObj := Sx.AObj.cells [V.d (D.v (.int .i64 (i_1.b.best (i_1.b.side i_1.side)).fst.price)),V.d (D.v (.int .i64 (i_1.b.best (i_1.b.side i_1.side)).fst.qty)),V.d (D.v (.int .i64 (i_1.b.best (i_1.b.side i_1.side)).fst.count))] (58 : Nat)
def zCb (i : TrI) : Prop :=
  (0≤i.inst∧i.inst<(↑i.s.books.length:Int))∧i.inst.toNat<i.s.books.length∧∃ (x:Book),i.s.books[i.inst.toNat]?=some x∧∃ (i_1:BkS),zB i_1.side=zB i.sd∧yC i_1.b=yC x∧(∀ (q:kB),q ∈ i_1.b.a.queues→(-9223372036854775808)≤q.count∧q.count≤9223372036854775807)∧∀ (o:Unit),True→∃ (x:Book),yC i_1.b=yC x∧i.inst.toNat=i.inst.toNat∧i.inst.toNat<i.s.books.length∧∃ (x_1:Book),(i.s.books.set i.inst.toNat x)[i.inst.toNat]?=some x_1∧∃ (i_2:AtI),zB i_2.s=zB i.sd∧i_2.price=(i_1.b.best (i_1.b.side i_1.side)).fst.price∧yC i_2.b=yC x_1∧i_2.b.Rep i_2.L∧∀ (o:Unit),True→∃ (x_2:Book),yC i_2.b=yC x_2∧i.inst.toNat=i.inst.toNat∧i.inst.toNat<(i.s.books.set i.inst.toNat x).length∧∃ (i_3:AlI),sb i_3.p.code=sb i.s.p.code∧iE i_3.p.months=iE i.s.p.months∧i_3.p.tick=i.s.p.tick∧i_3.p.low=i.s.p.low∧i_3.p.high=i.s.p.high∧i_3.p.wide=i.s.p.wide∧i_3.p.rule=i.s.p.rule∧i_3.p.top=i.s.p.top∧i_3.p.least=i.s.p.least∧i_3.p.part=i.s.p.part∧iE i_3.p.settle=iE i.s.p.settle∧List.map zX i_3.l=List.map zX (atL i_2.L (zB i_2.s) i_2.price)∧i_3.q=i.q∧(i_3.l.length≤1000∧((-9223372036854775808)≤i_3.q∧i_3.q≤9223372036854775807)∧((-9223372036854775808)≤i_3.p.least∧i_3.p.least≤9223372036854775807)∧((-9223372036854775808)≤i_3.p.top∧i_3.p.top≤9223372036854775807)∧(-9223372036854775808)≤i_3.p.part∧i_3.p.part≤9223372036854775807)∧∀ (o:Unit),True→∃ (i0:Nat × MSt),(↑i0.fst:Int)=0∧sb i0.snd.p.code=sb i.s.p.code∧i0.snd.p.tick=i.s.p.tick∧i0.snd.p.low=i.s.p.low∧i0.snd.p.high=i.s.p.high∧i0.snd.p.wide=i.s.p.wide∧i0.snd.p.rule=i.s.p.rule∧i0.snd.p.top=i.s.p.top∧i0.snd.p.least=i.s.p.least∧i0.snd.p.part=i.s.p.part∧AObj.objs 64 Book 6 zM i0.snd.books none=AObj.objs 64 Book 6 zM ((i.s.books.set i.inst.toNat x).set i.inst.toNat x_2) none∧yJ i0.snd.wh=yJ i.s.wh∧AObj.fro 1 (iE i0.snd.p.months)=AObj.fro 1 (iE i.s.p.months)∧AObj.fro 1 (iE i0.snd.p.settle)=AObj.fro 1 (iE i.s.p.settle)∧List.map xD (i.fs i0.fst)=[]∧∃ (I:Nat × MSt→Prop),∃ (μ:Nat × MSt→Nat),I i0∧∀ (i_4:Nat × MSt),I i_4→cnd (decide ((↑i_4.fst:Int)<(↑(iE (xA i_3)).length:Int))) ((0≤(↑i_4.fst:Int)∧(↑i_4.fst:Int)<(↑(iE (xA i_3)).length:Int))∧∃ (n:Int),zG (iE (xA i_3)) (↑i_4.fst:Int).toNat 0 1=some [D.v (.int .i64 n)]∧cnd (decide (n > 0)) ((0≤(↑i_4.fst:Int)∧(↑i_4.fst:Int)<(↑(List.map zX (atL i_2.L (zB i_2.s) i_2.price)).length:Int))∧∃ (n_1:Int),∃ (n_2:Int),∃ (n_3:Int),∃ (n_4:Int),∃ (b:Bool),zG (List.map zX (atL i_2.L (zB i_2.s) i_2.price)) (↑i_4.fst:Int).toNat 0 5=some [D.v (.int .i64 n_1),D.v (.int .i64 n_2),D.v (.int .i64 n_3),D.v (.int .i64 n_4),D.v (.bool b)]∧∃ (i_5:StI),i_5.id=n_1∧i_5.q=n∧zR i_5.s=zR i_4.snd∧(i_5.s.Rep i_5.p i_5.B∧i_5.B.length≤1000)∧∀ (o:MSt),o.Rep i_5.p (qW i_5.B i_5.id i_5.q).fst→((List.map xD (i.fs i_4.fst)).length+1) * (48:Nat)≤(70368744177664:Nat)∧∃ (i':Nat × MSt),(↑i'.fst:Int)=IntKind.i64.wrap ((↑i_4.fst:Int)+1)∧zR i'.snd=zR o∧List.map xD (i.fs i'.fst)=List.map xD (i.fs i_4.fst)++[[D.v (.int .i64 n_1),D.v (.int .i64 i.inst),D.v (.int .i64 (zB i.sd)),D.v (.int .i64 n_3),D.v (.int .i64 n),D.v (.int .i64 (IntKind.i64.wrap (n_4 - n)))]]∧I i'∧μ i'<μ i_4∧AObj.own 2 1 (iE (xA i_3))=AObj.own 2 1 (iE (xA i_3))∧AObj.fro 5 (List.map zX (atL i_2.L (zB i_2.s) i_2.price))=AObj.fro 5 (List.map zX (atL i_2.L (zB i_2.s) i_2.price))∧zFj i_1 b=zFj i_1 b∧bK i=bK i∧AObj.fro 1 (iE i.s.p.months)=AObj.fro 1 (iE i.s.p.months)∧AObj.fro 1 (iE i.s.p.settle)=AObj.fro 1 (iE i.s.p.settle)) (∃ (i':Nat × MSt),(↑i'.fst:Int)=IntKind.i64.wrap ((↑i_4.fst:Int)+1)∧zR i'.snd=zR i_4.snd∧List.map xD (i.fs i'.fst)=List.map xD (i.fs i_4.fst)∧I i'∧μ i'<μ i_4∧AObj.own 2 1 (iE (xA i_3))=AObj.own 2 1 (iE (xA i_3))∧AObj.fro 5 (List.map zX (atL i_2.L (zB i_2.s) i_2.price))=AObj.fro 5 (List.map zX (atL i_2.L (zB i_2.s) i_2.price))∧zFl i_1=zFl i_1∧bK i=bK i∧AObj.fro 1 (iE i.s.p.months)=AObj.fro 1 (iE i.s.p.months)∧AObj.fro 1 (iE i.s.p.settle)=AObj.fro 1 (iE i.s.p.settle))) (∃ (o:MSt),zR o=zR i_4.snd∧List.map xD (yH i.p i.B i.inst (zB i.sd) i.q)=List.map xD (i.fs i_4.fst)∧o.Rep i.p (xF i.B (yH i.p i.B i.inst (zB i.sd) i.q)))
theorem z1c (i : TrI) : zCb i = walk Try.prog ([(52,bestC),(53,atC),(14,allocC),(54,stakeC)]) 0 ([]) (zVk i) [0] Try.f28 (Try.f28.body.getD .skip) (tradeC.pat i) (tradeC.pre i) (tradeC.alts i) := by kernel_rfl
theorem z0d (hG : GOk Try.prog ([(52,bestC),(53,atC),(14,allocC),(54,stakeC)])) (h : ∀ (i : TrI),tradeC.cnd i → zCb i) : tradeC.ok Try.prog 28 := zE mixed ([(52,bestC),(53,atC),(14,allocC),(54,stakeC)]) hG 0 (fun (i : TrI) => []) (fun (i : TrI) => zVk i) [0] Try.func28 (by kernel_rfl) (by kernel_rfl) (by kernel_rfl) (fun _ => by kernel_rfl) (fun (i : TrI) hc => Eq.mp (z1c i) (h i hc))
set_option linter.unusedSimpArgs false
open Go Cv Go.Proofs
theorem zFs {p : Prd} (hc : p.check = 0) {k v : Int} (h : p.price k v = 0) : -2000000 ≤ v ∧ v ≤ 2000000 := by
  have ok := xV hc
  have := ok.b1
  have := ok.b2
  have := ok.b3
  have := ok.b4
  have := ok.b5
  rw [Prd.price] at h
  by_cases c1 : p.count = 0
  · rw [if_pos c1] at h; cases h
  by_cases c2 : k < 0 ∨ (p.count : Int) ≤ k
  · rw [if_neg c1,if_pos c2] at h; cases h
  cases c3 : xL p.tick v with
  | true => rw [if_neg c1,if_neg c2,if_pos c3] at h; cases h
  | false =>
    rw [if_neg c1,if_neg c2,if_neg (by rw [c3]; decide)] at h
    by_cases c4 : (p.months.length : Int) ≤ k
    · simp only [if_pos c4] at h
      by_cases c5 : v < -p.wide ∨ p.wide < v
      · rw [if_pos c5] at h; cases h
      · omega
    · simp only [if_neg c4] at h
      by_cases c5 : v < p.low ∨ p.high < v
      · rw [if_pos c5] at h; cases h
      · omega
theorem pO {t : Int} (k : Int) : xL t (t * k) = false := by
  simp [xL,Int.mul_tmod_right]
theorem zGc (x : Prd) : (wH x).small := by
  have := zVr x
  refine ⟨by simp [wH],?_,?_⟩
  · show (qD _).length ≤ _
    rw [fN]; omega
  · show (xS _ _).length ≤ _
    rw [v9]; omega
theorem zEn (x : Prd) : (wH x).check = 0 := by
  have ht := zHm x
  have hn := zVr x
  have hw := yV (n := x.wide) (lo := 0) (hi := 60) (by omega)
  have hr := yV (n := x.rule) (lo := 0) (hi := 2) (by omega)
  have ho := yV (n := x.top) (lo := 0) (hi := 9) (by omega)
  have hl := yV (n := x.least) (lo := 0) (hi := 4) (by omega)
  have hp := yV (n := x.part) (lo := 0) (hi := 100) (by omega)
  have h1 : qO (wH x).code = true := by show qO [206,169] = true; decide +kernel
  obtain ⟨k,hk,hk1⟩ : ∃ k : Nat,(kN x).toNat = k ∧ (2 ≤ k ∧ k ≤ 5) := ⟨_,rfl,by omega⟩
  have h2 : yT (wH x).months = true := by
    show yT (qD (kN x).toNat) = true
    rw [hk]
    have : k = 2 ∨ k = 3 ∨ k = 4 ∨ k = 5 := by omega
    rcases this with rfl | rfl | rfl | rfl <;> decide
  have h3 : xI (wH x) = true := by
    have a : xL (yB x) (-20 * yB x) = false := by rw [Int.mul_comm]; exact pO _
    have b : xL (yB x) (100 * yB x) = false := by rw [Int.mul_comm]; exact pO _
    have c : (xS (yB x) (kN x).toNat).any (xL (yB x)) = false := by
      rw [List.any_eq_false]
      intro y hy
      obtain ⟨j,_,rfl⟩ := List.mem_map.1 hy
      rw [pO]; decide
    simp only [xI,wH,a,b,c,pO,Bool.not_false,Bool.and_true,Bool.and_eq_true]
    exact ⟨decide_eq_true (by omega),decide_eq_true (by omega)⟩
  have mw := zCz (a := yB x) (b := 5 + zD x.wide 0 60) (m := yB x) (n := 65) (by omega) (by omega)
  have h4 : xJ (wH x) = false := by
    simp only [xJ,wH,Bool.or_eq_false_iff]
    exact ⟨⟨⟨⟨decide_eq_false (by omega),decide_eq_false (by omega)⟩,decide_eq_false (by omega)⟩,decide_eq_false (by omega)⟩,decide_eq_false (by omega)⟩
  have h5 : yW (wH x) = false := by
    have e : (xS (yB x) (kN x).toNat).length = (qD (kN x).toNat).length := by rw [v9,fN]
    have ne : xS (yB x) (kN x).toNat ≠ [] := by
      intro hc
      have := v9 (yB x) (kN x).toNat
      rw [hc] at this
      simp at this
      omega
    have bd : ∀ y ∈ xS (yB x) (kN x).toNat,0 ≤ y ∧ y ≤ yB x * 15 := by
      intro y hy
      obtain ⟨j,hj,rfl⟩ := List.mem_map.1 hy
      have := List.mem_range.1 hj
      exact zCz (by omega) (by omega)
    have m1 := bd _ (zEv ne)
    have m2 := bd _ (zGi ne)
    simp only [yW,wH,e,ne_eq,not_true_eq_false,decide_false,Bool.false_or,Bool.or_eq_false_iff]
    exact ⟨decide_eq_false (by omega),decide_eq_false (by omega)⟩
  have h6 : xR (wH x) = false := by
    simp only [xR,wH,Bool.or_eq_false_iff]
    exact ⟨decide_eq_false (by omega),decide_eq_false (by omega)⟩
  have h7 : xC (wH x) = false := by
    simp only [xC,wH,Bool.or_eq_false_iff]
    exact ⟨⟨⟨⟨⟨decide_eq_false (by omega),decide_eq_false (by omega)⟩,decide_eq_false (by omega)⟩,decide_eq_false (by omega)⟩,decide_eq_false (by omega)⟩,decide_eq_false (by omega)⟩
  rw [Prd.check,h1,h2,h3,h4,h5,h6,h7]
  rfl
open Go Cv Go.Proofs
structure sH (qs sh : List Int) (q : Int) : Prop where
  len : sh.length = qs.length
  bd : ∀ n,0 ≤ sh.getD n 0 ∧ sh.getD n 0 ≤ qs.getD n 0
  sum : sh.sum = q
theorem zWq : ∀ {l : List Int},(∀ x ∈ l,0 ≤ x) → 0 ≤ l.sum
  | [],_ => Int.le_refl 0
  | a :: l,h => by
    have := zWq (l := l) fun x hx => h x (List.mem_cons_of_mem _ hx)
    have := h a List.mem_cons_self
    rw [List.sum_cons]; omega
theorem zMl : ∀ {z : List (Int × Int)},(∀ y ∈ z,0 ≤ y.2 ∧ y.2 ≤ y.1) → (z.map (·.2)).sum ≤ (z.map (·.1)).sum
  | [],_ => Int.le_refl 0
  | a :: l,h => by
    have := zMl (z := l) fun x hx => h x (List.mem_cons_of_mem _ hx)
    have := h a List.mem_cons_self
    rw [List.map_cons,List.map_cons,List.sum_cons,List.sum_cons]; omega
theorem fQ : ∀ (l : List Int) (q : Int),(∀ x ∈ l,0 ≤ x) → 0 ≤ q → q ≤ l.sum → sH l (xW l q) q
  | [],q,_,h0,h1 => ⟨rfl,fun n => by simp [xW],by simp at h1; simp [xW]; omega⟩
  | n :: l,q,h,h0,h1 => by
    have hn := h n List.mem_cons_self
    rw [List.sum_cons] at h1
    have := zWq fun x hx => h x (List.mem_cons_of_mem _ hx)
    have ih := fQ l (q - min n q) (fun x hx => h x (List.mem_cons_of_mem _ hx)) (by omega) (by omega)
    refine ⟨by rw [xW,List.length_cons,List.length_cons,ih.len],fun k => ?_,by rw [xW,List.sum_cons,ih.sum]; omega⟩
    cases k with
    | zero => exact ⟨by show 0 ≤ min n q; omega,by show min n q ≤ n; omega⟩
    | succ k => exact ih.bd k
theorem dY : ∀ (z : List (Int × Int)) (q : Int),(∀ y ∈ z,0 ≤ y.2 ∧ y.2 ≤ y.1) → 0 ≤ q → q ≤ (z.map (·.1)).sum - (z.map (·.2)).sum → (qQ z q).length = z.length ∧ (∀ n,0 ≤ (qQ z q).getD n 0 ∧ (qQ z q).getD n 0 ≤ (z.map (·.1)).getD n 0) ∧ (qQ z q).sum = (z.map (·.2)).sum + q
  | [],q,_,h0,h1 => ⟨rfl,fun n => by simp [qQ],by simp at h1; simp [qQ]; omega⟩
  | (n,x) :: r,q,h,h0,h1 => by
    have hn := h (n,x) List.mem_cons_self
    simp only [List.map_cons,List.sum_cons] at h1
    have := zMl fun y hy => h y (List.mem_cons_of_mem _ hy)
    have ih := dY r (q - min (n - x) q) (fun y hy => h y (List.mem_cons_of_mem _ hy)) (by omega) (by omega)
    refine ⟨by rw [qQ,List.length_cons,List.length_cons,ih.1],fun k => ?_,by rw [qQ,List.sum_cons,ih.2.2,List.map_cons,List.sum_cons]; omega⟩
    cases k with
    | zero => exact ⟨by show 0 ≤ x + min (n - x) q; have := hn.1; have := hn.2; dsimp only at *; omega,by show x + min (n - x) q ≤ n; have := hn.2; dsimp only at *; omega⟩
    | succ k => exact ih.2.1 k
theorem zIi {l : List Int} {q : Int} (h1 : l.length ≤ 250) (h2 : 0 ≤ q) (h3 : ∀ x ∈ l,1 ≤ x ∧ x ≤ 1000000) (h4 : q ≤ l.sum) : yI l q = true := by
  rw [yI,decide_eq_true h1,decide_eq_true h2,decide_eq_true h4]
  simp only [Bool.true_and,Bool.and_true,List.all_eq_true,Bool.and_eq_true,decide_eq_true_eq]
  exact h3
theorem zDe {i : PlI} (h : yI i.l i.q = true) (hl : 1 ≤ i.least) : sH i.l (qA i) i.q := by
  obtain ⟨r1,r2,r3,r4⟩ := qB h
  rw [qA,if_pos ⟨h,hl⟩]
  by_cases hne : i.l.length = 0
  · have e : i.l = [] := List.eq_nil_of_length_eq_zero hne
    have hq : i.q = 0 := by rw [e] at r4; simp at r4; omega
    have e0 : i.p1 = [] := by rw [PlI.p1,e]; rfl
    rw [e0,e,hq]
    exact ⟨rfl,fun n => by simp,rfl⟩
  · obtain ⟨_,_,f1,f2⟩ := bI h (by omega)
    have hpl := zJf i
    have m1 : (i.l.zip i.p0).map (·.1) = i.l := List.map_fst_zip (by omega)
    have m2 : (i.l.zip i.p0).map (·.2) = i.p0 := List.map_snd_zip (by omega)
    have hp := dY (i.l.zip i.p0) (i.q - i.p0.sum) (fun y hy => by
      obtain ⟨j,hj⟩ := List.mem_iff_getElem?.1 hy
      rw [List.getElem?_zip_eq_some] at hj
      exact f1 j _ _ hj.1 hj.2) (by omega) (by rw [m1,m2]; omega)
    rw [m1,m2] at hp
    refine ⟨?_,hp.2.1,?_⟩
    · rw [PlI.p1,hp.1,List.length_zip,hpl,Nat.min_self]
    · rw [PlI.p1,hp.2.2]; omega
theorem zBk : ∀ {l : List Int} {k : Nat} {x : Int},k < l.length → (l.set k x).sum = l.sum + (x - l.getD k 0)
  | [],k,x,h => absurd h (by simp)
  | a :: l,0,x,_ => by
    show x + l.sum = a + l.sum + (x - a); omega
  | a :: l,k + 1,x,h => by
    have := zBk (l := l) (k := k) (x := x) (by simpa using h)
    show a + (l.set k x).sum = a + l.sum + (x - l.getD k 0)
    omega
theorem sI {l : List Int} {k n : Nat} {x : Int} (h : k < l.length) : (l.set k x).getD n 0 = if n = k then x else l.getD n 0 := by
  rw [List.getD_eq_getElem?_getD,List.getElem?_set]
  by_cases e : k = n
  · subst e; rw [if_pos rfl,if_pos h,if_pos rfl]; rfl
  · rw [if_neg e,if_neg (fun e2 => e e2.symm),List.getD_eq_getElem?_getD]
theorem zIa {l : List Int} : ∀ (z : List (Nat × Int)) (o : List Int),(z.map (·.1)).Nodup → (∀ y ∈ z,y.1 < o.length ∧ 0 ≤ y.2 ∧ o.getD y.1 0 + y.2 ≤ l.getD y.1 0) → (∀ n,0 ≤ o.getD n 0 ∧ o.getD n 0 ≤ l.getD n 0 ∧ l.getD n 0 ≤ 1000000) →
    (z.foldl (fun o y => o.set y.1 (IntKind.i64.wrap (o.getD y.1 0 + y.2))) o).length = o.length ∧ (z.foldl (fun o y => o.set y.1 (IntKind.i64.wrap (o.getD y.1 0 + y.2))) o).sum = o.sum + (z.map (·.2)).sum ∧ ∀ n,0 ≤ (z.foldl (fun o y => o.set y.1 (IntKind.i64.wrap (o.getD y.1 0 + y.2))) o).getD n 0 ∧ (z.foldl (fun o y => o.set y.1 (IntKind.i64.wrap (o.getD y.1 0 + y.2))) o).getD n 0 ≤ l.getD n 0
  | [],o,_,_,h => ⟨rfl,by simp,fun n => ⟨(h n).1,(h n).2.1⟩⟩
  | y :: z,o,hn,hz,h => by
    obtain ⟨h1,h2,h3⟩ := hz y List.mem_cons_self
    rw [List.map_cons,List.nodup_cons] at hn
    have hw : IntKind.i64.wrap (o.getD y.1 0 + y.2) = o.getD y.1 0 + y.2 := by
      have := h y.1
      exact w64 (by omega)
    rw [List.foldl_cons,hw]
    have ih := zIa (l := l) z (o.set y.1 (o.getD y.1 0 + y.2)) hn.2 (fun x hx => by
      obtain ⟨g1,g2,g3⟩ := hz x (List.mem_cons_of_mem _ hx)
      have hne : x.1 ≠ y.1 := fun e => hn.1 (e ▸ List.mem_map_of_mem (f := (·.1)) hx)
      rw [List.length_set,sI h1,if_neg hne]
      exact ⟨g1,g2,g3⟩) (fun n => by
      rw [sI h1]
      split
      · rename_i e
        rw [e]
        exact ⟨by have := h y.1; omega,h3,(h y.1).2.2⟩
      · exact h n)
    refine ⟨by rw [ih.1,List.length_set],?_,ih.2.2⟩
    rw [ih.2.1,zBk h1,List.map_cons,List.sum_cons]; omega
theorem tG (l : List Int) : (List.range l.length).map (fun n => l.getD n 0) = l := by
  apply List.ext_getElem?
  intro n
  rw [List.getElem?_map]
  by_cases h : n < l.length
  · rw [List.getElem?_range h,List.getElem?_eq_getElem h,Option.map_some,List.getD_eq_getElem?_getD,List.getElem?_eq_getElem h]; rfl
  · rw [List.getElem?_eq_none (by simpa using h),List.getElem?_eq_none (by omega)]; rfl
theorem zMz {f g : Nat → Int} : ∀ l : List Nat,(l.map fun n => f n - g n).sum = (l.map f).sum - (l.map g).sum
  | [] => rfl
  | a :: l => by rw [List.map_cons,List.map_cons,List.map_cons,List.sum_cons,List.sum_cons,List.sum_cons,zMz l]; omega
theorem rU {f : Nat → Int} {p : Nat → Bool} : ∀ {l : List Nat},(∀ n ∈ l,p n = false → f n = 0) → ((l.filter p).map f).sum = (l.map f).sum
  | [],_ => rfl
  | a :: l,h => by
    have ih := rU (l := l) fun n hn => h n (List.mem_cons_of_mem _ hn)
    rw [List.map_cons,List.sum_cons]
    by_cases e : p a = true
    · rw [List.filter_cons_of_pos e,List.map_cons,List.sum_cons,ih]
    · rw [List.filter_cons_of_neg e,ih,h a List.mem_cons_self (by simpa using e)]; omega
theorem fA {i : RsI} (hl : i.l.length ≤ 250) (ho : i.out.length = i.l.length) (hn : ∀ n,0 ≤ i.out.getD n 0 ∧ i.out.getD n 0 ≤ i.l.getD n 0 ∧ i.l.getD n 0 ≤ 1000000) (hq : 0 ≤ i.q ∧ i.q ≤ i.l.sum - i.out.sum) (hle : 1 ≤ i.least) :
    sH i.l (vX i) (i.out.sum + i.q) := by
  have hidx : (i.idx i.l.length).length ≤ 250 := Nat.le_trans (List.length_filter_le _ _) (by simpa using hl)
  have hmem : ∀ n ∈ i.idx i.l.length,n < i.l.length ∧ i.out.getD n 0 < i.l.getD n 0 := by
    intro n hn
    obtain ⟨a,b⟩ := List.mem_filter.1 hn
    exact ⟨List.mem_range.1 a,of_decide_eq_true b⟩
  have hls : (i.left i.l.length).sum = i.l.sum - i.out.sum := by
    rw [RsI.left,RsI.idx,rU,zMz,tG]
    · rw [← ho,tG]
    · intro n _ e
      have := of_decide_eq_false e
      have := hn n
      omega
  have hr : yI (i.left i.l.length) i.q = true := by
    refine zIi (by rw [RsI.left,List.length_map]; exact hidx) hq.1 (fun x hx => ?_) (by omega)
    obtain ⟨n,hm,rfl⟩ := List.mem_map.1 hx
    have := hmem n hm
    have := hn n
    omega
  have hp := zDe (i := ⟨i.left i.l.length,i.least,i.q⟩) hr hle
  have hpl : i.pl.length = (i.idx i.l.length).length := by
    have := hp.len
    rw [RsI.pl,this,RsI.left,List.length_map]
  have hnd : (i.idx i.l.length).Nodup := List.nodup_range.sublist List.filter_sublist
  have z1 : ((i.idx i.l.length).zip i.pl).map (·.1) = i.idx i.l.length := List.map_fst_zip (by omega)
  have z2 : ((i.idx i.l.length).zip i.pl).map (·.2) = i.pl := List.map_snd_zip (by omega)
  have hf := zIa (l := i.l) ((i.idx i.l.length).zip i.pl) i.out (by rw [z1]; exact hnd) (fun y hy => by
    obtain ⟨j,hj⟩ := List.mem_iff_getElem?.1 hy
    rw [List.getElem?_zip_eq_some] at hj
    have hm := hmem y.1 (List.mem_of_getElem? hj.1)
    have hb := hp.bd j
    have e1 : (qA ⟨i.left i.l.length,i.least,i.q⟩).getD j 0 = y.2 := by
      rw [List.getD_eq_getElem?_getD]
      have : (qA ⟨i.left i.l.length,i.least,i.q⟩)[j]? = some y.2 := hj.2
      rw [this]; rfl
    have e2 : (i.left i.l.length).getD j 0 = i.l.getD y.1 0 - i.out.getD y.1 0 := by
      rw [List.getD_eq_getElem?_getD,RsI.left,List.getElem?_map,hj.1]; rfl
    dsimp only at hb
    rw [e1,e2] at hb
    exact ⟨by omega,hb.1,by omega⟩) hn
  have hall : vX i = ((i.idx i.l.length).zip i.pl).foldl (fun o y => o.set y.1 (IntKind.i64.wrap (o.getD y.1 0 + y.2))) i.out := by
    rw [vX,RsI.add,List.take_of_length_le (by rw [List.length_zip]; omega)]
  rw [hall]
  refine ⟨by rw [hf.1,ho],hf.2.2,?_⟩
  rw [hf.2.1,z2]
  have := hp.sum
  rw [RsI.pl,this]
theorem zKv {l : List Int} (h : ∀ x ∈ l,1 ≤ x ∧ x ≤ 1000000) (n : Nat) : 0 ≤ l.getD n 0 ∧ l.getD n 0 ≤ 1000000 := by
  by_cases hn : n < l.length
  · obtain ⟨x,hx⟩ := z9 hn
    have := h x (List.mem_of_getElem? hx)
    rw [zU hx]; omega
  · rw [List.getD_eq_getElem?_getD,List.getElem?_eq_none (by omega)]; decide
theorem z6s (n k : Nat) : (List.replicate n (0 : Int)).getD k 0 = 0 := by
  rw [List.getD_eq_getElem?_getD,List.getElem?_replicate]
  split <;> rfl
theorem sD (n : Nat) : (List.replicate n (0 : Int)).sum = 0 := by
  induction n with
  | zero => rfl
  | succ n ih => rw [List.replicate_succ,List.sum_cons,ih]; rfl
theorem z6e {q part : Int} (hq : 0 ≤ q) (h0 : 0 ≤ part) (h1 : part ≤ 100) : 0 ≤ q * part / 100 ∧ q * part / 100 ≤ q := by
  have h2 : 0 ≤ q * part := Int.mul_nonneg hq h0
  have h3 : q * part ≤ q * 100 := Int.mul_le_mul_of_nonneg_left h1 hq
  constructor <;> omega
theorem bH {p : Prd} (hc : p.check = 0) {l : List zH} {q : Int} (hr : yI (l.map (·.qty)) q = true) : sH (l.map (·.qty)) (xA ⟨p,l,q⟩) q := by
  have ok := xV hc
  obtain ⟨r1,r2,r3,r4⟩ := qB hr
  have q1 := ok.q1
  have q3 := ok.q3
  have q5 := ok.q5
  have q6 := ok.q6
  have r5 := ok.r1
  have r6 := ok.r2
  have gb := zKv r3
  have eqs : (AlI.qs ⟨p,l,q⟩) = l.map (·.qty) := rfl
  rw [xA]
  simp only [eqs]
  generalize l.map (·.qty) = qs at *
  by_cases c1 : p.rule = 1
  · rw [if_pos c1,jD,if_pos hr]
    exact fQ _ _ (fun x hx => by have := r3 x hx; omega) r2 r4
  by_cases c2 : p.rule = 2
  · rw [if_neg c1,if_pos c2,cW,if_pos ⟨hr,q3,q1⟩]
    rw [PsI.rs]
    dsimp only
    split
    · rename_i ht
      have hk : (topI l).toNat < (List.replicate qs.length (0 : Int)).length := by simp; omega
      have hf : 0 ≤ PsI.first ⟨qs,topI l,p.top,p.least,q⟩ ∧ PsI.first ⟨qs,topI l,p.top,p.least,q⟩ ≤ qs.getD (topI l).toNat 0 ∧ PsI.first ⟨qs,topI l,p.top,p.least,q⟩ ≤ q := by
        have := gb (topI l).toNat
        simp only [PsI.first]
        omega
      have hs : ((List.replicate qs.length (0 : Int)).set (topI l).toNat (PsI.first ⟨qs,topI l,p.top,p.least,q⟩)).sum = PsI.first ⟨qs,topI l,p.top,p.least,q⟩ := by
        rw [zBk hk,sD,z6s]; omega
      have := fA (i := ⟨qs,(List.replicate qs.length 0).set (topI l).toNat (PsI.first ⟨qs,topI l,p.top,p.least,q⟩),p.least,q - PsI.first ⟨qs,topI l,p.top,p.least,q⟩⟩) r1 (by simp) (fun n => by
        dsimp only
        rw [sI hk,z6s]
        have := gb n
        split
        · rename_i e; rw [e]; exact ⟨hf.1,hf.2.1,(gb _).2⟩
        · omega) (by dsimp only; rw [hs]; omega) q3
      dsimp only at this
      rw [hs] at this
      have e : PsI.first ⟨qs,topI l,p.top,p.least,q⟩ + (q - PsI.first ⟨qs,topI l,p.top,p.least,q⟩) = q := by omega
      rw [e] at this
      exact this
    · have := fA (i := ⟨qs,List.replicate qs.length 0,p.least,q⟩) r1 (by simp) (fun n => by
        dsimp only
        rw [z6s]
        have := gb n
        omega) (by dsimp only; rw [sD]; omega) q3
      dsimp only at this
      rw [sD,Int.zero_add] at this
      exact this
  · have c3 : p.rule = 3 := by omega
    rw [if_neg c1,if_neg c2,if_pos c3,cP,if_pos ⟨hr,q5,q6,q3⟩]
    rw [SpI.rs]
    dsimp only
    obtain ⟨d1,d2⟩ := z6e r2 q5 q6
    have hr2 : yI qs (q * p.part / 100) = true   := zIi r1 d1 r3 (by omega)
    have hfs := fQ qs (q * p.part / 100) (fun x hx => by have := r3 x hx; omega) d1 (by omega)
    have e0 : jD qs (q * p.part / 100) = xW qs (q * p.part / 100) := by rw [jD,if_pos hr2]
    have := fA (i := ⟨qs,jD qs (q * p.part / 100),p.least,q - q * p.part / 100⟩) r1 (by dsimp only; rw [e0]; exact hfs.len) (fun n => by
      dsimp only
      rw [e0]
      exact ⟨(hfs.bd n).1,(hfs.bd n).2,(gb n).2⟩) (by dsimp only; rw [e0,hfs.sum]; omega) q3
    dsimp only at this
    rw [e0,hfs.sum] at this
    rw [e0]
    have e : q * p.part / 100 + (q - q * p.part / 100) = q := by omega
    rw [e] at this
    exact this
theorem zKd {p : Prd} {l : List zH} {q : Int} (hr : yI (l.map (·.qty)) q = false) : xA ⟨p,l,q⟩ = [] := by
  have eqs : (AlI.qs ⟨p,l,q⟩) = l.map (·.qty) := rfl
  rw [xA]
  simp only [eqs,jD,cW,cP,hr]
  simp
open Go Cv Go.Proofs
theorem zPc : motherC.ok Try.prog 26 := zXg gok0 fun b _ => by
  unfold zBa
  cases b <;> exact ⟨(),by decide,trivial⟩
theorem zTu : mgoodC.ok Try.prog 27 := z2i gok0 fun i _ => by
  obtain ⟨s,p,x⟩ := i
  unfold zIs
  cases s
  · refine Cv.cnd.mk (fun _ => zT (fun c => ⟨(),?_,trivial⟩) (fun c => Cv.cnd.mk (fun e => by simp [zB] at e) (fun _ => ⟨(),?_,trivial⟩))) (fun e => by simp [zB] at e)
    · exact decide_eq_true c
    · exact decide_eq_false c
  · exact Cv.cnd.mk (fun e => by simp [zB] at e) (fun _ => Cv.cnd.mk (fun _ => ⟨(),rfl,trivial⟩) (fun e => by simp [zB] at e))
theorem zHb {L : List zH} {s : Int} : ((bestL L s).2 = true ∧ ∃ o ∈ L,o.side = s ∧ o.price = (bestL L s).1.price) ∨ (bestL L s = (⟨0,0,0⟩,false) ∧ ∀ o ∈ L,o.side ≠ s) := by
  rw [bestL]
  cases hl : pV L s with
  | nil =>
    refine .inr ⟨rfl,fun o ho e => ?_⟩
    rw [pV] at hl
    cases hf : L.filter fun o => decide (o.side = s) with
    | nil =>
      rw [List.filter_eq_nil_iff] at hf
      have := hf o ho
      simp [e] at this
    | cons x y =>
      rw [hf,grp] at hl
      split at hl
      · cases hl
      · split at hl <;> cases hl
  | cons v vs =>
    refine .inl ⟨rfl,?_⟩
    rw [pV] at hl
    obtain ⟨o,r,e1,e2⟩ := rO hl
    have : o ∈ L.filter fun o => decide (o.side = s) := by rw [e1]; exact List.mem_cons_self
    rw [List.mem_filter] at this
    exact ⟨o,this.1,by simpa using this.2,e2⟩
theorem zBb {L : List zH} {s : Int} (h : ∀ o ∈ L,-2000000 ≤ o.price ∧ o.price ≤ 2000000) : -2000000 ≤ (bestL L s).1.price ∧ (bestL L s).1.price ≤ 2000000 := by
  rcases zHb (L := L) (s := s) with ⟨_,o,ho,_,e⟩ | ⟨e,_⟩
  · rw [← e]; exact h o ho
  · rw [e]; constructor <;> decide
theorem zDw (L : List zH) : (vQ L).p1 = (bestL L 1).1.price ∧ (vQ L).q1 = (bestL L 1).1.qty ∧ (vQ L).has1 = (bestL L 1).2 ∧ (vQ L).p2 = (bestL L 2).1.price ∧ (vQ L).q2 = (bestL L 2).1.qty ∧ (vQ L).has2 = (bestL L 2).2 := by
  have h : ∀ s,(bestL L s).2 = true ∨ bestL L s = (⟨0,0,0⟩,false) := fun s => by
    rcases zHb (L := L) (s := s) with ⟨h,_⟩ | ⟨h,_⟩
    · exact .inl h
    · exact .inr h
  rw [vQ,Top.sell,Top.buy]
  rcases h 1 with h1 | h1 <;> rcases h 2 with h2 | h2 <;> simp [h1,h2,top0]
theorem BOk.prices {p : Prd} {B : List (List zH)} (h : BOk p B) {k : Nat} {L : List zH} (hL : B[k]? = some L) : ∀ o ∈ L,-2000000 ≤ o.price ∧ o.price ≤ 2000000 := fun o ho => zFs h.pc (h.pr k L hL o ho)
theorem BOk.tops {p : Prd} {B : List (List zH)} (h : BOk p B) : k0 (B.map vQ) := by
  have := j1 p
  refine ⟨by rw [List.length_map,h.bl]; omega,fun t ht => ?_⟩
  obtain ⟨L,hL,rfl⟩ := List.mem_map.1 ht
  obtain ⟨k,hk⟩ := List.mem_iff_getElem?.1 hL
  have b1 := zBb (s := 1) (h.prices hk)
  have b2 := zBb (s := 2) (h.prices hk)
  rw [(zDw L).1,(zDw L).2.2.2.1]
  exact ⟨by constructor <;> omega,by constructor <;> omega⟩
theorem MSt.Rep.tops {s : MSt} {p : Prd} {B : List (List zH)} (h : s.Rep p B) : s.tops = B.map vQ := by
  rw [MSt.tops]
  apply List.ext_getElem?
  intro k
  rw [List.getElem?_map,List.getElem?_map]
  by_cases hk : k < B.length
  · obtain ⟨L,hL⟩ := z9 hk
    obtain ⟨b,hb⟩ := z9 (l := s.books) (i := k) (by rw [h.bl]; exact hk)
    rw [hL,hb,Option.map_some,Option.map_some,(h.bk k b L hb hL).top]
  · rw [List.getElem?_eq_none (by rw [h.bl]; omega),List.getElem?_eq_none (by omega)]; rfl
theorem MSt.Rep.cnt {s : MSt} {p : Prd} {B : List (List zH)} (h : s.Rep p B) (hB : B.length ≤ 1000000) : s.cntOk := by
  refine ⟨by rw [h.bl]; exact hB,fun b hb => ?_⟩
  obtain ⟨k,hk⟩ := List.mem_iff_getElem?.1 hb
  have hlt := (List.getElem?_eq_some_iff.1 hk).1
  rw [h.bl] at hlt
  obtain ⟨L,hL⟩ := z9 hlt
  exact (h.bk k b L hk hL).cnt
theorem zGr {b : Book} {L : List zH} (h : b.Rep L) (sd : Bool) : b.best (b.side sd) = bestL L (zB sd) := by
  obtain ⟨Q,c,ht,rfl⟩ := h
  cases sd
  · exact c.bestL (.inl rfl)
  · exact c.bestL (.inr rfl)
theorem c9 (sd : Bool) : zB sd = 1 ∨ zB sd = 2 := by cases sd; exact .inl rfl; exact .inr rfl
theorem yAf (i : NxI) (h : nextC.cnd i) : zKt i := by
  obtain ⟨hR,hB,h0,h1⟩ : i.s.Rep i.p i.B ∧ BOk i.p i.B ∧ 0 ≤ i.inst ∧ i.inst < i.B.length := h
  have hcl := j1 i.p
  have hbl := hB.bl
  have hsl := hR.bl
  obtain ⟨k,hk⟩ : ∃ k : Nat,i.inst = k := ⟨i.inst.toNat,by omega⟩
  obtain ⟨L,hL⟩ := z9 (l := i.B) (i := k) (by omega)
  obtain ⟨b,hb⟩ := z9 (l := i.s.books) (i := k) (by omega)
  have hbR := hR.bk k b L hb hL
  have hps : i.s.p.small := by rw [hR.ep]; exact hB.ps
  have hto : k0 i.s.tops := by rw [hR.tops]; exact hB.tops
  have hnx : zO i.p i.B i.inst (zB i.sd) = if ((bestL L (zB i.sd)).2 && !((zW (qY ⟨i.s.p,i.s.tops,i.inst⟩ (zB i.sd)) (zB i.sd)).2 && btr (zB i.sd) (zW (qY ⟨i.s.p,i.s.tops,i.inst⟩ (zB i.sd)) (zB i.sd)).1.price (bestL L (zB i.sd)).1.price)) = true then (⟨(bestL L (zB i.sd)).1.price,(bestL L (zB i.sd)).1.qty,⟨0,0⟩,⟨0,0⟩⟩,false,true) else ((zW (qY ⟨i.s.p,i.s.tops,i.inst⟩ (zB i.sd)) (zB i.sd)).1,(zW (qY ⟨i.s.p,i.s.tops,i.inst⟩ (zB i.sd)) (zB i.sd)).2,(zW (qY ⟨i.s.p,i.s.tops,i.inst⟩ (zB i.sd)) (zB i.sd)).2) := by
    rw [zO,hR.tops,hR.ep,hk,Int.toNat_natCast,zU hL]
  have hbest := zGr hbR i.sd
  unfold zKt zBm zCc
  have hcnt : i.s.cntOk := hR.cnt (by omega)
  have hql : (qY ⟨i.s.p,i.s.tops,i.inst⟩ (zB i.sd)).length ≤ 1000000 := by
    have := Nat.le_trans (List.length_filter_le (fun q => decide (i.s.p.price i.inst q.price = 0)) _) (zEt ⟨i.s.p,i.s.tops,i.inst⟩ (zB i.sd))
    exact Nat.le_trans this (by decide)
  refine (fun hT => ⟨⟨i.s,rfl,rfl,rfl,rfl,rfl,rfl,rfl,rfl,rfl,rfl,rfl,rfl,rfl,hcnt,fun _ _ => ⟨⟨rfl,trivial,rfl,rfl,rfl,rfl,rfl,rfl,rfl,rfl,trivial,trivial⟩,⟨⟨⟨i.s.p,i.s.tops,i.inst⟩,i.sd⟩,rfl,rfl,rfl,rfl,rfl,rfl,rfl,rfl,rfl,rfl,rfl,rfl,rfl,rfl,⟨hps,hto⟩,fun _ _ => ⟨hT,hT⟩⟩,⟨rfl,trivial,rfl,rfl,rfl,rfl,rfl,rfl,rfl,rfl,trivial,trivial⟩,⟨⟨⟨i.s.p,i.s.tops,i.inst⟩,i.sd⟩,rfl,rfl,rfl,rfl,rfl,rfl,rfl,rfl,rfl,rfl,rfl,rfl,rfl,rfl,⟨hps,hto⟩,fun _ _ => hT⟩⟩⟩,
    ⟨rfl,trivial,rfl,rfl,rfl,rfl,rfl,rfl,rfl,rfl,trivial,trivial⟩,⟨i.s,rfl,rfl,rfl,rfl,rfl,rfl,rfl,rfl,rfl,rfl,rfl,rfl,rfl,hcnt,fun _ _ => ⟨⟨rfl,trivial,rfl,rfl,rfl,rfl,rfl,rfl,rfl,rfl,trivial,trivial⟩,⟨⟨⟨i.s.p,i.s.tops,i.inst⟩,i.sd⟩,rfl,rfl,rfl,rfl,rfl,rfl,rfl,rfl,rfl,rfl,rfl,rfl,rfl,rfl,⟨hps,hto⟩,fun _ _ => hT⟩⟩⟩⟩) ?_
  refine ⟨⟨qY ⟨i.s.p,i.s.tops,i.inst⟩ (zB i.sd),zB i.sd⟩,rfl,rfl,⟨c9 _,hql⟩,fun _ _ => ⟨⟨h0,by omega⟩,by omega,b,by rw [hk]; exact hb,⟨i.sd,b⟩,rfl,rfl,hbR.cnt,fun _ _ => ⟨b,rfl,rfl,by omega,?_⟩⟩⟩
  dsimp only
  rw [hbest]
  generalize bestL L (zB i.sd) = l at *
  generalize zW (qY ⟨i.s.p,i.s.tops,i.inst⟩ (zB i.sd)) (zB i.sd) = bq at *
  have hset : i.s.books.set i.inst.toNat b = i.s.books := jP (by rw [hk]; exact hb)
  rw [hset]
  refine Cv.cnd.mk (fun c1 => Cv.cnd.mk (fun c2 => ⟨⟨zB i.sd,bq.1.price,l.1.price⟩,rfl,rfl,rfl,trivial,fun _ _ => Cv.cnd.mk (fun c3 => ?_) (fun c3 => ?_)⟩) (fun c2 => ?_)) (fun c1 => ?_)
  · dsimp only at c3
    rw [if_pos (by rw [c1,c2]; simpa using c3)] at hnx
    rw [hnx]; exact ⟨(),by (repeat' (first|exact trivial|exact rfl|apply And.intro))⟩
  · dsimp only at c3
    rw [if_neg (by rw [c1,c2]; simpa using c3)] at hnx
    rw [hnx]; exact ⟨(),by (repeat' (first|exact trivial|exact rfl|apply And.intro))⟩
  · rw [if_pos (by rw [c1,c2]; rfl)] at hnx
    rw [hnx]; exact ⟨(),by (repeat' (first|exact trivial|exact rfl|apply And.intro))⟩
  · rw [if_neg (by rw [c1]; simp)] at hnx
    rw [hnx]; exact ⟨(),by (repeat' (first|exact trivial|exact rfl|apply And.intro))⟩
theorem z0e : nextC.ok Try.prog 25 := z3z (gokc zSi (gokc zOk (gokc zTz (gokc zEf (gokc vO gok0))))) yAf
theorem zKw (i : RsI) (k : Nat) : (i.add k).length = i.out.length := by
  have : ∀ (l : List (Nat × Int)) (o : List Int),(l.foldl (fun o y => o.set y.1 (IntKind.i64.wrap (o.getD y.1 0 + y.2))) o).length = o.length := by
    intro l
    induction l with
    | nil => intro o; rfl
    | cons x l ih => intro o; rw [List.foldl_cons,ih,List.length_set]
  exact this _ _
theorem zFi (l : List Int) (q : Int) : (jD l q).length ≤ l.length := by
  rw [jD]; split
  · rw [gX]; exact Nat.le_refl _
  · exact Nat.zero_le _
theorem zPw (i : AlI) : (xA i).length ≤ i.l.length := by
  have hq : i.qs.length = i.l.length := by simp [AlI.qs]
  rw [xA,← hq]
  repeat' split
  · exact zFi _ _
  · rw [cW]; split
    · rw [vX,zKw,PsI.rs]
      split
      · simp
      · simp
    · exact Nat.zero_le _
  · rw [cP]; split
    · rw [vX,zKw]; exact zFi _ _
    · exact Nat.zero_le _
  · exact Nat.zero_le _
theorem p9 {inst s : Int} : ∀ {os : List zH} {sh : List Int} {j : Nat} {o : zH} {k : Int},os[j]? = some o → sh[j]? = some k → yK inst s (os.take (j + 1)) (sh.take (j + 1)) = yK inst s (os.take j) (sh.take j) ++ (if 0 < k then [⟨o.id,inst,s,o.price,k,o.qty - k⟩] else [])
  | [],_,_,_,_,h,_ => by simp at h
  | _ :: _,[],_,_,_,_,h => by simp at h
  | o :: os,k :: sh,0,_,_,h,h2 => by
    cases h; cases h2
    rw [List.take_succ_cons,List.take_succ_cons,List.take_zero,List.take_zero,List.take_zero,List.take_zero,yK]
    split <;> rfl
  | o :: os,k :: sh,j + 1,o',k',h,h2 => by
    rw [List.take_succ_cons,List.take_succ_cons,yK,List.take_succ_cons,List.take_succ_cons,yK,p9 (os := os) (sh := sh) (j := j) h h2]
    split <;> rfl
theorem eW {inst s : Int} : ∀ (os : List zH) (sh : List Int),yK inst s (os.take sh.length) (sh.take sh.length) = yK inst s os sh
  | [],sh => by simp
  | _ :: _,[] => by simp [yK]
  | o :: os,k :: sh => by
    rw [List.length_cons,List.take_succ_cons,List.take_succ_cons,yK,yK,eW os sh]
theorem zRh (B : List (List zH)) (a b : List jT) : xF B (a ++ b) = xF (xF B a) b := List.foldl_append
theorem zGq (B : List (List zH)) (id q : Int) : (qW B id q).1.length = B.length := by
  rw [qW]; split
  · rfl
  · simp
theorem wV : ∀ (fs : List jT) (B : List (List zH)),(xF B fs).length = B.length
  | [],B => rfl
  | f :: fs,B => by
    show (xF (qW B f.id f.qty).1 fs).length = _
    rw [wV fs,zGq]
theorem z4a {p : Prd} (h : p.check = 0) : yN p.least ∧ yN p.top ∧ yN p.part := by
  have ok := xV h
  have := ok.q1
  have := ok.q2
  have := ok.q3
  have := ok.q4
  have := ok.q5
  have := ok.q6
  exact ⟨⟨by omega,by omega⟩,⟨by omega,by omega⟩,⟨by omega,by omega⟩⟩
theorem z4w (i : TrI) (h : tradeC.cnd i) : zCb i := by
  obtain ⟨hR,hB,h0,h1,hq⟩ : i.s.Rep i.p i.B ∧ BOk i.p i.B ∧ 0 ≤ i.inst ∧ i.inst < i.B.length ∧ yN i.q := h
  have hcl := j1 i.p
  have hbl := hB.bl
  have hsl := hR.bl
  have ep := hR.ep
  obtain ⟨k,hk⟩ : ∃ k : Nat,i.inst = k := ⟨i.inst.toNat,by omega⟩
  obtain ⟨L,hL⟩ := z9 (l := i.B) (i := k) (by omega)
  obtain ⟨b,hb⟩ := z9 (l := i.s.books) (i := k) (by omega)
  have hbR := hR.bk k b L hb hL
  have hbest := zGr hbR i.sd
  have hos : atL L (zB i.sd) (bestL L (zB i.sd)).1.price = i.os := by rw [TrI.os,fH,hk,Int.toNat_natCast,zU hL]
  have hset : i.s.books.set i.inst.toNat b = i.s.books := jP (by rw [hk]; exact hb)
  have hosl : i.os.length ≤ 250 := by
    rw [← hos]; exact Nat.le_trans (List.length_filter_le _ _) hbR.ords.2.2
  have hsh : i.sh.length ≤ i.os.length := zPw _
  obtain ⟨k1,k2,k3⟩ := z4a hB.pc
  have hsb : ∀ (j : Nat) (n : Int),i.sh[j]? = some n → n ≤ 1000000 := by
    intro j n hn
    cases hr : yI (i.os.map (·.qty)) i.q with
    | false =>
      have : i.sh = [] := zKd hr
      rw [this] at hn; cases hn
    | true =>
      have := (bH hB.pc hr).bd j
      have e : (xA ⟨i.p,i.os,i.q⟩).getD j 0 = n := zU hn
      rw [e] at this
      have := (zKv (qB hr).2.2.1 j).2
      omega
  unfold zCb
  refine ⟨⟨h0,by omega⟩,by omega,b,by rw [hk]; exact hb,⟨i.sd,b⟩,rfl,rfl,hbR.cnt,fun _ _ => ?_⟩
  refine ⟨b,rfl,rfl,by omega,b,by rw [hset,hk]; exact hb,⟨b,L,i.sd,(bestL L (zB i.sd)).1.price⟩,rfl,by dsimp only; rw [hbest],rfl,hbR,fun _ _ => ?_⟩
  dsimp only
  try rw [hbest]
  rw [hset,hos]
  refine ⟨b,rfl,rfl,by omega,⟨i.p,i.os,i.q⟩,by rw [ep],by rw [ep],by rw [ep],by rw [ep],by rw [ep],by rw [ep],by rw [ep],by rw [ep],by rw [ep],by rw [ep],by rw [ep],rfl,rfl,⟨by dsimp only;omega,hq,k1,k2,k3⟩,fun _ _ => ?_⟩
  have esh : xA ⟨i.p,i.os,i.q⟩ = i.sh := rfl
  rw [esh,hset,yU,List.length_map]
  refine ⟨(0,i.s),rfl,rfl,rfl,rfl,rfl,rfl,rfl,rfl,rfl,rfl,rfl,rfl,rfl,rfl,rfl,fun j => j.2.Rep i.p (xF i.B (i.fs j.1)) ∧ j.1 ≤ i.sh.length,fun j => i.sh.length - j.1,⟨hR,Nat.zero_le _⟩,fun j hj => ?_⟩
  obtain ⟨hjR,hjl⟩ := hj
  obtain ⟨j,sj⟩ := j
  dsimp only at hjR hjl ⊢
  refine zT (fun c => ?_) (fun c => ?_)
  · obtain ⟨n,hn⟩ := z9 (l := i.sh) (i := j) (by omega)
    obtain ⟨o,ho⟩ := z9 (l := i.os) (i := j) (by omega)
    have hst := p9 (inst := i.inst) (s := zB i.sd) ho hn
    have hoL : o ∈ L := by
      have := List.mem_of_getElem? ho
      rw [← hos] at this
      exact (List.mem_filter.1 this).1
    have hoq := (hbR.ords.1 o hoL).q
    have hnb := hsb j n hn
    refine ⟨⟨by omega,by omega⟩,n,elI hn,zT (fun c2 => ?_) (fun c2 => ?_)⟩
    · rw [if_pos (show 0 < n from c2)] at hst
      have hfl : (i.fs j).length ≤ j := by
        have : ∀ (os : List zH) (sh : List Int),(yK i.inst (zB i.sd) os sh).length ≤ os.length := by
          intro os
          induction os with
          | nil => intro sh; exact Nat.le_refl 0
          | cons o os ih =>
            intro sh
            cases sh with
            | nil => exact Nat.zero_le _
            | cons k sh =>
              have := ih sh
              rw [yK]
              split
              · simp only [List.length_cons]; omega
              · simp only [List.length_cons]; omega
        exact Nat.le_trans (this _ _) (by rw [List.length_take]; omega)
      refine ⟨⟨by omega,by omega⟩,o.id,o.side,o.price,o.qty,o.top,z4p ho,⟨sj,i.p,xF i.B (i.fs j),o.id,n⟩,rfl,rfl,rfl,⟨hjR,by dsimp only; rw [wV]; omega⟩,fun s' hs' => ⟨by rw [List.length_map]; omega,(j + 1,s'),wjn (by omega),rfl,?_,⟨?_,by dsimp only;omega⟩,by dsimp only;omega,by (repeat' (first|exact trivial|exact rfl|apply And.intro))⟩⟩
      · show List.map xD (yK i.inst (zB i.sd) (i.os.take (j + 1)) (i.sh.take (j + 1))) = _
        rw [hst,List.map_append,w64 (by omega)]; rfl
      · show s'.Rep i.p (xF i.B (yK i.inst (zB i.sd) (i.os.take (j + 1)) (i.sh.take (j + 1))))
        rw [hst,zRh]; exact hs'
    · rw [if_neg (show ¬ 0 < n from c2),List.append_nil] at hst
      refine ⟨(j + 1,sj),wjn (by omega),rfl,?_,⟨?_,by dsimp only;omega⟩,by dsimp only;omega,by (repeat' (first|exact trivial|exact rfl|apply And.intro))⟩
      · show List.map xD (yK i.inst (zB i.sd) (i.os.take (j + 1)) (i.sh.take (j + 1))) = _
        rw [hst]; rfl
      · show sj.Rep i.p (xF i.B (yK i.inst (zB i.sd) (i.os.take (j + 1)) (i.sh.take (j + 1))))
        rw [hst]; exact hjR
  · have hje : j = i.sh.length := by omega
    subst hje
    have hfa : i.fs i.sh.length = yH i.p i.B i.inst (zB i.sd) i.q := eW _ _
    rw [hfa] at hjR ⊢
    exact ⟨sj,rfl,rfl,hjR⟩
theorem zRt : tradeC.ok Try.prog 28 := z0d (gokc zEf (gokc z9r (gokc alloc_ok (gokc zSw gok0)))) z4w
open Go Cv Go.Proofs
structure wY where
  price : Int
  qty : Int
  implied : Bool
  fills : List jT
  deriving DecidableEq
def yA (t : wY) : List D := [.v (.int .i64 t.price),.v (.int .i64 t.qty),.v (.bool t.implied),.ro 6 (t.fills.map xD)]
def vR (p : Prd) (B : List (List zH)) (inst : Int) (sd : Bool) (price qty : Int) : Option (wY × List (List zH)) :=
  let n := zO p B inst (zB (!sd))
  if (n.2.2 && (fE sd price n.1.price && decide (1 ≤ n.1.qty))) = true then
    if n.2.1 = true then
      let f1 := yH p B n.1.a.inst n.1.a.side (min qty n.1.qty)
      let f2 := yH p (xF B f1) n.1.b.inst n.1.b.side (min qty n.1.qty)
      some (⟨n.1.price,min qty n.1.qty,true,f1 ++ f2⟩,xF (xF B f1) f2)
    else
      let f := yH p B inst (zB (!sd)) (min qty n.1.qty)
      some (⟨n.1.price,min qty n.1.qty,false,f⟩,xF B f)
  else none
structure zXv where
  steps : List wY
  left : Int
  B : List (List zH)
def dQ (p : Prd) (inst : Int) (sd : Bool) (price : Int) : Nat → List (List zH) → Int → zXv
  | 0,B,q => ⟨[],q,B⟩
  | n + 1,B,q => if q ≤ 0 then ⟨[],q,B⟩ else match vR p B inst sd price q with
    | none => ⟨[],q,B⟩
    | some (t,B') => let r := dQ p inst sd price n B' (q - t.qty); ⟨t :: r.steps,r.left,r.B⟩
def gP (p : Prd) (B : List (List zH)) (inst : Int) (sd : Bool) (price q : Int) : zXv := dQ p inst sd price q.toNat B q
structure RunI where
  s : MSt
  p : Prd
  B : List (List zH)
  inst : Int
  sd : Bool
  price : Int
  q : Int
def RunI.r (i : RunI) : zXv := gP i.p i.B i.inst i.sd i.price i.q
def runC : Con where
  ι := RunI
  pat := fun i => [.nm 0 0,zF i.inst,zF (zB i.sd),zF i.price,zF i.q]
  pre := fun i => [zR i.s]
  cnd := fun i => i.s.Rep i.p i.B ∧ BOk i.p i.B ∧ (0 ≤ i.inst ∧ i.inst < i.B.length) ∧ 1 ≤ i.q ∧ i.q ≤ 1000000
  alts := fun i => [{ o := MSt,res := fun _ => .tup [.own 1,zF i.r.left],post := fun s => [zR s,.own 41 4 (i.r.steps.map yA)],rel := fun s => s.Rep i.p i.r.B }]
structure zKr where
  s : MSt
  B : List (List zH)
  steps : List wY
  q : Int
def yAz : List SAnn := [
  { ι := zKr,slots := fun j => [(0,.nm 0 0),(12,.own 1),(4,zF j.q)],rows := fun j => [zR j.s,.own 41 4 (j.steps.map yA)] },
  { ι := Unit,slots := fun _ => [],rows := fun _ => [],un := 3 }]
structure RbI where
  s : MSt
  inst : Int
  side : Int
  price : Int
  q : Int
open Go Cv Go.Proofs
@[reducible] def zIp (i : RunI) : Prop := ∃ (i0:zKr),i0.q=i.q∧sb i0.s.p.code=sb i.s.p.code∧i0.s.p.tick=i.s.p.tick∧i0.s.p.low=i.s.p.low∧i0.s.p.high=i.s.p.high∧i0.s.p.wide=i.s.p.wide∧i0.s.p.rule=i.s.p.rule∧i0.s.p.top=i.s.p.top∧i0.s.p.least=i.s.p.least∧i0.s.p.part=i.s.p.part∧AObj.objs 64 Book 6 zM i0.s.books none=AObj.objs 64 Book 6 zM i.s.books none∧yJ i0.s.wh=yJ i.s.wh∧AObj.fro 1 (iE i0.s.p.months)=AObj.fro 1 (iE i.s.p.months)∧AObj.fro 1 (iE i0.s.p.settle)=AObj.fro 1 (iE i.s.p.settle)∧List.map yA i0.steps=[]∧∃ (I:zKr→Prop),∃ (μ:zKr→Nat),I i0∧∀ (i_1:zKr),I i_1→cnd (decide (i_1.q > 0)) (∃ (i_2:Bool),zB i_2=zB i.sd∧True∧∀ (o:Unit),True→∃ (i_3:NxI),i_3.inst=i.inst∧zB i_3.sd=zB !i_2∧zR i_3.s=zR i_1.s∧(i_3.s.Rep i_3.p i_3.B∧BOk i_3.p i_3.B∧0≤i_3.inst∧i_3.inst<(↑i_3.B.length:Int))∧∀ (o:Unit),True→cnd (!(zO i_3.p i_3.B i_3.inst (zB i_3.sd)).snd.snd) (∃ (o:MSt),i.r.left=i_1.q∧zR o=zR i_3.s∧List.map yA i.r.steps=List.map yA i_1.steps∧o.Rep i.p i.r.B) (∃ (i_4:GoI),zB i_4.s=zB i.sd∧i_4.p=i.price∧i_4.x=(zO i_3.p i_3.B i_3.inst (zB i_3.sd)).fst.price∧True∧∀ (o:Unit),True→cnd (!fE i_4.s i_4.p i_4.x) (∃ (o:MSt),i.r.left=i_1.q∧zR o=zR i_3.s∧List.map yA i.r.steps=List.map yA i_1.steps∧o.Rep i.p i.r.B) (cnd (zO i_3.p i_3.B i_3.inst (zB i_3.sd)).snd.fst (∃ (i_5:TrI),i_5.inst=(zO i_3.p i_3.B i_3.inst (zB i_3.sd)).fst.a.inst∧zB i_5.sd=(zO i_3.p i_3.B i_3.inst (zB i_3.sd)).fst.a.side∧i_5.q=min i_1.q (zO i_3.p i_3.B i_3.inst (zB i_3.sd)).fst.qty∧zR i_5.s=zR i_3.s∧(i_5.s.Rep i_5.p i_5.B∧BOk i_5.p i_5.B∧0≤i_5.inst∧i_5.inst<(↑i_5.B.length:Int)∧(-9223372036854775808)≤i_5.q∧i_5.q≤9223372036854775807)∧∀ (o:MSt),o.Rep i_5.p (xF i_5.B (yH i_5.p i_5.B i_5.inst (zB i_5.sd) i_5.q))→True∧(List.map xD (yH i_5.p i_5.B i_5.inst (zB i_5.sd) i_5.q)).length * (48:Nat)≤(70368744177664:Nat)∧∃ (i_6:TrI),i_6.inst=(zO i_3.p i_3.B i_3.inst (zB i_3.sd)).fst.b.inst∧zB i_6.sd=(zO i_3.p i_3.B i_3.inst (zB i_3.sd)).fst.b.side∧i_6.q=min i_1.q (zO i_3.p i_3.B i_3.inst (zB i_3.sd)).fst.qty∧zR i_6.s=zR o∧(i_6.s.Rep i_6.p i_6.B∧BOk i_6.p i_6.B∧0≤i_6.inst∧i_6.inst<(↑i_6.B.length:Int)∧(-9223372036854775808)≤i_6.q∧i_6.q≤9223372036854775807)∧∀ (o:MSt),o.Rep i_6.p (xF i_6.B (yH i_6.p i_6.B i_6.inst (zB i_6.sd) i_6.q))→True∧((List.map xD (yH i_5.p i_5.B i_5.inst (zB i_5.sd) i_5.q)).length+(List.map xD (yH i_6.p i_6.B i_6.inst (zB i_6.sd) i_6.q)).length) * (48:Nat)≤(70368744177664:Nat)∧((List.map yA i_1.steps).length+1) * (48:Nat)≤(70368744177664:Nat)∧∃ (i':zKr),i'.q=IntKind.i64.wrap (i_1.q - min i_1.q (zO i_3.p i_3.B i_3.inst (zB i_3.sd)).fst.qty)∧zR i'.s=zR o∧List.map yA i'.steps=List.map yA i_1.steps++[[D.v (.int .i64 (zO i_3.p i_3.B i_3.inst (zB i_3.sd)).fst.price),D.v (.int .i64 (min i_1.q (zO i_3.p i_3.B i_3.inst (zB i_3.sd)).fst.qty)),D.v (.bool (zO i_3.p i_3.B i_3.inst (zB i_3.sd)).snd.fst),D.ro 6 (List.map xD (yH i_5.p i_5.B i_5.inst (zB i_5.sd) i_5.q)++List.map xD (yH i_6.p i_6.B i_6.inst (zB i_6.sd) i_6.q))]]∧I i'∧μ i'<μ i_1∧AObj.fro 1 (iE i.s.p.months)=AObj.fro 1 (iE i.s.p.months)∧AObj.fro 1 (iE i.s.p.settle)=AObj.fro 1 (iE i.s.p.settle)) (∃ (i_5:Bool),zB i_5=zB i.sd∧True∧∀ (o:Unit),True→min i_1.q (zO i_3.p i_3.B i_3.inst (zB i_3.sd)).fst.qty=min i_1.q (zO i_3.p i_3.B i_3.inst (zB i_3.sd)).fst.qty∧∃ (i_6:TrI),i_6.inst=i.inst∧zB i_6.sd=zB !i_5∧i_6.q=min i_1.q (zO i_3.p i_3.B i_3.inst (zB i_3.sd)).fst.qty∧zR i_6.s=zR i_3.s∧(i_6.s.Rep i_6.p i_6.B∧BOk i_6.p i_6.B∧0≤i_6.inst∧i_6.inst<(↑i_6.B.length:Int)∧(-9223372036854775808)≤i_6.q∧i_6.q≤9223372036854775807)∧∀ (o:MSt),o.Rep i_6.p (xF i_6.B (yH i_6.p i_6.B i_6.inst (zB i_6.sd) i_6.q))→((List.map yA i_1.steps).length+1) * (48:Nat)≤(70368744177664:Nat)∧∃ (i':zKr),i'.q=IntKind.i64.wrap (i_1.q - min i_1.q (zO i_3.p i_3.B i_3.inst (zB i_3.sd)).fst.qty)∧zR i'.s=zR o∧List.map yA i'.steps=List.map yA i_1.steps++[[D.v (.int .i64 (zO i_3.p i_3.B i_3.inst (zB i_3.sd)).fst.price),D.v (.int .i64 (min i_1.q (zO i_3.p i_3.B i_3.inst (zB i_3.sd)).fst.qty)),D.v (.bool (zO i_3.p i_3.B i_3.inst (zB i_3.sd)).snd.fst),D.ro 6 (List.map xD (yH i_6.p i_6.B i_6.inst (zB i_6.sd) i_6.q))]]∧I i'∧μ i'<μ i_1∧AObj.fro 1 (iE i.s.p.months)=AObj.fro 1 (iE i.s.p.months)∧AObj.fro 1 (iE i.s.p.settle)=AObj.fro 1 (iE i.s.p.settle))))) (∃ (o:MSt),i.r.left=i_1.q∧zR o=zR i_1.s∧List.map yA i.r.steps=List.map yA i_1.steps∧o.Rep i.p i.r.B)
@[reducible] def g9 (i : RunI) : Prop := ∃ (o:MSt),i.r.left=i.q∧sb o.p.code=sb i.s.p.code∧o.p.tick=i.s.p.tick∧o.p.low=i.s.p.low∧o.p.high=i.s.p.high∧o.p.wide=i.s.p.wide∧o.p.rule=i.s.p.rule∧o.p.top=i.s.p.top∧o.p.least=i.s.p.least∧o.p.part=i.s.p.part∧AObj.objs 64 Book 6 zM o.books none=AObj.objs 64 Book 6 zM i.s.books none∧yJ o.wh=yJ i.s.wh∧AObj.fro 1 (iE o.p.months)=AObj.fro 1 (iE i.s.p.months)∧AObj.fro 1 (iE o.p.settle)=AObj.fro 1 (iE i.s.p.settle)∧List.map yA i.r.steps=[]∧o.Rep i.p i.r.B
def zXp (i : RunI) : Prop :=
  cnd (decide (i.inst ≥ 0)) (cnd (decide (i.inst<(↑i.s.books.length:Int))) (cnd (zB i.sd==1) (cnd (decide (i.q ≥ 1)) (cnd (!decide (i.q≤1000000)) (g9 i) (zIp i)) (g9 i)) (cnd (zB i.sd==2) (cnd (decide (i.q ≥ 1)) (cnd (!decide (i.q≤1000000)) (g9 i) (zIp i)) (g9 i)) (g9 i))) (g9 i)) (g9 i)
theorem z8r (i : RunI) : zXp i = walk Try.prog ([(25,nextC),(26,motherC),(27,mgoodC),(28,tradeC)]) 2 ([]) (yAz) [0] Try.f10 (Try.f10.body.getD .skip) (runC.pat i) (runC.pre i) (runC.alts i) := by kernel_rfl
theorem z9i (hG : GOk Try.prog ([(25,nextC),(26,motherC),(27,mgoodC),(28,tradeC)])) (h : ∀ (i : RunI),runC.cnd i → zXp i) : runC.ok Try.prog 10 := zE mixed ([(25,nextC),(26,motherC),(27,mgoodC),(28,tradeC)]) hG 2 (fun (i : RunI) => []) (fun (i : RunI) => yAz) [0] Try.func10 (by kernel_rfl) (by kernel_rfl) (by kernel_rfl) (fun _ => by kernel_rfl) (fun (i : RunI) hc => Eq.mp (z8r i) (h i hc))
open Go Cv Go.Proofs
structure QOk (T : List Top) (q : Quote) : Prop where
  a : 0 ≤ q.a.inst ∧ q.a.inst < T.length
  b : 0 ≤ q.b.inst ∧ q.b.inst < T.length
  sa : q.a.side = 1 ∨ q.a.side = 2
  sb : q.b.side = 1 ∨ q.b.side = 2
  ne : q.a.inst ≠ q.b.inst
  ha : (T.getD q.a.inst.toNat top0).has q.a.side = true
  hb : (T.getD q.b.inst.toNat top0).has q.b.side = true
  qty : q.qty = min ((T.getD q.a.inst.toNat top0).qty q.a.side) ((T.getD q.b.inst.toNat top0).qty q.b.side)
theorem zIh {T : List Top} {a b : Leg} {less : Bool} {q : Quote} (h : q ∈ mkq T a b less) (h1 : 0 ≤ a.inst ∧ a.inst < T.length) (h2 : 0 ≤ b.inst ∧ b.inst < T.length) (h3 : a.side = 1 ∨ a.side = 2) (h4 : b.side = 1 ∨ b.side = 2) (hne : a.inst ≠ b.inst) : QOk T q ∧ q.a = a ∧ q.b = b := by
  cases less
  all_goals
    simp only [mkq,Bool.false_eq_true,↓reduceIte] at h
    split at h
    · rename_i hc
      simp only [Bool.and_eq_true] at hc
      rw [List.mem_singleton] at h
      subst h
      exact ⟨⟨h1,h2,h3,h4,hne,hc.1.1,hc.1.2,rfl⟩,rfl,rfl⟩
    · cases h
theorem z5h : ∀ n ≤ 6,∀ k < n + n * (n - 1) / 2,n ≤ k → (xX n k n 0).1 ≠ (xX n k n 0).2.1 := by decide
theorem zLi {p : Prd} (hc : p.check = 0) {k : Nat} (hk : k < p.count) (hs : (p.legs k).2.2 = true) : (p.legs k).1 ≠ (p.legs k).2.1 := by
  have m6 := (xV hc).m6
  have hk' := hk
  rw [Prd.count,if_pos hc] at hk'
  by_cases h : k < p.months.length
  · rw [Prd.legs,if_neg (by omega),if_pos (by omega)] at hs
    cases hs
  · rw [Prd.legs,if_neg (by omega),if_neg (by omega)]
    exact z5h p.months.length m6 k hk' (by omega)
theorem zRi : ∀ n ≤ 6,∀ a < n,∀ b < n,a < b → (zZ n a : Int) + b - a - 1 ≥ n := by decide
theorem lA {p : Prd} (hc : p.check = 0) {a b : Nat} (hab : a < b) (hb : b < p.months.length) : (p.months.length : Int) ≤ (p.spread a b).1 := by
  have m6 := (xV hc).m6
  have := zRi p.months.length m6 a (by omega) b hb hab
  rw [Prd.spread,if_neg (by omega)]
  simpa using this
theorem zZy {p : Prd} (hc : p.check = 0) {T : List Top} (hT : T.length = p.count) {inst : Int} {s : Int} (hs : s = 1 ∨ s = 2) {q : Quote} (h : q ∈ xN ⟨p,T,inst⟩ s) : QOk T q ∧ 0 ≤ inst ∧ inst < p.count ∧
    (((p.legs inst).2.2 = true ∧ q.a = ⟨(p.legs inst).1,s⟩ ∧ q.b = ⟨(p.legs inst).2.1,3 - s⟩) ∨ (inst < p.months.length ∧ q.a.inst ≠ inst ∧ (p.months.length : Int) ≤ q.a.inst)) := by
  rw [xN] at h
  dsimp only at h
  split at h
  · cases h
  · rename_i hn
    have h0 : 0 ≤ inst ∧ inst < p.count := by omega
    obtain ⟨k,rfl⟩ : ∃ k : Nat,inst = k := ⟨inst.toNat,by omega⟩
    have hk : k < p.count := by omega
    have hge := aE hc
    split at h
    · rename_i hl
      obtain ⟨q',hq',rfl⟩ := List.mem_map.1 h
      have hle := uA hc hk
      rcases hle with ⟨_,l1,l2,l3,l4⟩ | ⟨e,_⟩
      · obtain ⟨ok,e1,e2⟩ := zIh hq' (by dsimp only;omega) (by dsimp only;omega) (by dsimp only;omega) hs (fun e => zLi hc hk hl e.symm)
        refine ⟨⟨by dsimp only [qT]; omega,by dsimp only [qT]; omega,hs,by dsimp only [qT]; omega,zLi hc hk hl,?_,?_,?_⟩,h0.1,h0.2,.inl ⟨hl,rfl,rfl⟩⟩
        · have := ok.hb; rw [e2] at this; exact this
        · have := ok.ha; rw [e1] at this; exact this
        · have := ok.qty; rw [e1,e2] at this; dsimp only [qT]; rw [this]; exact Int.min_comm _ _
      · rw [e] at hl; cases hl
    · rename_i hl
      have hm : k < p.months.length := by
        rcases uA hc hk with ⟨e,_⟩ | ⟨_,e⟩
        · exact absurd e hl
        · exact e
      rcases List.mem_append.1 h with h | h
      · obtain ⟨j,hj,h⟩ := List.mem_flatMap.1 h
        have hj := List.mem_range.1 hj
        rw [Int.toNat_natCast] at hj
        have s1 := wU hc (a := k) (b := k + 1 + j) (by omega) (by omega)
        have s2 := lA hc (a := k) (b := k + 1 + j) (by omega) (by omega)
        have ec : ((k : Int) + 1 + j) = ((k + 1 + j : Nat) : Int) := by omega
        rw [ec] at h
        obtain ⟨ok,e1,e2⟩ := zIh h (by dsimp only;omega) (by dsimp only;omega) hs hs (by dsimp only;omega)
        exact ⟨ok,h0.1,h0.2,.inr ⟨by omega,by rw [e1]; dsimp only; omega,by rw [e1]; exact s2⟩⟩
      · obtain ⟨j,hj,h⟩ := List.mem_flatMap.1 h
        have hj := List.mem_range.1 hj
        rw [Int.toNat_natCast] at hj
        have s1 := wU hc (a := j) (b := k) (by omega) (by omega)
        have s2 := lA hc (a := j) (b := k) (by omega) (by omega)
        obtain ⟨ok,e1,e2⟩ := zIh h (by dsimp only;omega) (by dsimp only;omega) (by dsimp only;omega) hs (by dsimp only;omega)
        exact ⟨ok,h0.1,h0.2,.inr ⟨by omega,by rw [e1]; dsimp only; omega,by rw [e1]; exact s2⟩⟩
theorem eZ {s : Int} : ∀ (r : List Quote) (q : Quote),r.foldl (fun b q => if btr s q.price b.price then q else b) q ∈ q :: r
  | [],q => List.mem_cons_self
  | x :: r,q => by
    rw [List.foldl_cons]
    have := eZ (s := s) r (if btr s x.price q.price then x else q)
    rcases List.mem_cons.1 this with e | h
    · rw [e]; split
      · exact List.mem_cons_of_mem _ List.mem_cons_self
      · exact List.mem_cons_self
    · exact List.mem_cons_of_mem _ (List.mem_cons_of_mem _ h)
theorem zAh {l : List Quote} {s : Int} (h : (zW l s).2 = true) : (zW l s).1 ∈ l := by
  cases l with
  | nil => cases h
  | cons q r => exact eZ r q
def zZp (B : List (List zH)) : Prop := ∀ (k:Nat) (L:List zH),B[k]?=some L→(∀ o ∈ L,zAd o)∧(L.map (·.id)).Nodup∧L.length≤250
theorem MSt.Rep.ords {s : MSt} {p : Prd} {B : List (List zH)} (h : s.Rep p B) : zZp B := by
  intro k L hL
  obtain ⟨b,hb⟩ := z9 (l := s.books) (i := k) (by rw [h.bl]; exact (List.getElem?_eq_some_iff.1 hL).1)
  exact (h.bk k b L hb hL).ords
theorem z3o : ∀ {l : List zH} {v : Lv},(∀ o ∈ l,zAd o) → v ∈ grp l → 1 ≤ v.qty ∧ v.qty ≤ 1000000 * l.length
  | [],v,_,h => by cases h
  | o :: l,v,ho,h => by
    have h0 := (ho o List.mem_cons_self).q
    have ih : ∀ v ∈ grp l,1 ≤ v.qty ∧ v.qty ≤ 1000000 * l.length := fun v hv => z3o (fun x hx => ho x (List.mem_cons_of_mem _ hx)) hv
    rw [grp] at h
    rw [List.length_cons]
    split at h
    · rw [List.mem_singleton] at h
      subst h; dsimp only; omega
    · rename_i w ws e
      rw [e] at ih
      have hw := ih w List.mem_cons_self
      split at h
      · rcases List.mem_cons.1 h with rfl | h
        · dsimp only; omega
        · have := ih v (List.mem_cons_of_mem _ h); omega
      · rcases List.mem_cons.1 h with rfl | h
        · dsimp only; omega
        · have := ih v h; omega
theorem zIu {L : List zH} {s : Int} (h : ∀ o ∈ L,zAd o) (hl : L.length ≤ 250) (hb : (bestL L s).2 = true) : 1 ≤ (bestL L s).1.qty ∧ (bestL L s).1.qty ≤ 250000000 := by
  rw [bestL] at hb ⊢
  cases hl2 : pV L s with
  | nil => rw [hl2] at hb; cases hb
  | cons v vs =>
    dsimp only
    have hm : v ∈ grp (L.filter fun o => decide (o.side = s)) := by rw [← pV,hl2]; exact List.mem_cons_self
    have := z3o (fun o ho => h o (List.mem_filter.1 ho).1) hm
    have := List.length_filter_le (fun o : zH => decide (o.side = s)) L
    omega
theorem zBp {B : List (List zH)} {k : Nat} {L : List zH} (hL : B[k]? = some L) : (B.map vQ).getD k top0 = vQ L := zU (by rw [List.getElem?_map,hL]; rfl)
theorem vT (L : List zH) {s : Int} (hs : s = 1 ∨ s = 2) : (vQ L).has s = (bestL L s).2 ∧ (vQ L).qty s = (bestL L s).1.qty ∧ (vQ L).price s = (bestL L s).1.price := by
  obtain ⟨e1,e2,e3,e4,e5,e6⟩ := zDw L
  rcases hs with rfl | rfl
  · exact ⟨e3,e2,e1⟩
  · exact ⟨e6,e5,e4⟩
theorem zBi {p : Prd} {B : List (List zH)} (h : BOk p B) (ho : zZp B) {inst : Int} (hi : 0 ≤ inst ∧ inst < B.length) {s : Int} (hs : s = 1 ∨ s = 2) (hn : (zO p B inst s).2.2 = true) :
    (1 ≤ (zO p B inst s).1.qty ∧ (zO p B inst s).1.qty ≤ 250000000) ∧ ((zO p B inst s).2.1 = true → (zO p B inst s).1 ∈ xN ⟨p,B.map vQ,inst⟩ s ∧ QOk (B.map vQ) (zO p B inst s).1) ∧
    ((zO p B inst s).2.1 = false → (bestL (B.getD inst.toNat []) s).2 = true ∧ (zO p B inst s).1.price = (bestL (B.getD inst.toNat []) s).1.price ∧ (zO p B inst s).1.qty = (bestL (B.getD inst.toNat []) s).1.qty) := by
  obtain ⟨k,rfl⟩ : ∃ k : Nat,inst = k := ⟨inst.toNat,by omega⟩
  obtain ⟨L,hL⟩ := z9 (l := B) (i := k) (by omega)
  have hLo := ho k L hL
  rw [zO] at hn ⊢
  rw [Int.toNat_natCast,zU hL] at hn ⊢
  split
  · rename_i c
    simp only [Bool.and_eq_true] at c
    exact ⟨zIu hLo.1 hLo.2.2 c.1,⟨fun e => (by cases e),fun _ => ⟨c.1,rfl,rfl⟩⟩⟩
  · rename_i c
    rw [if_neg c] at hn
    dsimp only at hn ⊢
    have hm := zAh hn
    have ha : (zW (qY ⟨p,B.map vQ,k⟩ s) s).1 ∈ xN ⟨p,B.map vQ,k⟩ s := (List.mem_filter.1 hm).1
    obtain ⟨ok,_⟩ := zZy h.pc (by rw [List.length_map]; exact h.bl) hs ha
    refine ⟨?_,fun _ => ⟨ha,ok⟩,fun e => by rw [hn] at e; cases e⟩
    generalize (zW (qY ⟨p,B.map vQ,k⟩ s) s).1 = q at ok
    have a := ok.a
    have b := ok.b
    rw [List.length_map] at a b
    obtain ⟨La,hLa⟩ := z9 (l := B) (i := q.a.inst.toNat) (by omega)
    obtain ⟨Lb,hLb⟩ := z9 (l := B) (i := q.b.inst.toNat) (by omega)
    have e1 := ok.ha
    have e2 := ok.hb
    have e3 := ok.qty
    rw [zBp hLa] at e1 e3
    rw [zBp hLb] at e2 e3
    rw [(vT La ok.sa).1] at e1
    rw [(vT Lb ok.sb).1] at e2
    rw [(vT La ok.sa).2.1,(vT Lb ok.sb).2.1] at e3
    have := zIu (ho _ _ hLa).1 (ho _ _ hLa).2.2 e1
    have := zIu (ho _ _ hLb).1 (ho _ _ hLb).2.2 e2
    omega
theorem zVf {L : List zH} {id q : Int} {o : zH} (h : o ∈ (y6 L id q).1) : ∃ o' ∈ L,o.price = o'.price ∧ o.side = o'.side ∧ o.id = o'.id := by
  rw [y6] at h
  split at h
  · exact ⟨o,h,rfl,rfl,rfl⟩
  split at h
  · exact ⟨o,h,rfl,rfl,rfl⟩
  obtain ⟨o',ho',e⟩ := List.mem_filterMap.1 h
  refine ⟨o',ho',?_⟩
  split at e
  · split at e
    · cases e
    · cases e; exact ⟨rfl,rfl,rfl⟩
  · cases e; exact ⟨rfl,rfl,rfl⟩
theorem BOk.take {p : Prd} {B : List (List zH)} (h : BOk p B) (id q : Int) : BOk p (qW B id q).1 := by
  refine ⟨h.pc,h.ps,by rw [zGq]; exact h.bl,fun k L hL o ho => ?_⟩
  rw [qW] at hL
  split at hL
  · exact h.pr k L hL o ho
  · rename_i j hj
    dsimp only at hL
    rcases wO hL with ⟨rfl,rfl⟩ | ⟨_,hL⟩
    · obtain ⟨o',ho',e,_⟩ := zVf ho
      obtain ⟨L',hL',_⟩ := jJ hj
      rw [zU hL'] at ho'
      rw [e]; exact h.pr k L' hL' o' ho'
    · exact h.pr k L hL o ho
theorem BOk.takes {p : Prd} : ∀ {fs : List jT} {B : List (List zH)},BOk p B → BOk p (xF B fs)
  | [],B,h => h
  | f :: fs,B,h => BOk.takes (fs := fs) (h.take f.id f.qty)
theorem zHr (inst s : Int) : ∀ (os : List zH) (sh : List Int),(yK inst s os sh).length ≤ os.length
  | [],sh => Nat.le_refl 0
  | o :: os,[] => Nat.zero_le _
  | o :: os,k :: sh => by
    have := zHr inst s os sh
    rw [yK]
    split
    · simp only [List.length_cons]; omega
    · simp only [List.length_cons]; omega
theorem uK {p : Prd} {B : List (List zH)} (ho : zZp B) (inst s q : Int) : (yH p B inst s q).length ≤ 250 := by
  refine Nat.le_trans (zHr _ _ _ _) (Nat.le_trans (List.length_filter_le _ _) ?_)
  by_cases h : inst.toNat < B.length
  · obtain ⟨L,hL⟩ := z9 h
    rw [zU hL]; exact (ho _ _ hL).2.2
  · rw [List.getD_eq_getElem?_getD,List.getElem?_eq_none (by omega)]; exact Nat.zero_le _
theorem zBq {p : Prd} {B : List (List zH)} {inst : Int} {sd : Bool} {price q : Int} {t : wY} {B' : List (List zH)} (hq : 1 ≤ q) (h : vR p B inst sd price q = some (t,B')) : 1 ≤ t.qty ∧ t.qty ≤ q := by
  rw [vR] at h
  dsimp only at h
  split at h
  · rename_i c
    simp only [Bool.and_eq_true,decide_eq_true_eq] at c
    split at h
    · cases h; dsimp only; omega
    · cases h; dsimp only; omega
  · cases h
theorem zEw {p : Prd} {inst : Int} {sd : Bool} {price : Int} : ∀ (m n : Nat) (B : List (List zH)) (q : Int),q.toNat ≤ m → q.toNat ≤ n → dQ p inst sd price m B q = dQ p inst sd price n B q
  | 0,0,B,q,_,_ => rfl
  | 0,n + 1,B,q,h,_ => by rw [dQ,dQ,if_pos (by omega)]
  | m + 1,0,B,q,_,h => by rw [dQ,dQ,if_pos (by omega)]
  | m + 1,n + 1,B,q,h1,h2 => by
    rw [dQ,dQ]
    split
    · rfl
    · rename_i hq
      cases hs : vR p B inst sd price q with
      | none => rfl
      | some x =>
        obtain ⟨t,B'⟩ := x
        have := zBq (by omega) hs
        dsimp only
        rw [zEw m n B' (q - t.qty) (by omega) (by omega)]
theorem zXj {p : Prd} {B : List (List zH)} {inst : Int} {sd : Bool} {price q : Int} (h : q ≤ 0 ∨ vR p B inst sd price q = none) : gP p B inst sd price q = ⟨[],q,B⟩ := by
  rw [gP]
  cases hn : q.toNat with
  | zero => rfl
  | succ n =>
    rw [dQ]
    rcases h with h | h
    · rw [if_pos h]
    · rw [if_neg (by omega),h]
theorem zTg {p : Prd} {B : List (List zH)} {inst : Int} {sd : Bool} {price q : Int} {t : wY} {B' : List (List zH)} (hq : 1 ≤ q) (h : vR p B inst sd price q = some (t,B')) :
    gP p B inst sd price q = ⟨t :: (gP p B' inst sd price (q - t.qty)).steps,(gP p B' inst sd price (q - t.qty)).left,(gP p B' inst sd price (q - t.qty)).B⟩ := by
  have ht := zBq hq h
  rw [gP]
  cases hn : q.toNat with
  | zero => omega
  | succ n =>
    rw [dQ,if_neg (by omega),h]
    dsimp only
    rw [zEw n (q - t.qty).toNat B' (q - t.qty) (by omega) (Nat.le_refl _)]
    rfl
open Go Cv Go.Proofs
theorem uU {s : Int} (h : s = 1 ∨ s = 2) : zB (decide (s = 2)) = s := by
  rcases h with rfl | rfl <;> rfl
theorem yBv (i : RunI) (h : runC.cnd i) : zXp i := by
  obtain ⟨hR,hB,⟨h0,h1⟩,hq1,hq2⟩ : i.s.Rep i.p i.B ∧ BOk i.p i.B ∧ (0 ≤ i.inst ∧ i.inst < i.B.length) ∧ 1 ≤ i.q ∧ i.q ≤ 1000000 := h
  have hbl := hR.bl
  have hcl := j1 i.p
  have hbB := hB.bl
  unfold zXp zIp g9
  refine (fun hT => zT (fun c => zT (fun c2 => Cv.cnd.mk (fun _ => zT (fun _ => Cv.cnd.mk (fun e => absurd hq2 (by simpa using e)) (fun _ => hT)) (fun e => absurd hq1 e)) (fun e1 => Cv.cnd.mk (fun _ => zT (fun _ => Cv.cnd.mk (fun e => absurd hq2 (by simpa using e)) (fun _ => hT)) (fun e => absurd hq1 e)) (fun e2 => by
    rcases c9 i.sd with e | e
    · rw [e] at e1; cases e1
    · rw [e] at e2; cases e2))) (fun c2 => absurd (by omega) c2)) (fun c => absurd h0 c)) ?_
  refine ⟨⟨i.s,i.B,[],i.q⟩,rfl,rfl,rfl,rfl,rfl,rfl,rfl,rfl,rfl,rfl,rfl,rfl,rfl,rfl,rfl,fun j => j.s.Rep i.p j.B ∧ BOk i.p j.B ∧ j.B.length = i.B.length ∧ (0 ≤ j.q ∧ j.q ≤ i.q) ∧ (j.steps.length : Int) ≤ i.q - j.q ∧ i.r = ⟨j.steps ++ (gP i.p j.B i.inst i.sd i.price j.q).steps,(gP i.p j.B i.inst i.sd i.price j.q).left,(gP i.p j.B i.inst i.sd i.price j.q).B⟩,fun j => j.q.toNat,⟨hR,hB,rfl,⟨by dsimp only;omega,Int.le_refl _⟩,by dsimp only; simp,rfl⟩,?_⟩
  rintro ⟨s,B,st,q⟩ ⟨r1,r2,r3,⟨r4,r4'⟩,r5,r6⟩
  dsimp only at r1 r2 r3 r4 r4' r5 r6 ⊢
  have hno (hn : q ≤ 0 ∨ vR i.p B i.inst i.sd i.price q = none) : ∃ (o : MSt),i.r.left = q ∧ AObj.adt MSt (5 : Nat) z8 o = AObj.adt MSt (5 : Nat) z8 s ∧ List.map yA i.r.steps = List.map yA st ∧ o.Rep i.p i.r.B := by
    rw [zXj hn,List.append_nil] at r6
    rw [r6]; exact ⟨s,rfl,rfl,rfl,r1⟩
  refine zT (fun c => ?_) (fun c => hno (.inl (by omega)))
  have c : 0 < q := c
  refine ⟨i.sd,rfl,trivial,fun _ _ => ⟨⟨s,i.p,B,i.inst,!i.sd⟩,rfl,rfl,rfl,⟨r1,r2,h0,by dsimp only;omega⟩,fun _ _ => ?_⟩⟩
  dsimp only
  have hni := zBi r2 r1.ords (inst := i.inst) ⟨h0,by omega⟩ (c9 (!i.sd))
  have hsb : vR i.p B i.inst i.sd i.price q = (if ((zO i.p B i.inst (zB (!i.sd))).2.2 && (fE i.sd i.price (zO i.p B i.inst (zB (!i.sd))).1.price && decide (1 ≤ (zO i.p B i.inst (zB (!i.sd))).1.qty))) = true then
    if (zO i.p B i.inst (zB (!i.sd))).2.1 = true then
      some (⟨(zO i.p B i.inst (zB (!i.sd))).1.price,min q (zO i.p B i.inst (zB (!i.sd))).1.qty,true,yH i.p B (zO i.p B i.inst (zB (!i.sd))).1.a.inst (zO i.p B i.inst (zB (!i.sd))).1.a.side (min q (zO i.p B i.inst (zB (!i.sd))).1.qty) ++ yH i.p (xF B (yH i.p B (zO i.p B i.inst (zB (!i.sd))).1.a.inst (zO i.p B i.inst (zB (!i.sd))).1.a.side (min q (zO i.p B i.inst (zB (!i.sd))).1.qty))) (zO i.p B i.inst (zB (!i.sd))).1.b.inst (zO i.p B i.inst (zB (!i.sd))).1.b.side (min q (zO i.p B i.inst (zB (!i.sd))).1.qty)⟩,xF (xF B (yH i.p B (zO i.p B i.inst (zB (!i.sd))).1.a.inst (zO i.p B i.inst (zB (!i.sd))).1.a.side (min q (zO i.p B i.inst (zB (!i.sd))).1.qty))) (yH i.p (xF B (yH i.p B (zO i.p B i.inst (zB (!i.sd))).1.a.inst (zO i.p B i.inst (zB (!i.sd))).1.a.side (min q (zO i.p B i.inst (zB (!i.sd))).1.qty))) (zO i.p B i.inst (zB (!i.sd))).1.b.inst (zO i.p B i.inst (zB (!i.sd))).1.b.side (min q (zO i.p B i.inst (zB (!i.sd))).1.qty)))
    else some (⟨(zO i.p B i.inst (zB (!i.sd))).1.price,min q (zO i.p B i.inst (zB (!i.sd))).1.qty,false,yH i.p B i.inst (zB (!i.sd)) (min q (zO i.p B i.inst (zB (!i.sd))).1.qty)⟩,xF B (yH i.p B i.inst (zB (!i.sd)) (min q (zO i.p B i.inst (zB (!i.sd))).1.qty))) else none) := rfl
  generalize zO i.p B i.inst (zB (!i.sd)) = nb at hni hsb ⊢
  refine Cv.cnd.mk (fun n1 => ?_) (fun n1 => ⟨⟨i.sd,i.price,nb.1.price⟩,rfl,rfl,rfl,trivial,fun _ _ => Cv.cnd.mk (fun n2 => ?_) (fun n2 => ?_)⟩)
  · have n1 : nb.2.2 = false := by simpa using n1
    rw [n1,if_neg (by simp)] at hsb
    exact hno (.inr hsb)
  · have n2 : fE i.sd i.price nb.1.price = false := by simpa using n2
    rw [n2,if_neg (by simp)] at hsb
    exact hno (.inr hsb)
  have n1 : nb.2.2 = true := by simpa using n1
  have n2 : fE i.sd i.price nb.1.price = true := by simpa using n2
  obtain ⟨⟨b1,b2⟩,hi,hr⟩ := hni n1
  rw [n1,n2,decide_eq_true b1,if_pos (by rfl)] at hsb
  have hk : yN (min q nb.1.qty) := by constructor <;> omega
  have hsl : (st.length + 1) * 48 ≤ 70368744177664 := by omega
  have beh : ∀ (t : wY) (B' : List (List zH)) (s' : MSt),vR i.p B i.inst i.sd i.price q = some (t,B') → s'.Rep i.p B' → BOk i.p B' → B'.length = B.length →
      (s'.Rep i.p B' ∧ BOk i.p B' ∧ B'.length = i.B.length ∧ (0 ≤ q - t.qty ∧ q - t.qty ≤ i.q) ∧ ((st ++ [t]).length : Int) ≤ i.q - (q - t.qty) ∧ i.r = ⟨(st ++ [t]) ++ (gP i.p B' i.inst i.sd i.price (q - t.qty)).steps,(gP i.p B' i.inst i.sd i.price (q - t.qty)).left,(gP i.p B' i.inst i.sd i.price (q - t.qty)).B⟩) ∧ (q - t.qty).toNat < q.toNat := by
    intro t B' s' h1 h2 h3 h4
    have ht := zBq (by omega) h1
    refine ⟨⟨h2,h3,by omega,⟨by omega,by omega⟩,by rw [List.length_append,List.length_singleton]; omega,?_⟩,by omega⟩
    rw [zTg (by omega) h1] at r6
    rw [r6,List.append_assoc]; rfl
  refine Cv.cnd.mk (fun n3 => ?_) (fun n3 => ?_)
  · obtain ⟨_,ok⟩ := hi n3
    rw [n3,if_pos rfl] at hsb
    have oka := ok.a
    have okb := ok.b
    rw [List.length_map] at oka okb
    have ea := uU ok.sa
    have eb := uU ok.sb
    refine ⟨⟨s,i.p,B,nb.1.a.inst,decide (nb.1.a.side = 2),min q nb.1.qty⟩,rfl,ea,rfl,rfl,⟨r1,r2,oka.1,oka.2,hk⟩,fun s1 hs1 => ?_⟩
    dsimp only at hs1 ⊢
    rw [ea] at hs1 ⊢
    have l1 := uK (p := i.p) r1.ords nb.1.a.inst nb.1.a.side (min q nb.1.qty)
    have hB1 := r2.takes (fs := yH i.p B nb.1.a.inst nb.1.a.side (min q nb.1.qty))
    have l2 := uK (p := i.p) hs1.ords nb.1.b.inst nb.1.b.side (min q nb.1.qty)
    refine ⟨trivial,by rw [List.length_map]; omega,⟨s1,i.p,xF B (yH i.p B nb.1.a.inst nb.1.a.side (min q nb.1.qty)),nb.1.b.inst,decide (nb.1.b.side = 2),min q nb.1.qty⟩,rfl,eb,rfl,rfl,⟨hs1,hB1,okb.1,by dsimp only; rw [wV]; exact okb.2,hk⟩,fun s2 hs2 => ?_⟩
    dsimp only at hs2 ⊢
    rw [eb] at hs2 ⊢
    obtain ⟨g1,g2⟩ := beh _ _ s2 hsb hs2 hB1.takes (by rw [wV,wV])
    refine ⟨trivial,by rw [List.length_map,List.length_map]; omega,by rw [List.length_map]; exact hsl,⟨s2,_,st ++ [_],_⟩,?_,rfl,?_,g1,g2,by (repeat' (first|exact trivial|exact rfl|apply And.intro))⟩
    · dsimp only; rw [w64 (by omega)]
    · dsimp only
      rw [List.map_append,n3]
      simp [yA]
  · rw [n3,if_neg (by decide)] at hsb
    refine ⟨i.sd,rfl,trivial,fun _ _ => ⟨rfl,⟨s,i.p,B,i.inst,!i.sd,min q nb.1.qty⟩,rfl,rfl,rfl,rfl,⟨r1,r2,h0,by dsimp only;omega,hk⟩,fun s1 hs1 => ?_⟩⟩
    dsimp only at hs1 ⊢
    obtain ⟨g1,g2⟩ := beh _ _ s1 hsb hs1 r2.takes (by rw [wV])
    refine ⟨by rw [List.length_map]; exact hsl,⟨s1,_,st ++ [_],_⟩,?_,rfl,?_,g1,g2,by (repeat' (first|exact trivial|exact rfl|apply And.intro))⟩
    · dsimp only; rw [w64 (by omega)]
    · dsimp only
      rw [List.map_append,n3]
      simp [yA]
theorem run_ok : runC.ok Try.prog 10 := z9i (gokc z0e (gokc zPc (gokc zTu (gokc zRt gok0)))) yBv
open Go Cv Go.Proofs
structure Ask where
  kind : Int
  inst : Int
  side : Int
  id : Int
  price : Int
  qty : Int
  deriving DecidableEq
@[reducible] def Ask.cells (c : Ask) : List V := [zF c.kind,zF c.inst,zF c.side,zF c.id,zF c.price,zF c.qty]
@[reducible] def z9o (c : Ask) : V := .agg c.cells
def askE (c : Ask) : List D := [.v (.int .i64 c.kind),.v (.int .i64 c.inst),.v (.int .i64 c.side),.v (.int .i64 c.id),.v (.int .i64 c.price),.v (.int .i64 c.qty)]
def z4u : Ask := ⟨0,0,0,0,0,0⟩
@[reducible] def Ask.raw (c : Ask) : Prop := yN c.kind ∧ yN c.inst ∧ yN c.side ∧ yN c.id ∧ yN c.price ∧ yN c.qty
structure SmI where
  p : Prd
  x : Ask
  i : Int
def jL (x : Ask) : Int := [1,1,1,2,3,3,4].getD (zD x.kind 0 6).toNat 0
def wL (t : SmI) : Ask := ⟨jL t.x,zD t.x.inst 0 (t.p.count - 1),1 + zD t.x.side 0 1,if jL t.x = 1 then t.i else zD t.x.id 0 t.i,
  if (t.p.legs (zD t.x.inst 0 (t.p.count - 1))).2.2 = true then t.p.tick * (zD t.x.price 0 7 - 4) else t.p.tick * (zD t.x.price 0 7 + 8),1 + zD t.x.qty 0 11⟩
def smallC : Con := con1 SmI (fun t => [prdV t.p,z9o t.x,zF t.i]) (fun _ => []) (fun t => t.p.check = 0 ∧ t.p.small ∧ t.x.raw ∧ 0 ≤ t.i ∧ t.i ≤ 1000000) (fun t => z9o (wL t)) (fun _ => [])
def known16C : Con := con1 Unit (fun _ => []) (fun _ => []) (fun _ => True) (fun _ => yG true) (fun _ => [])
open Go Cv Go.Proofs
def zDy (t : SmI) : Prop :=
  ∃ (i:Prd),sb i.code=sb t.p.code∧iE i.months=iE t.p.months∧i.tick=t.p.tick∧i.low=t.p.low∧i.high=t.p.high∧i.wide=t.p.wide∧i.rule=t.p.rule∧i.top=t.p.top∧i.least=t.p.least∧i.part=t.p.part∧iE i.settle=iE t.p.settle∧(i.code.length≤1099511627776∧i.months.length≤1099511627776∧i.settle.length≤1099511627776)∧∀ (o:Unit),True→∃ (i_1:WiI),i_1.n=t.x.kind∧i_1.lo=0∧i_1.hi=6∧(((-9223372036854775808)≤i_1.n∧i_1.n≤9223372036854775807)∧(-1000000)≤i_1.lo∧i_1.lo≤i_1.hi∧i_1.hi≤1000000)∧∀ (o:Unit),True→(0≤zD i_1.n i_1.lo i_1.hi∧zD i_1.n i_1.lo i_1.hi<(↑(7:Nat):Int))∧∃ (n:Int),zG [[D.v (.int .i64 1)],[D.v (.int .i64 1)],[D.v (.int .i64 1)],[D.v (.int .i64 2)],[D.v (.int .i64 3)],[D.v (.int .i64 3)],[D.v (.int .i64 4)]] (zD i_1.n i_1.lo i_1.hi).toNat 0 1=some [D.v (.int .i64 n)]∧∃ (i_2:WiI),i_2.n=t.x.inst∧i_2.lo=0∧i_2.hi=IntKind.i64.wrap ((↑i.count:Int) - 1)∧(((-9223372036854775808)≤i_2.n∧i_2.n≤9223372036854775807)∧(-1000000)≤i_2.lo∧i_2.lo≤i_2.hi∧i_2.hi≤1000000)∧∀ (o:Unit),True→∃ (i:WiI),i.n=t.x.side∧i.lo=0∧i.hi=1∧(((-9223372036854775808)≤i.n∧i.n≤9223372036854775807)∧(-1000000)≤i.lo∧i.lo≤i.hi∧i.hi≤1000000)∧∀ (o:Unit),True→∃ (i_3:WiI),i_3.n=t.x.qty∧i_3.lo=0∧i_3.hi=11∧(((-9223372036854775808)≤i_3.n∧i_3.n≤9223372036854775807)∧(-1000000)≤i_3.lo∧i_3.lo≤i_3.hi∧i_3.hi≤1000000)∧∀ (o:Unit),True→∃ (i_4:WiI),i_4.n=t.x.price∧i_4.lo=0∧i_4.hi=7∧(((-9223372036854775808)≤i_4.n∧i_4.n≤9223372036854775807)∧(-1000000)≤i_4.lo∧i_4.lo≤i_4.hi∧i_4.hi≤1000000)∧∀ (o:Unit),True→∃ (i_5:j8),sb i_5.p.code=sb t.p.code∧iE i_5.p.months=iE t.p.months∧i_5.p.tick=t.p.tick∧i_5.p.low=t.p.low∧i_5.p.high=t.p.high∧i_5.p.wide=t.p.wide∧i_5.p.rule=t.p.rule∧i_5.p.top=t.p.top∧i_5.p.least=t.p.least∧i_5.p.part=t.p.part∧iE i_5.p.settle=iE t.p.settle∧i_5.n=zD i_2.n i_2.lo i_2.hi∧(i_5.p.code.length≤1099511627776∧i_5.p.months.length≤1099511627776∧i_5.p.settle.length≤1099511627776)∧∀ (o:Unit),True→cnd (i_5.p.legs i_5.n).snd.snd (cnd (n==1) (∃ (o:Unit),jL t.x=n∧zD t.x.inst 0 ((↑t.p.count:Int) - 1)=zD i_2.n i_2.lo i_2.hi∧1+zD t.x.side 0 1=IntKind.i64.wrap (1+zD i.n i.lo i.hi)∧(if jL t.x=1 then t.i else zD t.x.id 0 t.i)=t.i∧(if (t.p.legs (zD t.x.inst 0 ((↑t.p.count:Int) - 1))).snd.snd=true then t.p.tick * (zD t.x.price 0 (7:Int) - (4:Int)) else t.p.tick * (zD t.x.price 0 (7:Int)+(8:Int)))=IntKind.i64.wrap (t.p.tick * IntKind.i64.wrap (zD i_4.n i_4.lo i_4.hi - 4))∧1+zD t.x.qty 0 11=IntKind.i64.wrap (1+zD i_3.n i_3.lo i_3.hi)∧True) (∃ (i_6:WiI),i_6.n=t.x.id∧i_6.lo=0∧i_6.hi=t.i∧(((-9223372036854775808)≤i_6.n∧i_6.n≤9223372036854775807)∧(-1000000)≤i_6.lo∧i_6.lo≤i_6.hi∧i_6.hi≤1000000)∧∀ (o:Unit),True→∃ (o:Unit),jL t.x=n∧zD t.x.inst 0 ((↑t.p.count:Int) - 1)=zD i_2.n i_2.lo i_2.hi∧1+zD t.x.side 0 1=IntKind.i64.wrap (1+zD i.n i.lo i.hi)∧(if jL t.x=1 then t.i else zD t.x.id 0 t.i)=zD i_6.n i_6.lo i_6.hi∧(if (t.p.legs (zD t.x.inst 0 ((↑t.p.count:Int) - 1))).snd.snd=true then t.p.tick * (zD t.x.price 0 (7:Int) - (4:Int)) else t.p.tick * (zD t.x.price 0 (7:Int)+(8:Int)))=IntKind.i64.wrap (t.p.tick * IntKind.i64.wrap (zD i_4.n i_4.lo i_4.hi - 4))∧1+zD t.x.qty 0 11=IntKind.i64.wrap (1+zD i_3.n i_3.lo i_3.hi)∧True)) (cnd (n==1) (∃ (o:Unit),jL t.x=n∧zD t.x.inst 0 ((↑t.p.count:Int) - 1)=zD i_2.n i_2.lo i_2.hi∧1+zD t.x.side 0 1=IntKind.i64.wrap (1+zD i.n i.lo i.hi)∧(if jL t.x=1 then t.i else zD t.x.id 0 t.i)=t.i∧(if (t.p.legs (zD t.x.inst 0 ((↑t.p.count:Int) - 1))).snd.snd=true then t.p.tick * (zD t.x.price 0 (7:Int) - (4:Int)) else t.p.tick * (zD t.x.price 0 (7:Int)+(8:Int)))=IntKind.i64.wrap (t.p.tick * IntKind.i64.wrap (zD i_4.n i_4.lo i_4.hi+8))∧1+zD t.x.qty 0 11=IntKind.i64.wrap (1+zD i_3.n i_3.lo i_3.hi)∧True) (∃ (i_6:WiI),i_6.n=t.x.id∧i_6.lo=0∧i_6.hi=t.i∧(((-9223372036854775808)≤i_6.n∧i_6.n≤9223372036854775807)∧(-1000000)≤i_6.lo∧i_6.lo≤i_6.hi∧i_6.hi≤1000000)∧∀ (o:Unit),True→∃ (o:Unit),jL t.x=n∧zD t.x.inst 0 ((↑t.p.count:Int) - 1)=zD i_2.n i_2.lo i_2.hi∧1+zD t.x.side 0 1=IntKind.i64.wrap (1+zD i.n i.lo i.hi)∧(if jL t.x=1 then t.i else zD t.x.id 0 t.i)=zD i_6.n i_6.lo i_6.hi∧(if (t.p.legs (zD t.x.inst 0 ((↑t.p.count:Int) - 1))).snd.snd=true then t.p.tick * (zD t.x.price 0 (7:Int) - (4:Int)) else t.p.tick * (zD t.x.price 0 (7:Int)+(8:Int)))=IntKind.i64.wrap (t.p.tick * IntKind.i64.wrap (zD i_4.n i_4.lo i_4.hi+8))∧1+zD t.x.qty 0 11=IntKind.i64.wrap (1+zD i_3.n i_3.lo i_3.hi)∧True))
theorem z1q (t : SmI) : zDy t = walk Try.prog ([(12,r5countC),(15,withinC),(20,r5legsC)]) 0 ([]) ([]) [] Try.f8 (Try.f8.body.getD .skip) (smallC.pat t) (smallC.pre t) (smallC.alts t) := by kernel_rfl
theorem z1x (hG : GOk Try.prog ([(12,r5countC),(15,withinC),(20,r5legsC)])) (h : ∀ (t : SmI),smallC.cnd t → zDy t) : smallC.ok Try.prog 8 := zE mixed ([(12,r5countC),(15,withinC),(20,r5legsC)]) hG 0 (fun (t : SmI) => []) (fun (t : SmI) => []) [] Try.func8 (by kernel_rfl) (by kernel_rfl) (by kernel_rfl) (fun _ => by kernel_rfl) (fun (t : SmI) hc => Eq.mp (z1q t) (h t hc))
def bD (u : Unit) : Prop :=
  ∃ (i:Int),i=1∧True∧∀ (o:Unit),True→∃ (i_1:Prd),sb i_1.code=sb [(67:UInt8),(76:UInt8)]∧iE i_1.months=iE [(320:Int),(321:Int),(323:Int)]∧i_1.tick=5∧i_1.low=0∧i_1.high=1000∧i_1.wide=200∧i_1.rule=i∧i_1.top=4∧i_1.least=2∧i_1.part=40∧iE i_1.settle=iE [(500:Int),(505:Int),(490:Int)]∧(i_1.code.length≤1099511627776∧i_1.months.length≤1099511627776∧i_1.settle.length≤1099511627776)∧(∀ (o:Unit),i_1.check=0→∃ (i:SaI),i.inst=0∧i.id=1∧zB i.sd=2∧i.price=10∧i.qty=5∧zR i.s=zR (gC i_1)∧((i.s.p.code.length≤1099511627776∧i.s.p.months.length≤1099511627776∧i.s.p.settle.length≤1099511627776)∧i.s.books.length≤1000000∧∀ (b:Book),b ∈ i.s.books→(b.a.slots.length≤1000000∧(b.a.free ≠ 0→∃ (s:Slot),s ∈ b.a.slots∧s.used=false)∧∀ (q:kB),q ∈ b.a.queues→q.last=(-1) ∨ 0≤q.last∧q.last<(↑b.a.slots.length:Int))∧b.a.queues.length≤100000∧b.buys.length≤100000∧b.sells.length≤100000∧b.spare.length≤100000)∧∀ (o:Unit),True→∃ (i_2:RunI),i_2.inst=0∧zB i_2.sd=1∧i_2.price=15∧i_2.q=3∧zR i_2.s=zR (MSt.addF i).fst∧(i_2.s.Rep i_2.p i_2.B∧BOk i_2.p i_2.B∧(0≤i_2.inst∧i_2.inst<(↑i_2.B.length:Int))∧1≤i_2.q∧i_2.q≤1000000)∧∀ (o:MSt),o.Rep i_2.p i_2.r.B→cnd ((MSt.addF i).snd==0) (cnd ((↑(List.map yA i_2.r.steps).length:Int)==1) (((0:Int)≤(0:Int)∧0<(↑(List.map yA i_2.r.steps).length:Int))∧∃ (n:Int),zG (List.map yA i_2.r.steps) (Int.toNat 0) ((0:Nat)+(0:Nat)) 1=some [D.v (.int .i64 n)]∧cnd (n==10) (((0:Int)≤(0:Int)∧0<(↑(List.map yA i_2.r.steps).length:Int))∧∃ (n:Int),zG (List.map yA i_2.r.steps) (Int.toNat 0) ((0:Nat)+(1:Nat)) 1=some [D.v (.int .i64 n)]∧cnd (n==3) (((0:Int)≤(0:Int)∧0<(↑(List.map yA i_2.r.steps).length:Int))∧∃ (b:Bool),zG (List.map yA i_2.r.steps) (Int.toNat 0) ((0:Nat)+(2:Nat)) 1=some [D.v (.bool b)]∧cnd (!b) (((0:Int)≤(0:Int)∧0<(↑(List.map yA i_2.r.steps).length:Int))∧∃ (els:List (List D)),zG (List.map yA i_2.r.steps) (Int.toNat 0) ((0:Nat)+(3:Nat)) 1=some [D.ro 6 els]∧cnd ((↑els.length:Int)==1) (((0:Int)≤(0:Int)∧0<(↑(List.map yA i_2.r.steps).length:Int))∧∃ (els:List (List D)),zG (List.map yA i_2.r.steps) (Int.toNat 0) ((0:Nat)+(3:Nat)) 1=some [D.ro 6 els]∧((0:Int)≤(0:Int)∧0<(↑els.length:Int))∧∃ (n:Int),zG els (Int.toNat 0) ((0:Nat)+(5:Nat)) 1=some [D.v (.int .i64 n)]∧cnd (n==2) (∃ (o:Unit),true=(i_2.r.left==0)∧True) (∃ (o:Unit),true=false∧True)) (∃ (o:Unit),true=false∧True)) (∃ (o:Unit),true=false∧True)) (∃ (o:Unit),true=false∧True)) (∃ (o:Unit),true=false∧True)) (∃ (o:Unit),true=false∧True)) (∃ (o:Unit),true=false∧True))∧∀ (o:Unit),i_1.check ≠ 0→∃ (o:Unit),true=false∧True
theorem zOh (u : Unit) : bD u = walk Try.prog ([(29,threeC),(7,newSC),(9,saddC),(10,runC)]) 0 ([]) ([]) [] Try.f11 (Try.f11.body.getD .skip) (known16C.pat u) (known16C.pre u) (known16C.alts u) := by kernel_rfl
theorem zPy (hG : GOk Try.prog ([(29,threeC),(7,newSC),(9,saddC),(10,runC)])) (h : ∀ (u : Unit),known16C.cnd u → bD u) : known16C.ok Try.prog 11 := zE mixed ([(29,threeC),(7,newSC),(9,saddC),(10,runC)]) hG 0 (fun (u : Unit) => []) (fun (u : Unit) => []) [] Try.func11 (by kernel_rfl) (by kernel_rfl) (by kernel_rfl) (fun _ => by kernel_rfl) (fun (u : Unit) hc => Eq.mp (zOh u) (h u hc))
open Go Cv Go.Proofs
theorem pY {p : Prd} (hc : p.check = 0) : 1 ≤ p.count ∧ p.count ≤ 21 := by
  have := aE hc
  have := (xV hc).m2
  have := j1 p
  omega
theorem z7s (t : SmI) (h : smallC.cnd t) : zDy t := by
  obtain ⟨hc,hp,⟨x1,x2,x3,x4,x5,x6⟩,hi0,hi1⟩ : t.p.check = 0 ∧ t.p.small ∧ t.x.raw ∧ 0 ≤ t.i ∧ t.i ≤ 1000000 := h
  have hcb := pY hc
  have t1 := (xV hc).t1
  have t2 := (xV hc).t2
  have w6 := yV (n := t.x.kind) (lo := 0) (hi := 6) (by omega)
  have w1 := yV (n := t.x.side) (lo := 0) (hi := 1) (by omega)
  have w11 := yV (n := t.x.qty) (lo := 0) (hi := 11) (by omega)
  have w7 := yV (n := t.x.price) (lo := 0) (hi := 7) (by omega)
  have hcw : IntKind.i64.wrap ((t.p.count : Int) - 1) = t.p.count - 1 := w64 (by omega)
  obtain ⟨n,hn⟩ : ∃ n,[1,1,1,2,3,3,4][(zD t.x.kind 0 6).toNat]? = some n := z9 (l := ([1,1,1,2,3,3,4] : List Int)) (by simp; omega)
  have hk : jL t.x = n := zU hn
  have e7 : ∀ a : Int,-4 ≤ a ∧ a ≤ 15 → IntKind.i64.wrap (t.p.tick * IntKind.i64.wrap a) = t.p.tick * a := by
    intro a ha
    rw [w64 (x := a) (by omega)]
    have h1 : t.p.tick * a ≤ 1000 * 15 := by
      rcases Int.le_total 0 a with h0 | h0
      · exact Int.mul_le_mul t2 ha.2 h0 (by decide)
      · have : t.p.tick * a ≤ 0 := Int.mul_nonpos_of_nonneg_of_nonpos (by omega) h0
        omega
    have h2 : -(1000 * 15) ≤ t.p.tick * a := by
      rcases Int.le_total 0 a with h0 | h0
      · have : 0 ≤ t.p.tick * a := Int.mul_nonneg (by omega) h0
        omega
      · have : t.p.tick * (-a) ≤ 1000 * 15 := Int.mul_le_mul t2 (by omega) (by omega) (by decide)
        rw [Int.mul_neg] at this
        omega
    exact w64 (by omega)
  unfold zDy
  refine ⟨t.p,rfl,rfl,rfl,rfl,rfl,rfl,rfl,rfl,rfl,rfl,rfl,hp,fun _ _ => ⟨⟨t.x.kind,0,6⟩,rfl,rfl,rfl,⟨x1,by dsimp only;omega,by dsimp only;omega,by dsimp only;omega⟩,fun _ _ => ⟨⟨by dsimp only;omega,by dsimp only;omega⟩,n,elI (l := [1,1,1,2,3,3,4]) hn,⟨t.x.inst,0,t.p.count - 1⟩,rfl,rfl,hcw.symm,⟨x2,by dsimp only;omega,by dsimp only;omega,by dsimp only;omega⟩,fun _ _ => ⟨⟨t.x.side,0,1⟩,rfl,rfl,rfl,⟨x3,by dsimp only;omega,by dsimp only;omega,by dsimp only;omega⟩,fun _ _ => ⟨⟨t.x.qty,0,11⟩,rfl,rfl,rfl,⟨x6,by dsimp only;omega,by dsimp only;omega,by dsimp only;omega⟩,fun _ _ => ⟨⟨t.x.price,0,7⟩,rfl,rfl,rfl,⟨x5,by dsimp only;omega,by dsimp only;omega,by dsimp only;omega⟩,fun _ _ => ⟨⟨t.p,zD t.x.inst 0 (t.p.count - 1)⟩,rfl,rfl,rfl,rfl,rfl,rfl,rfl,rfl,rfl,rfl,rfl,rfl,hp,fun _ _ => ?_⟩⟩⟩⟩⟩⟩⟩
  dsimp only
  rw [w64 (x := 1 + zD t.x.side 0 1) (by omega),w64 (x := 1 + zD t.x.qty 0 11) (by omega),e7 _ (by omega),e7 _ (by omega)]
  refine Cv.cnd.mk (fun c => Cv.cnd.mk (fun d => ?_) (fun d => ?_)) (fun c => Cv.cnd.mk (fun d => ?_) (fun d => ?_))
  · have d : n = 1 := by simpa using d
    exact ⟨(),hk,rfl,rfl,by rw [hk,if_pos d],by rw [if_pos c],rfl,trivial⟩
  · have d : ¬ n = 1 := by simpa using d
    exact ⟨⟨t.x.id,0,t.i⟩,rfl,rfl,rfl,⟨x4,by dsimp only;omega,hi0,hi1⟩,fun _ _ => ⟨(),hk,rfl,rfl,by rw [hk,if_neg d],by rw [if_pos c],rfl,trivial⟩⟩
  · have d : n = 1 := by simpa using d
    exact ⟨(),hk,rfl,rfl,by rw [hk,if_pos d],by rw [if_neg (by rw [c]; simp)],rfl,trivial⟩
  · have d : ¬ n = 1 := by simpa using d
    exact ⟨⟨t.x.id,0,t.i⟩,rfl,rfl,rfl,⟨x4,by dsimp only;omega,hi0,hi1⟩,fun _ _ => ⟨(),hk,rfl,rfl,by rw [hk,if_neg d],by rw [if_neg (by rw [c]; simp)],rfl,trivial⟩⟩
theorem small_ok : smallC.ok Try.prog 8 := z1x (gokc r5count_ok (gokc lB (gokc zQu gok0))) z7s
theorem zVq {L : List zH} {s id p q : Int} {o : zH} (h : o ∈ zBf L s id p q) : o.price = p ∨ ∃ o' ∈ L,o.price = o'.price := by
  have key : ∀ X : List zH,(o ∈ X.takeWhile (before s p) ++ ⟨id,s,p,q,jM L s p⟩ :: X.dropWhile (before s p)) → o.price = p ∨ o ∈ X := by
    intro X hX
    rcases List.mem_append.1 hX with hX | hX
    · exact .inr (List.takeWhile_sublist _ |>.subset hX)
    · rcases List.mem_cons.1 hX with rfl | hX
      · exact .inl rfl
      · exact .inr (List.dropWhile_sublist _ |>.subset hX)
  rw [zBf] at h
  split at h
  · rcases key _ h with h | h
    · exact .inl h
    · obtain ⟨o',ho',_,_,e,_⟩ := zNn h
      exact .inr ⟨o',ho',e⟩
  · rcases key _ h with h | h
    · exact .inl h
    · exact .inr ⟨o,h,rfl⟩
theorem BOk.add {p : Prd} {B : List (List zH)} (h : BOk p B) (inst id s price q : Int) : BOk p (mD p B inst id s price q).1 := by
  rw [mD]
  split
  · exact h
  split
  · exact h
  split
  · exact h
  split
  · exact h
  rename_i c1 _ _ c4
  have c4 : p.price inst price = 0 := by simpa using c4
  refine ⟨h.pc,h.ps,by simpa using h.bl,fun k L hL o ho => ?_⟩
  dsimp only at hL
  rcases wO hL with ⟨rfl,rfl⟩ | ⟨_,hL⟩
  · obtain ⟨L',hL'⟩ := z9 (l := B) (i := inst.toNat) (by omega)
    rw [zU hL',nP] at ho
    have e : ((inst.toNat : Nat) : Int) = inst := by omega
    repeat' split at ho
    · exact h.pr _ L' hL' o ho
    · exact h.pr _ L' hL' o ho
    · exact h.pr _ L' hL' o ho
    · rcases zVq ho with h1 | ⟨o',ho',h1⟩
      · rw [h1,e]; exact c4
      · rw [h1]; exact h.pr _ L' hL' o' ho'
  · exact h.pr k L hL o ho
theorem BOk.new {p : Prd} (hc : p.check = 0) (hp : p.small) : BOk p (List.replicate p.count []) := by
  refine ⟨hc,hp,by simp,fun k L hL o ho => ?_⟩
  rw [List.eq_of_mem_replicate (List.mem_of_getElem? hL)] at ho
  cases ho
theorem MSt.Rep.fit {s : MSt} {p : Prd} {B : List (List zH)} (h : s.Rep p B) (hb : BOk p B) : s.fit := by
  have := j1 p
  refine ⟨by rw [h.ep]; exact hb.ps,by rw [h.bl,hb.bl]; omega,fun b hm => ?_⟩
  obtain ⟨k,hk⟩ := List.mem_iff_getElem?.1 hm
  have hlt := (List.getElem?_eq_some_iff.1 hk).1
  rw [h.bl] at hlt
  obtain ⟨L,hL⟩ := z9 hlt
  exact (h.bk k b L hk hL).fit
theorem zUv (u : Unit) (h : known16C.cnd u) : bD u := by
  have hc : (qR 1).check = 0 := by decide +kernel
  have hp : (qR 1).small := by refine ⟨?_,?_,?_⟩ <;> decide
  have hB0 := BOk.new hc hp
  have hR0 := tN (qR 1)
  have hadd := hR0.add 0 1 true 10 5
  have hB1 := hB0.add 0 1 (zB true) 10 5
  have ha : (mD (qR 1) (List.replicate (qR 1).count []) 0 1 (zB true) 10 5).2 = 0 := by decide +kernel
  have hl : (0 : Int) < ((mD (qR 1) (List.replicate (qR 1).count []) 0 1 (zB true) 10 5).1.length : Int) := by decide +kernel
  have hr1 : (gP (qR 1) (mD (qR 1) (List.replicate (qR 1).count []) 0 1 (zB true) 10 5).1 0 false 15 3).steps = [⟨10,3,false,[⟨1,0,2,10,3,2⟩]⟩] := by decide +kernel
  have hr2 : (gP (qR 1) (mD (qR 1) (List.replicate (qR 1).count []) 0 1 (zB true) 10 5).1 0 false 15 3).left = 0 := by decide +kernel
  unfold bD
  refine ⟨1,rfl,trivial,fun _ _ => ⟨qR 1,rfl,rfl,rfl,rfl,rfl,rfl,rfl,rfl,rfl,rfl,rfl,hp,fun _ _ => ⟨⟨gC (qR 1),0,1,true,10,5⟩,rfl,rfl,rfl,rfl,rfl,rfl,hR0.fit hB0,fun _ _ => ⟨⟨(MSt.addF ⟨gC (qR 1),0,1,true,10,5⟩).1,qR 1,(mD (qR 1) (List.replicate (qR 1).count []) 0 1 (zB true) 10 5).1,0,false,15,3⟩,rfl,rfl,rfl,rfl,rfl,⟨hadd.1,hB1,⟨by decide,hl⟩,by decide,by decide⟩,fun o ho => ?_⟩⟩,fun _ hx => absurd hc hx⟩⟩
  have e1 : RunI.r ⟨(MSt.addF ⟨gC (qR 1),0,1,true,10,5⟩).1,qR 1,(mD (qR 1) (List.replicate (qR 1).count []) 0 1 (zB true) 10 5).1,0,false,15,3⟩ = gP (qR 1) (mD (qR 1) (List.replicate (qR 1).count []) 0 1 (zB true) 10 5).1 0 false 15 3 := rfl
  rw [e1,hr1,hr2,hadd.2,ha]
  refine Cv.cnd.mk (fun _ => Cv.cnd.mk (fun _ => ⟨⟨by decide,by decide⟩,10,rfl,Cv.cnd.mk (fun _ => ⟨⟨by decide,by decide⟩,3,rfl,Cv.cnd.mk (fun _ => ⟨⟨by decide,by decide⟩,false,rfl,Cv.cnd.mk (fun _ => ⟨⟨by decide,by decide⟩,_,rfl,Cv.cnd.mk (fun _ => ⟨⟨by decide,by decide⟩,_,rfl,⟨by decide,by decide⟩,2,rfl,Cv.cnd.mk (fun _ => ⟨(),rfl,trivial⟩) (fun e => absurd e (by decide))⟩) (fun e => absurd e (by decide))⟩) (fun e => absurd e (by decide))⟩) (fun e => absurd e (by decide))⟩) (fun e => absurd e (by decide))⟩) (fun e => absurd e (by decide))) (fun e => absurd e (by decide))
theorem known16_ok : known16C.ok Try.prog 11 := zPy (gokc zSr (gokc newS_ok (gokc sadd_ok (gokc run_ok gok0)))) zUv
open Go Cv Go.Proofs
def ordersOC : Con := con1 BoI (fun i => [.nm 0 0,zF i.s,.agg [zF i.r.price,zF i.r.queue]]) (fun i => dW i.b) (fun i => i.b.a.listOk i.r.queue i.l) (fun _ => .own 6) (fun i => dW i.b ++ [.own 51 5 (i.ords.map zX)])
def bordersC : Con := con1 BkL (fun i => [.nm 0 0]) (fun i => [yC i.b]) (fun i => i.b.Rep i.L) (fun _ => .own 1) (fun i => [yC i.b,.own 51 5 (i.L.map zX)])
def zGa : List SAnn := [
  { ι := Unit,slots := fun _ => [],rows := fun _ => [],un := 3 },
  { ι := List zH × Nat,slots := fun j => [(3,.own 0),(22,zF j.2)],rows := fun j => [.own 51 5 (j.1.map zX)] }]
def zHz : List (Nat × SAnn) := [(16,{ ι := Unit,slots := fun _ => [],rows := fun _ => [],lits := [(5,.int .i64 1),(5,.int .i64 2)] })]
structure SoI where
  s : MSt
  p : Prd
  B : List (List zH)
  inst : Int
  sd : Bool
@[reducible] def SoI.ok (i : SoI) : Prop := i.s.Rep i.p i.B ∧ i.B.length ≤ 1000
def atB (B : List (List zH)) (inst : Int) : List zH := if inst < 0 then [] else B.getD inst.toNat []
def sordersC : Con := con1 SoI (fun i => [.nm 0 0,zF i.inst]) (fun i => [zR i.s]) (fun i => i.ok) (fun _ => .own 1) (fun i => [zR i.s,.own 51 5 ((atB i.B i.inst).map zX)])
open Go Cv Go.Proofs
structure MmI where
  x : Prd
  l : List Ask
  inst : Int
  side : Int
  price : Int
  qty : Int
@[reducible] def MmI.raw (i : MmI) : Prop := i.x.raw ∧ (∀ c ∈ i.l,c.raw) ∧ i.l.length ≤ 9223372036854775807 ∧ yN i.inst ∧ yN i.side ∧ yN i.price ∧ yN i.qty
def MmI.p (i : MmI) : Prd := wH i.x
def MmI.ask (i : MmI) (j : Nat) : Ask := wL ⟨i.p,i.l.getD j z4u,j⟩
def zEc (p : Prd) (B : List (List zH)) (y : Ask) : List (List zH) := (mD p B y.inst y.id y.side y.price y.qty).1
def noB (p : Prd) : List (List zH) := List.replicate p.count []
def MmI.mon (i : MmI) : Nat → List (List zH)
  | 0 => noB i.p
  | j + 1 => if (i.ask j).inst < i.p.months.length then zEc i.p (i.mon j) (i.ask j) else i.mon j
def MmI.n (i : MmI) : Nat := min i.l.length 40
def MmI.mi (i : MmI) : Int := zD i.inst 0 (i.p.months.length - 1)
def MmI.last (i : MmI) : Ask := wL ⟨i.p,⟨0,i.mi,i.side,0,i.price,i.qty⟩,0⟩
def MmI.msd (i : MmI) : Int := 1 + zD i.side 0 1
def MmI.mp (i : MmI) : Int := i.p.tick * (8 + zD i.price 0 7)
def MmI.mq (i : MmI) : Int := 5 * (1 + zD i.qty 0 11)
def MmI.run (i : MmI) : zXv := gP i.p (i.mon i.n) i.mi (decide (i.msd = 2)) i.mp i.mq
def MmI.lad (i : MmI) : List Lv := pV (atB (i.mon i.n) i.mi) (3 - i.msd)
def yBp (t : Nat) : SAnn := { ι := Prd,slots := fun _ => [(t,.nm 0 0)],rows := fun p => [.cells [sV p.code,.own 1,zF p.tick,zF p.low,zF p.high,zF p.wide,zF p.rule,zF p.top,zF p.least,zF p.part,.own 2] 25,.fro 1 (iE p.months),.fro 1 (iE p.settle)] }
def z9n (t : Nat) : SAnn := { ι := Ask,slots := fun _ => [(t,.nm 0 0)],rows := fun y => [.cells y.cells 33] }
open Go Cv Go.Proofs
open Go Cv Go.Proofs
def aO (i : BoI) : Prop :=
  ∃ (i_1:ArL),i_1.n=i.r.queue∧AObj.adt Arena 3 zC i_1.a=zM i.b 1∧i_1.a.listOk i_1.n i_1.l∧∀ (o:Unit),True→∃ (i0:Nat),(↑i0:Int)=0∧List.map zX (List.take i0 i.ords)=[]∧∃ (I:Nat→Prop),∃ (μ:Nat→Nat),I i0∧∀ (i_2:Nat),I i_2→cnd (decide ((↑i_2:Int)<(↑(List.map wQ (i_1.a.ents i_1.l)).length:Int))) ((0≤(↑i_2:Int)∧(↑i_2:Int)<(↑(List.map wQ (i_1.a.ents i_1.l)).length:Int))∧∃ (n:Int),∃ (n_1:Int),∃ (n_2:Int),∃ (b:Bool),zG (List.map wQ (i_1.a.ents i_1.l)) (↑i_2:Int).toNat 0 4=some [D.v (.int .i64 n),D.v (.int .i64 n_1),D.v (.int .i64 n_2),D.v (.bool b)]∧((List.map zX (List.take i_2 i.ords)).length+1) * (40:Nat)≤(70368744177664:Nat)∧∃ (i':Nat),(↑i':Int)=IntKind.i64.wrap ((↑i_2:Int)+1)∧List.map zX (List.take i' i.ords)=List.map zX (List.take i_2 i.ords)++[[D.v (.int .i64 n_1),D.v (.int .i64 i.s),D.v (.int .i64 i.r.price),D.v (.int .i64 n_2),D.v (.bool b)]]∧I i'∧μ i'<μ i_2∧AObj.adt Arena 3 zC i_1.a=AObj.adt Arena 3 zC i_1.a∧AObj.own 140 4 (List.map wQ (i_1.a.ents i_1.l))=AObj.own 140 4 (List.map wQ (i_1.a.ents i_1.l))∧Sx.AObj.cells [V.d (D.v (.int .i64 i.r.price)),V.d (D.v (.int .i64 i.r.queue))] 109=Sx.AObj.cells [V.d (D.v (.int .i64 i.r.price)),V.d (D.v (.int .i64 i.r.queue))] 109∧zM i.b 0=zM i.b 0∧zM i.b 2=zM i.b 2∧zM i.b 3=zM i.b 3∧zM i.b 4=zM i.b 4∧zM i.b 5=zM i.b 5) (∃ (o:Unit),i.b.top1=i.b.top1∧i.b.top2=i.b.top2∧i.b.has1=i.b.has1∧i.b.has2=i.b.has2∧AObj.adt Arena 3 zC i.b.a=AObj.adt Arena 3 zC i_1.a∧List.map zA i.b.buys=List.map zA i.b.buys∧List.map zA i.b.sells=List.map zA i.b.sells∧atE i.b.at_=atE i.b.at_∧iE i.b.spare=iE i.b.spare∧List.map zX i.ords=List.map zX (List.take i_2 i.ords)∧True)
theorem zQk (i : BoI) : aO i = walk Try.prog ([(75,alistC)]) 0 ([]) (pH i) [] Try.f56 (Try.f56.body.getD .skip) (ordersOC.pat i) (ordersOC.pre i) (ordersOC.alts i) := by kernel_rfl
theorem zQn (hG : GOk Try.prog ([(75,alistC)])) (h : ∀ (i : BoI),ordersOC.cnd i → aO i) : ordersOC.ok Try.prog 56 := zE mixed ([(75,alistC)]) hG 0 (fun (i : BoI) => []) (fun (i : BoI) => pH i) [] Try.func56 (by kernel_rfl) (by kernel_rfl) (by kernel_rfl) (fun _ => by kernel_rfl) (fun (i : BoI) hc => Eq.mp (zQk i) (h i hc))
@[reducible] def j3  : AObj := AObj.own (3 : Nat) (1 : Nat) [[D.v (.int .i64 1)],[D.v (.int .i64 2)]]
@[reducible] def cA (i : BkL) (n : Int) (i0 : List zH × Nat) (I : List zH × Nat→Prop) (μ : List zH × Nat→Nat) (i_1 : List zH × Nat) : Prop := ∃ (n:Int),zG [[D.v (.int .i64 1)],[D.v (.int .i64 2)]] (IntKind.i64.wrap ((0:Int)+(1:Int))).toNat 0 1=some [D.v (.int .i64 n)]∧((Value.int IntKind.i64 n=Value.int .i64 1∧∃ (i0:List zH × Nat),(↑i0.snd:Int)=0∧List.map zX i0.fst=List.map zX i_1.fst∧∃ (I:List zH × Nat→Prop),∃ (μ:List zH × Nat→Nat),I i0∧∀ (i_2:List zH × Nat),I i_2→cnd (decide ((↑i_2.snd:Int)<(↑(List.map zA i.b.buys).length:Int))) ((0≤(↑i_2.snd:Int)∧(↑i_2.snd:Int)<(↑(List.map zA i.b.buys).length:Int))∧∃ (n:Int),∃ (n_1:Int),zG (List.map zA i.b.buys) (↑i_2.snd:Int).toNat 0 2=some [D.v (.int .i64 n),D.v (.int .i64 n_1)]∧∃ (i_3:BoI),i_3.s=1∧i_3.r.price=n∧i_3.r.queue=n_1∧i_3.b.top1=i.b.top1∧i_3.b.top2=i.b.top2∧i_3.b.has1=i.b.has1∧i_3.b.has2=i.b.has2∧AObj.adt Arena 3 zC i_3.b.a=AObj.adt Arena 3 zC i.b.a∧List.map zA i_3.b.buys=List.map zA i.b.buys∧List.map zA i_3.b.sells=List.map zA i.b.sells∧atE i_3.b.at_=atE i.b.at_∧iE i_3.b.spare=iE i.b.spare∧i_3.b.a.listOk i_3.r.queue i_3.l∧∀ (o:Unit),True→((List.map zX i_2.fst).length+(List.map zX i_3.ords).length) * (40:Nat)≤(70368744177664:Nat)∧∃ (i':List zH × Nat),(↑i'.snd:Int)=IntKind.i64.wrap ((↑i_2.snd:Int)+1)∧List.map zX i'.fst=List.map zX i_2.fst++List.map zX i_3.ords∧I i'∧μ i'<μ i_2∧j3=j3∧Sx.AObj.cells (wP (uW 6 (1+((6:Nat) - (1:Nat))+(1:Nat)+(1:Nat)+(1:Nat)+(1:Nat)+1) ((7:Nat) - (6:Nat)) [((5:Nat),1+nat_lit 4),((4:Nat),1+nat_lit 3),((3:Nat),1+nat_lit 2),((2:Nat),1+nat_lit 1),((1:Nat),1+nat_lit 0),((0:Nat),(0:Nat))]) [V.nm 1 0,V.own 2,V.own 3,V.mp 4,zF i_3.b.top1,zF i_3.b.top2,V.own 5,yG i_3.b.has1,yG i_3.b.has2]) (104:TypeId)=Sx.AObj.cells (wP (kL 0 1 6) [V.nm 1 0,V.own 2,V.own 3,V.mp 4,zF i.b.top1,zF i.b.top2,V.own 5,yG i.b.has1,yG i.b.has2]) (104:TypeId)∧AObj.adt Arena 3 zC i_3.b.a=AObj.adt Arena 3 zC i.b.a∧AObj.own 109 2 (List.map zA i_3.b.buys)=AObj.own 109 2 (List.map zA i.b.buys)∧AObj.own 109 2 (List.map zA i_3.b.sells)=AObj.own 109 2 (List.map zA i.b.sells)∧Sx.AObj.map (atE i_3.b.at_)=Sx.AObj.map (atE i.b.at_)∧AObj.own 3 1 (iE i_3.b.spare)=AObj.own 3 1 (iE i.b.spare)) (∃ (o:Unit),i.b.top1=i.b.top1∧i.b.top2=i.b.top2∧i.b.has1=i.b.has1∧i.b.has2=i.b.has2∧AObj.adt Arena 3 zC i.b.a=AObj.adt Arena 3 zC i.b.a∧List.map zA i.b.buys=List.map zA i.b.buys∧List.map zA i.b.sells=List.map zA i.b.sells∧atE i.b.at_=atE i.b.at_∧iE i.b.spare=iE i.b.spare∧List.map zX i.L=List.map zX i_2.fst∧True)) ∨ (Value.int IntKind.i64 n=Value.int .i64 2∧∃ (i0:List zH × Nat),(↑i0.snd:Int)=0∧List.map zX i0.fst=List.map zX i_1.fst∧∃ (I:List zH × Nat→Prop),∃ (μ:List zH × Nat→Nat),I i0∧∀ (i_2:List zH × Nat),I i_2→cnd (decide ((↑i_2.snd:Int)<(↑(List.map zA i.b.sells).length:Int))) ((0≤(↑i_2.snd:Int)∧(↑i_2.snd:Int)<(↑(List.map zA i.b.sells).length:Int))∧∃ (n:Int),∃ (n_1:Int),zG (List.map zA i.b.sells) (↑i_2.snd:Int).toNat 0 2=some [D.v (.int .i64 n),D.v (.int .i64 n_1)]∧∃ (i_3:BoI),i_3.s=2∧i_3.r.price=n∧i_3.r.queue=n_1∧i_3.b.top1=i.b.top1∧i_3.b.top2=i.b.top2∧i_3.b.has1=i.b.has1∧i_3.b.has2=i.b.has2∧AObj.adt Arena 3 zC i_3.b.a=AObj.adt Arena 3 zC i.b.a∧List.map zA i_3.b.buys=List.map zA i.b.buys∧List.map zA i_3.b.sells=List.map zA i.b.sells∧atE i_3.b.at_=atE i.b.at_∧iE i_3.b.spare=iE i.b.spare∧i_3.b.a.listOk i_3.r.queue i_3.l∧∀ (o:Unit),True→((List.map zX i_2.fst).length+(List.map zX i_3.ords).length) * (40:Nat)≤(70368744177664:Nat)∧∃ (i':List zH × Nat),(↑i'.snd:Int)=IntKind.i64.wrap ((↑i_2.snd:Int)+1)∧List.map zX i'.fst=List.map zX i_2.fst++List.map zX i_3.ords∧I i'∧μ i'<μ i_2∧j3=j3∧Sx.AObj.cells (wP (uW 6 (1+((6:Nat) - (1:Nat))+(1:Nat)+(1:Nat)+(1:Nat)+(1:Nat)+1) ((7:Nat) - (6:Nat)) [((5:Nat),1+nat_lit 4),((4:Nat),1+nat_lit 3),((3:Nat),1+nat_lit 2),((2:Nat),1+nat_lit 1),((1:Nat),1+nat_lit 0),((0:Nat),(0:Nat))]) [V.nm 1 0,V.own 2,V.own 3,V.mp 4,zF i_3.b.top1,zF i_3.b.top2,V.own 5,yG i_3.b.has1,yG i_3.b.has2]) (104:TypeId)=Sx.AObj.cells (wP (kL 0 1 6) [V.nm 1 0,V.own 2,V.own 3,V.mp 4,zF i.b.top1,zF i.b.top2,V.own 5,yG i.b.has1,yG i.b.has2]) (104:TypeId)∧AObj.adt Arena 3 zC i_3.b.a=AObj.adt Arena 3 zC i.b.a∧AObj.own 109 2 (List.map zA i_3.b.buys)=AObj.own 109 2 (List.map zA i.b.buys)∧AObj.own 109 2 (List.map zA i_3.b.sells)=AObj.own 109 2 (List.map zA i.b.sells)∧Sx.AObj.map (atE i_3.b.at_)=Sx.AObj.map (atE i.b.at_)∧AObj.own 3 1 (iE i_3.b.spare)=AObj.own 3 1 (iE i.b.spare)) (∃ (o:Unit),i.b.top1=i.b.top1∧i.b.top2=i.b.top2∧i.b.has1=i.b.has1∧i.b.has2=i.b.has2∧AObj.adt Arena 3 zC i.b.a=AObj.adt Arena 3 zC i.b.a∧List.map zA i.b.buys=List.map zA i.b.buys∧List.map zA i.b.sells=List.map zA i.b.sells∧atE i.b.at_=atE i.b.at_∧iE i.b.spare=iE i.b.spare∧List.map zX i.L=List.map zX i_2.fst∧True)) ∨ False)
@[reducible] def cB (i : BkL) (I : List zH × Nat→Prop) (μ : List zH × Nat→Nat) (i_1 : List zH × Nat) (i_2 : BoI) : Prop := ∀ (o:Unit),True→((List.map zX i_1.fst).length+(List.map zX i_2.ords).length) * (40:Nat)≤(70368744177664:Nat)∧∃ (i':List zH × Nat),(↑i'.snd:Int)=IntKind.i64.wrap ((↑i_1.snd:Int)+1)∧List.map zX i'.fst=List.map zX i_1.fst++List.map zX i_2.ords∧I i'∧μ i'<μ i_1∧j3=j3∧Sx.AObj.cells (wP (uW 6 (1+((6:Nat) - (1:Nat))+(1:Nat)+(1:Nat)+(1:Nat)+(1:Nat)) ((7:Nat) - (6:Nat)) [((5:Nat),1+nat_lit 4),((4:Nat),1+nat_lit 3),((3:Nat),1+nat_lit 2),((2:Nat),1+nat_lit 1),((1:Nat),1+nat_lit 0),((0:Nat),(0:Nat))]) [V.nm 1 0,V.own 2,V.own 3,V.mp 4,zF i_2.b.top1,zF i_2.b.top2,V.own 5,yG i_2.b.has1,yG i_2.b.has2]) (104:TypeId)=Sx.AObj.cells (wP (kL 0 1 6) [V.nm 1 0,V.own 2,V.own 3,V.mp 4,zF i.b.top1,zF i.b.top2,V.own 5,yG i.b.has1,yG i.b.has2]) (104:TypeId)∧AObj.adt Arena 3 zC i_2.b.a=AObj.adt Arena 3 zC i.b.a∧AObj.own 109 2 (List.map zA i_2.b.buys)=AObj.own 109 2 (List.map zA i.b.buys)∧AObj.own 109 2 (List.map zA i_2.b.sells)=AObj.own 109 2 (List.map zA i.b.sells)∧Sx.AObj.map (atE i_2.b.at_)=Sx.AObj.map (atE i.b.at_)∧AObj.own 3 1 (iE i_2.b.spare)=AObj.own 3 1 (iE i.b.spare)
def bX (i : BkL) : Prop :=
  ((0:Int)≤(0:Int)∧0<(↑(2:Nat):Int))∧∃ (n:Int),zG [[D.v (.int .i64 1)],[D.v (.int .i64 2)]] (Int.toNat 0) 0 1=some [D.v (.int .i64 n)]∧((Value.int IntKind.i64 n=Value.int .i64 1∧∃ (i0:List zH × Nat),(↑i0.snd:Int)=0∧List.map zX i0.fst=[]∧∃ (I:List zH × Nat→Prop),∃ (μ:List zH × Nat→Nat),I i0∧∀ (i_1:List zH × Nat),I i_1→cnd (decide ((↑i_1.snd:Int)<(↑(List.map zA i.b.buys).length:Int))) ((0≤(↑i_1.snd:Int)∧(↑i_1.snd:Int)<(↑(List.map zA i.b.buys).length:Int))∧∃ (n:Int),∃ (n_1:Int),zG (List.map zA i.b.buys) (↑i_1.snd:Int).toNat 0 2=some [D.v (.int .i64 n),D.v (.int .i64 n_1)]∧∃ (i_2:BoI),i_2.s=1∧i_2.r.price=n∧i_2.r.queue=n_1∧i_2.b.top1=i.b.top1∧i_2.b.top2=i.b.top2∧i_2.b.has1=i.b.has1∧i_2.b.has2=i.b.has2∧AObj.adt Arena 3 zC i_2.b.a=AObj.adt Arena 3 zC i.b.a∧List.map zA i_2.b.buys=List.map zA i.b.buys∧List.map zA i_2.b.sells=List.map zA i.b.sells∧atE i_2.b.at_=atE i.b.at_∧iE i_2.b.spare=iE i.b.spare∧i_2.b.a.listOk i_2.r.queue i_2.l∧cB i I μ i_1 i_2) ((0≤IntKind.i64.wrap ((0:Int)+(1:Int))∧IntKind.i64.wrap ((0:Int)+(1:Int))<(↑(2:Nat):Int))∧cA i n i0 I μ i_1)) ∨ (Value.int IntKind.i64 n=Value.int .i64 2∧∃ (i0:List zH × Nat),(↑i0.snd:Int)=0∧List.map zX i0.fst=[]∧∃ (I:List zH × Nat→Prop),∃ (μ:List zH × Nat→Nat),I i0∧∀ (i_1:List zH × Nat),I i_1→cnd (decide ((↑i_1.snd:Int)<(↑(List.map zA i.b.sells).length:Int))) ((0≤(↑i_1.snd:Int)∧(↑i_1.snd:Int)<(↑(List.map zA i.b.sells).length:Int))∧∃ (n:Int),∃ (n_1:Int),zG (List.map zA i.b.sells) (↑i_1.snd:Int).toNat 0 2=some [D.v (.int .i64 n),D.v (.int .i64 n_1)]∧∃ (i_2:BoI),i_2.s=2∧i_2.r.price=n∧i_2.r.queue=n_1∧i_2.b.top1=i.b.top1∧i_2.b.top2=i.b.top2∧i_2.b.has1=i.b.has1∧i_2.b.has2=i.b.has2∧AObj.adt Arena 3 zC i_2.b.a=AObj.adt Arena 3 zC i.b.a∧List.map zA i_2.b.buys=List.map zA i.b.buys∧List.map zA i_2.b.sells=List.map zA i.b.sells∧atE i_2.b.at_=atE i.b.at_∧iE i_2.b.spare=iE i.b.spare∧i_2.b.a.listOk i_2.r.queue i_2.l∧cB i I μ i_1 i_2) ((0≤IntKind.i64.wrap ((0:Int)+(1:Int))∧IntKind.i64.wrap ((0:Int)+(1:Int))<(↑(2:Nat):Int))∧cA i n i0 I μ i_1)) ∨ False)
theorem zOq (i : BkL) : bX i = walk Try.prog ([(56,ordersOC)]) 0 (zHz) (zGa) [0] Try.f31 (Try.f31.body.getD .skip) (bordersC.pat i) (bordersC.pre i) (bordersC.alts i) := by kernel_rfl
theorem zQt (hG : GOk Try.prog ([(56,ordersOC)])) (h : ∀ (i : BkL),bordersC.cnd i → bX i) : bordersC.ok Try.prog 31 := zE mixed ([(56,ordersOC)]) hG 0 (fun (i : BkL) => zHz) (fun (i : BkL) => zGa) [0] Try.func31 (by kernel_rfl) (by kernel_rfl) (by kernel_rfl) (fun _ => by kernel_rfl) (fun (i : BkL) hc => Eq.mp (zOq i) (h i hc))
@[reducible] def cH (i : SoI) : Prop := ∃ (o:Unit),sb i.s.p.code=sb i.s.p.code∧i.s.p.tick=i.s.p.tick∧i.s.p.low=i.s.p.low∧i.s.p.high=i.s.p.high∧i.s.p.wide=i.s.p.wide∧i.s.p.rule=i.s.p.rule∧i.s.p.top=i.s.p.top∧i.s.p.least=i.s.p.least∧i.s.p.part=i.s.p.part∧AObj.objs 64 Book 6 zM i.s.books none=AObj.objs 64 Book 6 zM i.s.books none∧yJ i.s.wh=yJ i.s.wh∧AObj.fro 1 (iE i.s.p.months)=AObj.fro 1 (iE i.s.p.months)∧AObj.fro 1 (iE i.s.p.settle)=AObj.fro 1 (iE i.s.p.settle)∧List.map zX (atB i.B i.inst)=[]∧True
def c0 (i : SoI) : Prop :=
  cnd (decide (i.inst ≥ 0)) (cnd (!decide (i.inst<(↑i.s.books.length:Int))) (cH i) ((0≤i.inst∧i.inst<(↑i.s.books.length:Int))∧i.inst.toNat<i.s.books.length∧∃ (x:Book),i.s.books[i.inst.toNat]?=some x∧∃ (i_1:BkL),yC i_1.b=yC x∧i_1.b.Rep i_1.L∧∀ (o:Unit),True→∃ (x:Book),yC i_1.b=yC x∧i.inst.toNat=i.inst.toNat∧i.inst.toNat<i.s.books.length∧∃ (o:Unit),sb i.s.p.code=sb i.s.p.code∧i.s.p.tick=i.s.p.tick∧i.s.p.low=i.s.p.low∧i.s.p.high=i.s.p.high∧i.s.p.wide=i.s.p.wide∧i.s.p.rule=i.s.p.rule∧i.s.p.top=i.s.p.top∧i.s.p.least=i.s.p.least∧i.s.p.part=i.s.p.part∧AObj.objs 64 Book 6 zM i.s.books none=AObj.objs 64 Book 6 zM (i.s.books.set i.inst.toNat x) none∧yJ i.s.wh=yJ i.s.wh∧AObj.fro 1 (iE i.s.p.months)=AObj.fro 1 (iE i.s.p.months)∧AObj.fro 1 (iE i.s.p.settle)=AObj.fro 1 (iE i.s.p.settle)∧List.map zX (atB i.B i.inst)=List.map zX i_1.L∧True)) (cH i)
theorem zQg (i : SoI) : c0 i = walk Try.prog ([(31,bordersC)]) 1 ([]) ([]) [0] Try.f13 (Try.f13.body.getD .skip) (sordersC.pat i) (sordersC.pre i) (sordersC.alts i) := by kernel_rfl
theorem zQe (hG : GOk Try.prog ([(31,bordersC)])) (h : ∀ (i : SoI),sordersC.cnd i → c0 i) : sordersC.ok Try.prog 13 := zE mixed ([(31,bordersC)]) hG 1 (fun (i : SoI) => []) (fun (i : SoI) => []) [0] Try.func13 (by kernel_rfl) (by kernel_rfl) (by kernel_rfl) (fun _ => by kernel_rfl) (fun (i : SoI) hc => Eq.mp (zQg i) (h i hc))
open Go Cv Go.Proofs
theorem zNw {B : List (List zH)} {inst : Int} {L : List zH} (h0 : 0 ≤ inst) (hL : B[inst.toNat]? = some L) : atB B inst = L := by
  rw [atB,if_neg (by omega),zU hL]
theorem zZk {B : List (List zH)} {inst : Int} (h : inst < 0 ∨ (B.length : Int) ≤ inst) : atB B inst = [] := by
  rw [atB]
  split
  · rfl
  · rw [List.getD_eq_getElem?_getD,List.getElem?_eq_none (by omega)]; rfl
theorem yAc {l : List Ent} {k : Nat} {e : Ent} (h : l[k]? = some e) : zG (l.map wQ) k 0 4 = some [D.v (.int .i64 e.slot),.v (.int .i64 e.id),.v (.int .i64 e.qty),.v (.bool e.top)] := elA h (by simp [wQ]) rfl
theorem zTi (i : BoI) (h : ordersOC.cnd i) : aO i := by
  have h : i.b.a.listOk i.r.queue i.l := h
  have hl := h.len
  have hen : (i.b.a.ents i.l).length = i.l.length := by simp [Arena.ents]
  have hol : i.ords.length = i.l.length := by simp [BoI.ords,Arena.ents]
  unfold aO
  refine ⟨⟨i.b.a,i.r.queue,i.l⟩,rfl,rfl,h,fun _ _ => ?_⟩
  simp only [List.length_map]
  refine ⟨0,rfl,rfl,fun j => j ≤ i.l.length,fun j => i.l.length - j,Nat.zero_le _,fun j hj => zT (fun c => ?_) (fun c => ?_)⟩
  · obtain ⟨e,he⟩ := z9 (l := i.b.a.ents i.l) (i := j) (by omega)
    have ho : i.ords[j]? = some ⟨e.id,i.s,i.r.price,e.qty,e.top⟩ := by rw [BoI.ords,List.getElem?_map,he]; rfl
    refine ⟨⟨by omega,by omega⟩,e.slot,e.id,e.qty,e.top,yAc he,by rw [List.length_take]; omega,j + 1,wjn (by omega),?_,by dsimp only;omega,by dsimp only;omega,by (repeat' (first|exact trivial|exact rfl|apply And.intro))⟩
    rw [List.take_add_one,ho]; simp [zX]
  · have hje : j = i.l.length := by omega
    subst hje
    rw [List.take_of_length_le (l := i.ords) (by omega)]
    exact ⟨(),by (repeat' (first|exact trivial|exact rfl|apply And.intro))⟩
theorem zKg : ordersOC.ok Try.prog 56 := zQn (gokc zGn gok0) zTi
theorem zOb (b : Book) (Q : List (List Nat)) (s : Int) (r : yX) : BoI.ords ⟨b,s,r,yP Q r⟩ = b.rOrds Q s r := by
  rw [BoI.ords,Book.rOrds,Arena.ents]; simp only [List.map_map]; rfl
theorem lR {f : yX → List zH} {R : List yX} {j : Nat} {r : yX} {A T : List zH} (h : R[j]? = some r) (e : A ++ (R.drop j).flatMap f = T) : (A ++ f r) ++ (R.drop (j + 1)).flatMap f = T ∧ A.length + (f r).length ≤ T.length := by
  obtain ⟨hlt,hg⟩ := List.getElem?_eq_some_iff.1 h
  rw [List.drop_eq_getElem_cons hlt,hg,List.flatMap_cons,← List.append_assoc] at e
  refine ⟨e,?_⟩
  rw [← e,List.length_append,List.length_append]; omega
theorem zWx (i : BkL) (h : bordersC.cnd i) : bX i := by
  have hr : i.b.Rep i.L := h
  obtain ⟨Q,c,ht,hL⟩ : i.b.Rep i.L := h
  have hlen : i.L.length ≤ 250 := hr.ords.2.2
  have hfl : i.L = i.b.sideL Q 1 ++ i.b.sideL Q 2 := hL
  have hs1 : (i.b.sideL Q 1).length ≤ 250 := by
    have := congrArg List.length hfl
    rw [List.length_append] at this; omega
  have b1 : i.b.rungs 1 = i.b.buys := rfl
  have b2 : i.b.rungs 2 = i.b.sells := rfl
  have nb : i.b.buys.length ≤ 250 := by
    have h1 := c.ql
    have h2 := c.qb
    have : i.b.qs.length = i.b.buys.length + i.b.sells.length + i.b.spare.length := by
      rw [Book.qs,List.length_append,List.length_append,List.length_map,List.length_map]
    omega
  have ns : i.b.sells.length ≤ 250 := by
    have h1 := c.ql
    have h2 := c.qb
    have : i.b.qs.length = i.b.buys.length + i.b.sells.length + i.b.spare.length := by
      rw [Book.qs,List.length_append,List.length_append,List.length_map,List.length_map]
    omega
  have w1 : IntKind.i64.wrap ((0 : Int) + 1) = 1 := by rw [w64 (by omega)]; rfl
  have e1 : (i.b.buys.map zA).length = i.b.buys.length := List.length_map ..
  have e2 : (i.b.sells.map zA).length = i.b.sells.length := List.length_map ..
  unfold bX cA cB
  refine ⟨⟨by decide,by decide⟩,1,rfl,.inl ⟨rfl,([],0),rfl,rfl,fun j => j.1 ++ (i.b.buys.drop j.2).flatMap (i.b.rOrds Q 1) = i.b.sideL Q 1 ∧ j.2 ≤ i.b.buys.length,fun j => i.b.buys.length - j.2,⟨rfl,Nat.zero_le _⟩,?_⟩⟩
  rintro ⟨A,j⟩ ⟨g1,g2⟩
  dsimp only at g1 g2 ⊢
  refine zT (fun d => ?_) (fun d => ?_)
  · obtain ⟨r,hrg⟩ := z9 (l := i.b.buys) (i := j) (by omega)
    obtain ⟨k1,k2⟩ := lR hrg g1
    refine ⟨⟨by omega,by omega⟩,r.price,r.queue,elA hrg (by simp [zA]) rfl,⟨i.b,1,r,yP Q r⟩,rfl,rfl,rfl,rfl,rfl,rfl,rfl,rfl,rfl,rfl,rfl,rfl,c.listOk (.inl rfl) (List.mem_of_getElem? hrg),fun _ _ => ?_⟩
    rw [zOb]
    refine ⟨by rw [List.length_map,List.length_map]; omega,(A ++ i.b.rOrds Q 1 r,j + 1),wjn (by omega),List.map_append,⟨k1,by dsimp only;omega⟩,by dsimp only;omega,by (repeat' (first|exact trivial|exact rfl|apply And.intro))⟩
  have hj : j = i.b.buys.length := by omega
  subst hj
  rw [List.drop_of_length_le (Nat.le_refl _),List.flatMap_nil,List.append_nil] at g1
  subst g1
  rw [w1]
  refine ⟨⟨by decide,by decide⟩,2,rfl,.inr (.inl ⟨rfl,(i.b.sideL Q 1,0),rfl,rfl,fun j => j.1 ++ (i.b.sells.drop j.2).flatMap (i.b.rOrds Q 2) = i.L ∧ j.2 ≤ i.b.sells.length,fun j => i.b.sells.length - j.2,⟨hfl.symm,Nat.zero_le _⟩,?_⟩)⟩
  rintro ⟨A,j⟩ ⟨g1,g2⟩
  dsimp only at g1 g2 ⊢
  refine zT (fun d => ?_) (fun d => ?_)
  · obtain ⟨r,hrg⟩ := z9 (l := i.b.sells) (i := j) (by omega)
    obtain ⟨k1,k2⟩ := lR hrg g1
    refine ⟨⟨by omega,by omega⟩,r.price,r.queue,elA hrg (by simp [zA]) rfl,⟨i.b,2,r,yP Q r⟩,rfl,rfl,rfl,rfl,rfl,rfl,rfl,rfl,rfl,rfl,rfl,rfl,c.listOk (.inr rfl) (List.mem_of_getElem? hrg),fun _ _ => ?_⟩
    rw [zOb]
    refine ⟨by rw [List.length_map,List.length_map]; omega,(A ++ i.b.rOrds Q 2 r,j + 1),wjn (by omega),List.map_append,⟨k1,by dsimp only;omega⟩,by dsimp only;omega,by (repeat' (first|exact trivial|exact rfl|apply And.intro))⟩
  have hj : j = i.b.sells.length := by omega
  subst hj
  rw [List.drop_of_length_le (Nat.le_refl _),List.flatMap_nil,List.append_nil] at g1
  subst g1
  exact ⟨(),by (repeat' (first|exact trivial|exact rfl|apply And.intro))⟩
theorem zJc : bordersC.ok Try.prog 31 := zQt (gokc zKg gok0) zWx
theorem zSp (i : SoI) (h : sordersC.cnd i) : c0 i := by
  obtain ⟨hR,hB⟩ : i.s.Rep i.p i.B ∧ i.B.length ≤ 1000 := h
  have hbl := hR.bl
  have out (hx : i.inst < 0 ∨ (i.B.length : Int) ≤ i.inst) : List.map zX (atB i.B i.inst) = [] := by
    rw [zZk hx]; rfl
  unfold c0 cH
  refine zT (fun c => Cv.cnd.mk (fun d => ?_) (fun d => ?_)) (fun c => ?_)
  · have d : ¬ i.inst < (i.s.books.length : Int) := by simpa using d
    rw [out (.inr (by omega))]; exact ⟨(),by (repeat' (first|exact trivial|exact rfl|apply And.intro))⟩
  · have d : i.inst < (i.s.books.length : Int) := by simpa using d
    obtain ⟨b,hb⟩ := z9 (l := i.s.books) (i := i.inst.toNat) (by omega)
    obtain ⟨L,hL⟩ := z9 (l := i.B) (i := i.inst.toNat) (by omega)
    refine ⟨⟨c,d⟩,by omega,b,hb,⟨b,L⟩,rfl,hR.bk _ b L hb hL,fun _ _ => ⟨b,rfl,rfl,by omega,?_⟩⟩
    rw [jP hb,zNw c hL]
    exact ⟨(),by (repeat' (first|exact trivial|exact rfl|apply And.intro))⟩
  · rw [out (.inl (by omega))]; exact ⟨(),by (repeat' (first|exact trivial|exact rfl|apply And.intro))⟩
theorem sorders_ok : sordersC.ok Try.prog 13 := zQe (gokc zJc gok0) zSp
end Sx
