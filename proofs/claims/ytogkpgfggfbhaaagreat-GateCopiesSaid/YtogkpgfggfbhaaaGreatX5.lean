/- Texts of ours, one behind the other: a walk that the kernel reckons, and contracts of functions. No condition. -/
import Derived.Laws.AppendOwn
import Derived.Lib.AppendZerosOnto
import Derived.Lib.Overlaps
import Derived.Test.YtogkpgfggfbhaaaGreatX4
namespace Sx
set_option linter.unusedVariables false
set_option linter.unusedSimpArgs false
set_option maxRecDepth 100000
open Go Cv Go.Proofs
theorem yNq (n:Nat) (h:newAC.cnd n):yFs n:=by
 obtain⟨h1,h2⟩:1≤n∧n≤4096:=h
 unfold yFs dI
 refine zI (fun c=>by omega) fun c=>zI (fun c=>by omega) fun c=> ?_
 refine⟨⟨by omega,by omega,by omega,?_⟩,?_⟩
 ·have:(2:Int) ^ (48:Nat)=281474976710656:=by decide
  rw[this];omega
 ·refine⟨(),rfl,rfl,?_,rfl,trivial⟩
  rw[List.map_replicate];rfl
theorem yFa:newAC.ok Tryz.prog 179:=okw mixed gok0 0 (fun _=>[]) (fun _=>[]) [] Tryz.func179 yNq
theorem yDe:newBC.ok Tryz.prog 141:=okw (V:=yMy) mixed (gokc yFa gok0) 0 (fun _=>[]) (fun _=>[]) [] Tryz.func141 fun(u:Unit) _=>by
 refine⟨250,rfl,⟨by omega,by omega⟩,?_⟩;exact kp
theorem yNc (p:Prd) (h:newSC.cnd p):yGy p:=by
 unfold yGy zOq zHb vN dN zY dI
 have hs:p.small:=h
 obtain⟨h1,h2,h3⟩:p.small:=h
 refine⟨p,?_⟩
 simp only[yY]
 (repeat'(first|exact rfl|exact trivial|assumption|apply And.intro|refine fun(_:Unit) (_:True)=>?_|refine Exists.intro () ?_|omega|(dsimp only;omega)))
 refine Cv.cnd.mk (fun c=> .inr ⟨(),trivial,kp,by simpa using c⟩) fun c=> ?_
 have c:p.check=0:=by simpa using c
 have hc:=xQ p
 (repeat'(first|exact rfl|exact trivial|assumption|apply And.intro|refine fun(_:Unit) (_:True)=>?_|refine Exists.intro () ?_|omega|(dsimp only;omega)))
 all_goals(refine⟨p,?_⟩;(repeat'(first|exact rfl|exact trivial|assumption|apply And.intro|refine fun(_:Unit) (_:True)=>?_|refine Exists.intro () ?_|omega|(dsimp only;omega))))
 all_goals(refine⟨0,?_⟩;(repeat'(first|exact rfl|exact trivial|assumption|apply And.intro|refine fun(_:Unit) (_:True)=>?_|refine Exists.intro () ?_|omega|(dsimp only;omega))))
 all_goals(refine⟨fun j=>j≤p.count,fun j=>p.count-j,by omega,fun j hj=>zI (fun hlt=> ?_) (fun hlt=> ?_)⟩;all_goals dsimp only at hj hlt)
 all_goals first
  |(refine .inl ⟨(),?_⟩
    obtain rfl:j=p.count:=by omega
    (repeat'(first|exact rfl|exact trivial|assumption|apply And.intro|refine fun(_:Unit) (_:True)=>?_|refine Exists.intro () ?_|omega|(dsimp only;omega))))
  |(refine⟨(),trivial,fun _ _=>⟨trivial,trivial,List.replicate j book0,rfl,?_,j+1,?_⟩⟩
    ·rw[yUc];omega
    ·rw[w64 (by omega),← List.replicate_succ']
     (repeat'(first|exact rfl|exact trivial|assumption|apply And.intro|refine fun(_:Unit) (_:True)=>?_|refine Exists.intro () ?_|omega|(dsimp only;omega))))
theorem yDo:newSC.ok Tryz.prog 98:=okw mixed (gokc lU (gokc aC (gokc yDe gok0))) 0 (fun _=>[]) (fun p=>yMu p) [] Tryz.func98 yNc
theorem z4j:clSlotC.ok Tryz.prog 216:=okw (V:=yDw) mixed gok0 0 (fun _=>[]) (fun _=>[]) [] Tryz.func216 fun(l:List Slot) h=>by
 have h:l.length≤1000000:=h
 exact fun b hb=>Cv.cnd.mk (fun e=>⟨(),rfl,hb e,trivial⟩) (fun _=>⟨by rw[ySd,yRg];omega,(),rfl,rfl,trivial⟩)
theorem zWo:clQueueC.ok Tryz.prog 217:=okw (V:=z5u) mixed gok0 0 (fun _=>[]) (fun _=>[]) [] Tryz.func217 fun(l:List fY) h=>by
 have h:l.length≤1000000:=h
 exact fun b hb=>Cv.cnd.mk (fun e=>⟨(),rfl,hb e,trivial⟩) (fun _=>⟨by rw[ySd,yRg];omega,(),rfl,rfl,trivial⟩)
theorem z3j:clRungC.ok Tryz.prog 182:=okw (V:=yDy) mixed gok0 0 (fun _=>[]) (fun _=>[]) [] Tryz.func182 fun(l:List xF) h=>by
 have h:l.length≤1000000:=h
 exact fun b hb=>Cv.cnd.mk (fun e=>⟨(),rfl,hb e,trivial⟩) (fun _=>⟨by rw[ySd,yRg];omega,(),rfl,rfl,trivial⟩)
theorem z8o:clIntC.ok Tryz.prog 130:=okw (V:=yKy) mixed gok0 0 (fun _=>[]) (fun _=>[]) [] Tryz.func130 fun(l:List Int) h=>by
 have h:l.length≤1000000:=h
 exact fun b hb=>Cv.cnd.mk (fun e=>⟨(),rfl,hb e,trivial⟩) (fun _=>⟨by rw[ySd,yY];omega,(),rfl,rfl,trivial⟩)
theorem zDt (t:Nat):(uJ t).ok Tryz.prog 147:=zUs Tryz.func147 (by kernel_rfl) (by kernel_rfl) (by kernel_rfl) (by kernel_rfl) t
theorem yFf:clAtC.ok Tryz.prog 181:=yJk (gokc (zDt _) gok0) fun es _=>by
 unfold z5s
 refine⟨es,?_⟩;exact kp
theorem yDb:clWhC.ok Tryz.prog 145:=yJn (gokc (zDt _) gok0) fun es _=>by
 unfold z7u
 refine⟨es,?_⟩;exact kp
theorem z8c:copyAC.ok Tryz.prog 180:=okw (V:=yIk) mixed (gokc z4j (gokc zWo gok0)) 0 (fun _=>[]) (fun _=>[]) [0] Tryz.func180 fun(a:Arena) h=>by
 obtain⟨h1,h2⟩:a.small:=h
 refine⟨a.slots,?_⟩;(repeat'(first|exact rfl|exact trivial|assumption|apply And.intro|refine fun(_:Unit) (_:True)=>?_|refine Exists.intro () ?_|omega|(dsimp only;omega)))
 refine⟨a.queues,?_⟩;exact kp
theorem z9f:copyBC.ok Tryz.prog 146:=okw (V:=yLd) mixed (gokc z8c (gokc yFf (gokc z8o (gokc z3j gok0)))) 0 (fun _=>[]) (fun _=>yJg) [0] Tryz.func146 fun(b:Book) h=>by
 obtain⟨⟨h1,h1'⟩,h2,h3,h4⟩:b.small:=h
 refine⟨b.a,?_⟩;(repeat'(first|exact rfl|exact trivial|assumption|apply And.intro|refine fun(_:Unit) (_:True)=>?_|refine Exists.intro () ?_|omega|(dsimp only;omega)))
 refine⟨atE b.at_,?_⟩;(repeat'(first|exact rfl|exact trivial|assumption|apply And.intro|refine fun(_:Unit) (_:True)=>?_|refine Exists.intro () ?_|omega|(dsimp only;omega)))
 refine⟨b.spare,?_⟩;(repeat'(first|exact rfl|exact trivial|assumption|apply And.intro|refine fun(_:Unit) (_:True)=>?_|refine Exists.intro () ?_|omega|(dsimp only;omega)))
 refine⟨b.buys,?_⟩;(repeat'(first|exact rfl|exact trivial|assumption|apply And.intro|refine fun(_:Unit) (_:True)=>?_|refine Exists.intro () ?_|omega|(dsimp only;omega)))
 refine⟨b.sells,?_⟩;exact kp
open Go Cv Go.Proofs
structure ArN where
 a:Arena
 n:Int
def Arena.qAt (a:Arena) (n:Int):fY:=if 0≤n∧n<a.queues.length then a.queues.getD n.toNat ⟨0,0,0,0⟩else⟨0,0,0,0⟩
def atotalC:Con:=con1 ArN (fun i=>[.nm 0 0,zA i.n]) (fun i=>[jD i.a]) (fun i=>True) (fun i=>zA (i.a.qAt i.n).total) (fun i=>[jD i.a])
def acountC:Con:=con1 ArN (fun i=>[.nm 0 0,zA i.n]) (fun i=>[jD i.a]) (fun i=>True) (fun i=>zA (i.a.qAt i.n).count) (fun i=>[jD i.a])
def bisC:Con:=con1 Int (fun n=>[zA n]) (fun _=>[]) (fun _=>True) (fun n=>yM (decide (n=1)||decide (n=2))) (fun _=>[])
structure BkR where
 b:Book
 r:xF
def Book.told (b:Book) (r:xF):Lv:=⟨r.price,(b.a.qAt r.queue).total,(b.a.qAt r.queue).count⟩
@[reducible] def Book.cntOk (b:Book):Prop:=∀q∈b.a.queues,yU q.count
def toldC:Con:=con1 BkR (fun i=>[.nm 0 0,.agg [zA i.r.price,zA i.r.queue]]) (fun i=>[yA i.b]) (fun i=>i.b.cntOk) (fun i=>lvV (i.b.told i.r)) (fun i=>[yA i.b])
def Book.best (b:Book) (l:List xF):Lv×Bool:=match l with
 |[]=>(⟨0,0,0⟩,false)
 |r::_=>(b.told r,true)
structure BkS where
 side:Bool
 b:Book
def Book.side (b:Book) (s:Bool):List xF:=if s then b.sells else b.buys
@[reducible] def zWk (b:Book) (l:List xF):V:= .tup [lvV (b.best l).1,yM (b.best l).2]
def best1C:Con:=con1 Book (fun _=>[.nm 0 0,zA 1]) (fun b=>[yA b]) Book.cntOk (fun b=>zWk b b.buys) (fun b=>[yA b])
def best2C:Con:=con1 Book (fun _=>[.nm 0 0,zA 2]) (fun b=>[yA b]) Book.cntOk (fun b=>zWk b b.sells) (fun b=>[yA b])
def zC (s:Bool):Int:=if s then 2 else 1
def bestC:Con:=con1 BkS (fun i=>[.nm 0 0,zA (zC i.side)]) (fun i=>[yA i.b]) (fun i=>i.b.cntOk) (fun i=>zWk i.b (i.b.side i.side)) (fun i=>[yA i.b])
structure Top where
 has1:Bool
 has2:Bool
 p1:Int
 p2:Int
 q1:Int
 q2:Int
 deriving DecidableEq
def z7 (t:Top):List D:=[.v (.bool t.has1),.v (.bool t.has2),.v (.int .i64 t.p1),.v (.int .i64 t.p2),.v (.int .i64 t.q1),.v (.int .i64 t.q2)]
def top0:Top:=⟨false,false,0,0,0,0⟩
def Top.buy (t:Top) (x:Lv×Bool):Top:=if x.2 then{t with has1:=true,p1:=x.1.price,q1:=x.1.qty}else t
def Top.sell (t:Top) (x:Lv×Bool):Top:=if x.2 then{t with has2:=true,p2:=x.1.price,q2:=x.1.qty}else t
def Book.top (b:Book):Top:=(top0.buy (b.best b.buys)).sell (b.best b.sells)
def MSt.tops (s:MSt):List Top:=s.books.map Book.top
@[reducible] def MSt.cntOk (s:MSt):Prop:=s.books.length≤1000000∧∀b∈s.books,b.cntOk
def topsC:Con:=con1 MSt (fun _=>[.nm 0 0]) (fun s=>[zD s]) MSt.cntOk (fun s=> .own 1) (fun s=>[zD s,.own 269 6 (s.tops.map z7)])
def xO (s:MSt) (j:Nat) (x:Top):List Top:=(s.tops.take j)++x::List.replicate (s.books.length-j-1) top0
def xX (s:MSt) (j:Nat):List Top:=(s.tops.take j)++List.replicate (s.books.length-j) top0
def yNg (s:MSt):List SAnn:=[
 {ι:=Nat,slots:=fun j=>[(3,.own 0),(21,zA j)],rows:=fun j=>[.own 269 6 ((xX s j).map z7)]},
 {ι:=Unit,slots:=fun _=>[],rows:=fun _=>[],un:=3}]
def yNu (s:MSt):List (Nat×SAnn):=[(15,{ι:=Nat×Top,slots:=fun x=>[(3,.own 0)],slots0:=fun x=>[(3,.own 0)],rows0:=fun x=>[.own 269 6 ((xO s x.1 x.2).map z7)],rows:=fun x=>[.own 269 6 ((xO s x.1 x.2).map z7)]})]
def yHk (s:MSt):List SAnn:=[{ι:=Nat,slots:=fun j=>[(3,.nm 0 0),(22,zA j)],rows:=fun j=>(List.range 5).map (xL ⟨s.p,s.books.take j,s.wh⟩)}]
open Go Cv Go.Proofs
def kY (a:ArN):Prop:=a.a.free=a.a.free∧List.map zP a.a.slots=List.map zP a.a.slots∧List.map zN a.a.queues=List.map zN a.a.queues∧True
def p8 (a:ArN):Prop:=∃(b:Unit),(a.a.qAt a.n).total=0∧kY a
def u9 (a:ArN):=(↑(List.map zN a.a.queues).length:Int)
def z1d (i:ArN):Prop:=
 cnd (decide (i.n≥0)) (cnd (!decide (i.n<(u9 i))) (p8 i) ((0≤i.n∧i.n<(u9 i))∧∃(a:Int),zE (List.map zN i.a.queues) i.n.toNat ((0:Nat)+(2:Nat)) 1=some [dI a]∧∃(b:Unit),(i.a.qAt i.n).total=a∧kY i)) (p8 i)
def rA (a:ArN):Prop:=∃(b:Unit),(a.a.qAt a.n).count=0∧kY a
def zZr (i:ArN):Prop:=
 cnd (decide (i.n≥0)) (cnd (!decide (i.n<(u9 i))) (rA i) ((0≤i.n∧i.n<(u9 i))∧∃(a:Int),zE (List.map zN i.a.queues) i.n.toNat ((0:Nat)+(3:Nat)) 1=some [dI a]∧∃(b:Unit),(i.a.qAt i.n).count=a∧kY i)) (rA i)
def wP (a:Int):=(decide (a=1)||decide (a=2))
def yNa (n:Int):Prop:=
 cnd (n==1) (∃(a:Unit),(wP n)=true∧True) (∃(a:Unit),(wP n)=(n==2)∧True)
def yOc (i:BkR):Prop:=
 ∃(i_1:ArN),i_1.n=i.r.queue∧AObj.adt Arena 3 zG i_1.a=AObj.adt Arena 3 zG i.b.a∧True∧∀(o:Unit),True→i.r.queue=i.r.queue∧True∧i.r.price=i.r.price∧∃(i_2:ArN),i_2.n=i.r.queue∧AObj.adt Arena 3 zG i_2.a=AObj.adt Arena 3 zG i_1.a∧True∧∀(o:Unit),True→i.r.price=i.r.price∧∃(o:Unit),i.r.price=i.r.price∧(i.b.a.qAt i.r.queue).total=(i_1.a.qAt i_1.n).total∧(i.b.a.qAt i.r.queue).count=(i_2.a.qAt i_2.n).count∧i.b.top1=i.b.top1∧i.b.top2=i.b.top2∧i.b.has1=i.b.has1∧i.b.has2=i.b.has2∧AObj.adt Arena 3 zG i.b.a=AObj.adt Arena 3 zG i_2.a∧List.map zB i.b.buys=List.map zB i.b.buys∧List.map zB i.b.sells=List.map zB i.b.sells∧atE i.b.at_=atE i.b.at_∧iE i.b.spare=iE i.b.spare∧True
def yJw (b:Book):Prop:=
 ∃(i:Int),i=1∧True∧∀(o:Unit),True→cnd (!(decide (i=1)||decide (i=2))) (∃(o:Unit),(b.best b.buys).fst.price=0∧(b.best b.buys).fst.qty=0∧(b.best b.buys).fst.count=0∧(b.best b.buys).snd=false∧b.top1=b.top1∧b.top2=b.top2∧b.has1=b.has1∧b.has2=b.has2∧AObj.adt Arena 3 zG b.a=AObj.adt Arena 3 zG b.a∧List.map zB b.buys=List.map zB b.buys∧List.map zB b.sells=List.map zB b.sells∧atE b.at_=atE b.at_∧iE b.spare=iE b.spare∧True) (cnd ((↑(List.map zB b.buys).length:Int)==0) (∃(o:Unit),(b.best b.buys).fst.price=0∧(b.best b.buys).fst.qty=0∧(b.best b.buys).fst.count=0∧(b.best b.buys).snd=false∧b.top1=b.top1∧b.top2=b.top2∧b.has1=b.has1∧b.has2=b.has2∧AObj.adt Arena 3 zG b.a=AObj.adt Arena 3 zG b.a∧List.map zB b.buys=List.map zB b.buys∧List.map zB b.sells=List.map zB b.sells∧atE b.at_=atE b.at_∧iE b.spare=iE b.spare∧True) (((0:Int)≤(0:Int)∧0<(↑(List.map zB b.buys).length:Int))∧∃(n:Int),∃(n_1:Int),zE (List.map zB b.buys) (Int.toNat 0) 0 2=some [D.v (.int .i64 n),D.v (.int .i64 n_1)]∧∃(i:BkR),i.r.price=n∧i.r.queue=n_1∧i.b.top1=b.top1∧i.b.top2=b.top2∧i.b.has1=b.has1∧i.b.has2=b.has2∧AObj.adt Arena 3 zG i.b.a=AObj.adt Arena 3 zG b.a∧List.map zB i.b.buys=List.map zB b.buys∧List.map zB i.b.sells=List.map zB b.sells∧atE i.b.at_=atE b.at_∧iE i.b.spare=iE b.spare∧(∀(q:fY),q∈i.b.a.queues→(-9223372036854775808)≤q.count∧q.count≤9223372036854775807)∧∀(o:Unit),True→∃(o:Unit),(b.best b.buys).fst.price=i.r.price∧(b.best b.buys).fst.qty=(i.b.a.qAt i.r.queue).total∧(b.best b.buys).fst.count=(i.b.a.qAt i.r.queue).count∧(b.best b.buys).snd=true∧yA b=yA i.b∧True))
def yLu (b:Book):Prop:=
 ∃(i:Int),i=2∧True∧∀(o:Unit),True→cnd (!(decide (i=1)||decide (i=2))) (∃(o:Unit),(b.best b.sells).fst.price=0∧(b.best b.sells).fst.qty=0∧(b.best b.sells).fst.count=0∧(b.best b.sells).snd=false∧b.top1=b.top1∧b.top2=b.top2∧b.has1=b.has1∧b.has2=b.has2∧AObj.adt Arena 3 zG b.a=AObj.adt Arena 3 zG b.a∧List.map zB b.buys=List.map zB b.buys∧List.map zB b.sells=List.map zB b.sells∧atE b.at_=atE b.at_∧iE b.spare=iE b.spare∧True) (cnd ((↑(List.map zB b.sells).length:Int)==0) (∃(o:Unit),(b.best b.sells).fst.price=0∧(b.best b.sells).fst.qty=0∧(b.best b.sells).fst.count=0∧(b.best b.sells).snd=false∧b.top1=b.top1∧b.top2=b.top2∧b.has1=b.has1∧b.has2=b.has2∧AObj.adt Arena 3 zG b.a=AObj.adt Arena 3 zG b.a∧List.map zB b.buys=List.map zB b.buys∧List.map zB b.sells=List.map zB b.sells∧atE b.at_=atE b.at_∧iE b.spare=iE b.spare∧True) (((0:Int)≤(0:Int)∧0<(↑(List.map zB b.sells).length:Int))∧∃(n:Int),∃(n_1:Int),zE (List.map zB b.sells) (Int.toNat 0) 0 2=some [D.v (.int .i64 n),D.v (.int .i64 n_1)]∧∃(i:BkR),i.r.price=n∧i.r.queue=n_1∧i.b.top1=b.top1∧i.b.top2=b.top2∧i.b.has1=b.has1∧i.b.has2=b.has2∧AObj.adt Arena 3 zG i.b.a=AObj.adt Arena 3 zG b.a∧List.map zB i.b.buys=List.map zB b.buys∧List.map zB i.b.sells=List.map zB b.sells∧atE i.b.at_=atE b.at_∧iE i.b.spare=iE b.spare∧(∀(q:fY),q∈i.b.a.queues→(-9223372036854775808)≤q.count∧q.count≤9223372036854775807)∧∀(o:Unit),True→∃(o:Unit),(b.best b.sells).fst.price=i.r.price∧(b.best b.sells).fst.qty=(i.b.a.qAt i.r.queue).total∧(b.best b.sells).fst.count=(i.b.a.qAt i.r.queue).count∧(b.best b.sells).snd=true∧yA b=yA i.b∧True))
def zCs (a:MSt):Prop:=Sx.AObj.map (yS a.wh)=Sx.AObj.map (yS a.wh)∧AObj.fro 1 (iE a.p.months)=AObj.fro 1 (iE a.p.months)∧AObj.fro 1 (iE a.p.settle)=AObj.fro 1 (iE a.p.settle)
def zAy (a:Nat×Top→Prop) (b:Nat×Top) (c:MSt) (d:Nat) (e:Book):Prop:=a b∧AObj.own 3 1 [[dI 1],[dI 2]]=AObj.own 3 1 [[dI 1],[dI 2]]∧Sx.AObj.cells (jX (qR 0 1 5) [sV c.p.code,V.own 3,zA c.p.tick,zA c.p.low,zA c.p.high,zA c.p.wide,zA c.p.rule,zA c.p.top,zA c.p.least,zA c.p.part,V.own 4,V.own 1,V.mp 2]) (182:TypeId)=Sx.AObj.cells (jX (qR 0 1 5) [sV c.p.code,V.own 3,zA c.p.tick,zA c.p.low,zA c.p.high,zA c.p.wide,zA c.p.rule,zA c.p.top,zA c.p.least,zA c.p.part,V.own 4,V.own 1,V.mp 2]) (182:TypeId)∧AObj.objs 184 Book 6 zQ (c.books.set (↑d:Int).toNat e) none=AObj.objs 184 Book 6 zQ c.books none∧zCs c
def zGk (a:MSt) (b:Nat×Top) (c:Nat×Top→Prop) (d:Nat) (e:Book):Prop:=∃(f:Nat×Top),List.map z7 (xO a f.fst f.snd)=List.map z7 (xO a b.fst b.snd)∧zAy c f a d e
def vU (a:MSt) (b:Nat×Top):=(List.map z7 (xO a b.fst b.snd))
def dL (a:MSt) (b:Nat×Top) (c:Nat):=(yC (vU a b) (↑c:Int).toNat ((0:Nat)+(0:Nat)+(nat_lit 0+nat_lit 1) % ((2:Int) ^ IntKind.i64.bits).natAbs*1) [D.v (.bool true)])
def zS (a:BkS):=(a.b.best (a.b.side a.side))
def gT (a:BkS):=((zS a).fst.price)
def g8 (a:MSt) (b:Nat×Top) (c:Nat) (d:BkS):=(yC (dL a b c) (↑c:Int).toNat ((0:Nat)+(2:Nat)+(nat_lit 0+nat_lit 1) % ((2:Int) ^ IntKind.i64.bits).natAbs*1) [dI (gT d)])
def rX (a:Nat) (b:MSt) (c:Nat×Top) (d:BkS):Prop:=(0≤(↑a:Int)∧(↑a:Int)<(↑(g8 b c a d).length:Int))∧(↑a:Int).toNat=(↑a:Int).toNat
def dQ (a:MSt) (b:Nat×Top) (c:Nat):=(yC (vU a b) (↑c:Int).toNat ((0:Nat)+(0:Nat)+nat_lit 0*1) [D.v (.bool true)])
def fA (a:MSt) (b:Nat×Top) (c:Nat) (d:BkS):=(yC (dQ a b c) (↑c:Int).toNat ((0:Nat)+(2:Nat)+nat_lit 0*1) [dI (gT d)])
def sJ (a:Nat) (b:MSt) (c:Nat×Top) (d:BkS):Prop:=(0≤(↑a:Int)∧(↑a:Int)<(↑(fA b c a d).length:Int))∧(↑a:Int).toNat=(↑a:Int).toNat
def dS (a:Nat) (b:MSt) (c:Nat×Top):Prop:=(0≤(↑a:Int)∧(↑a:Int)<(↑(dL b c a).length:Int))∧(↑a:Int).toNat=(↑a:Int).toNat
def dM (a:Nat) (b:MSt) (c:Nat×Top):Prop:=(0≤(↑a:Int)∧(↑a:Int)<(↑(dQ b c a).length:Int))∧(↑a:Int).toNat=(↑a:Int).toNat
def sK (a:MSt):Prop:=0≤(↑a.books.length:Int)∧(↑a.books.length:Int)≤(↑a.books.length:Int)∧(↑a.books.length:Int)≤9223372036854775807∧(↑(40:Nat):Int)*(↑a.books.length:Int)≤2 ^ (48:Nat)
def wE (a:BkS):Prop:=∀(b:fY),b∈a.b.a.queues→(-9223372036854775808)≤b.count∧b.count≤9223372036854775807
def qF (a:Nat) (b:MSt) (c:Nat×Top):Prop:=0≤(↑a:Int)∧(↑a:Int)<(↑(vU b c).length:Int)
def vT (a:BkS):=((zS a).fst.qty)
def yGq (s:MSt):Prop:=
 (sK s)∧∃(a:Nat),(↑a:Int)=0∧List.map z7 (xX s a)=List.replicate (↑s.books.length:Int).toNat [D.v (.bool false),D.v (.bool false),dI 0,dI 0,dI 0,dI 0]∧∃(b:Nat→Prop),∃(c:Nat→Nat),b a∧∀(d:Nat),b d→cnd (decide ((↑d:Int)<(↑s.books.length:Int))) ((0≤(↑d:Int)∧(↑d:Int)<(↑s.books.length:Int))∧(↑d:Int).toNat<s.books.length∧∃(e:Nat×Top),List.map z7 (xO s e.fst e.snd)=List.map z7 (xX s d)∧∃(f:Nat×Top→Prop),(((0:Int)≤(0:Int)∧0<(↑(2:Nat):Int))∧∃(g:Int),zE [[dI 1],[dI 2]] (Int.toNat 0) 0 1=some [dI g]∧∃(h:Book),s.books[(↑d:Int).toNat]?=some h∧∃(j:BkS),zC j.side=g∧yA j.b=yA h∧(wE j)∧∀(k:Unit),True→∃(l:Book),yA j.b=yA l∧(↑d:Int).toNat=(↑d:Int).toNat∧(↑d:Int).toNat<s.books.length∧cnd (zS j).snd ((qF d s e)∧(qF d s e)∧(qF d s e)∧(↑d:Int).toNat<(vU s e).length∧(dM d s e)∧(dM d s e)∧(zS j).fst.qty=(zS j).fst.qty∧(zS j).fst.price=(zS j).fst.price∧(↑d:Int).toNat<(dQ s e d).length∧(sJ d s e j)∧(zS j).fst.qty=(zS j).fst.qty∧(↑d:Int).toNat<(fA s e d j).length∧∃(m:Nat×Top),List.map z7 (xO s m.fst m.snd)=yC (fA s e d j) (↑d:Int).toNat ((0:Nat)+(4:Nat)+nat_lit 0*1) [dI (vT j)]∧zAy f m s d l) (zGk s e f d l))∧∀(g:Nat×Top),f g→∃(h:Nat×Top),List.map z7 (xO s h.fst h.snd)=List.map z7 (xO s g.fst g.snd)∧∃(j:Nat×Top→Prop),((0≤IntKind.i64.wrap ((0:Int)+(1:Int))∧IntKind.i64.wrap ((0:Int)+(1:Int))<(↑(2:Nat):Int))∧∃(k:Int),zE [[dI 1],[dI 2]] (IntKind.i64.wrap ((0:Int)+(1:Int))).toNat 0 1=some [dI k]∧∃(l:Book),s.books[(↑d:Int).toNat]?=some l∧∃(m:BkS),zC m.side=k∧yA m.b=yA l∧(wE m)∧∀(n:Unit),True→∃(p:Book),yA m.b=yA p∧(↑d:Int).toNat=(↑d:Int).toNat∧(↑d:Int).toNat<s.books.length∧cnd (zS m).snd ((qF d s h)∧(qF d s h)∧(qF d s h)∧(↑d:Int).toNat<(vU s h).length∧(dS d s h)∧(dS d s h)∧(zS m).fst.qty=(zS m).fst.qty∧(zS m).fst.price=(zS m).fst.price∧(↑d:Int).toNat<(dL s h d).length∧(rX d s h m)∧(zS m).fst.qty=(zS m).fst.qty∧(↑d:Int).toNat<(g8 s h d m).length∧∃(q:Nat×Top),List.map z7 (xO s q.fst q.snd)=yC (g8 s h d m) (↑d:Int).toNat ((0:Nat)+(4:Nat)+(nat_lit 0+nat_lit 1) % ((2:Int) ^ IntKind.i64.bits).natAbs*1) [dI (vT m)]∧zAy j q s d p) (zGk s h j d p))∧∀(k:Nat×Top),j k→∃(l:Nat),(↑l:Int)=IntKind.i64.wrap ((↑d:Int)+1)∧List.map z7 (xX s l)=List.map z7 (xO s k.fst k.snd)∧b l∧c l<c d∧Sx.AObj.cells (jX (qR 0 1 5) [sV s.p.code,V.own 3,zA s.p.tick,zA s.p.low,zA s.p.high,zA s.p.wide,zA s.p.rule,zA s.p.top,zA s.p.least,zA s.p.part,V.own 4,V.own 1,V.mp 2]) (182:TypeId)=Sx.AObj.cells (jX (qR 0 1 5) [sV s.p.code,V.own 3,zA s.p.tick,zA s.p.low,zA s.p.high,zA s.p.wide,zA s.p.rule,zA s.p.top,zA s.p.least,zA s.p.part,V.own 4,V.own 1,V.mp 2]) (182:TypeId)∧AObj.objs 184 Book 6 zQ s.books none=AObj.objs 184 Book 6 zQ s.books none∧zCs s) (∃(e:Unit),sb s.p.code=sb s.p.code∧s.p.tick=s.p.tick∧s.p.low=s.p.low∧s.p.high=s.p.high∧s.p.wide=s.p.wide∧s.p.rule=s.p.rule∧s.p.top=s.p.top∧s.p.least=s.p.least∧s.p.part=s.p.part∧AObj.objs 184 Book 6 zQ s.books none=AObj.objs 184 Book 6 zQ s.books none∧yS s.wh=yS s.wh∧AObj.fro 1 (iE s.p.months)=AObj.fro 1 (iE s.p.months)∧AObj.fro 1 (iE s.p.settle)=AObj.fro 1 (iE s.p.settle)∧List.map z7 s.tops=List.map z7 (xX s d)∧True)
def yKw (s:MSt):Prop:=
 ∃(i:List (Value×List D)),i=yS s.wh∧True∧∀(o:Unit),True→(sb s.p.code=sb s.p.code∧True∧s.p.tick=s.p.tick∧s.p.low=s.p.low∧s.p.high=s.p.high∧s.p.wide=s.p.wide∧s.p.rule=s.p.rule∧s.p.top=s.p.top∧s.p.least=s.p.least∧s.p.part=s.p.part∧True∧True)∧∃(i0:Nat),(↑i0:Int)=0∧sb s.p.code=sb s.p.code∧s.p.tick=s.p.tick∧s.p.low=s.p.low∧s.p.high=s.p.high∧s.p.wide=s.p.wide∧s.p.rule=s.p.rule∧s.p.top=s.p.top∧s.p.least=s.p.least∧s.p.part=s.p.part∧List.take i0 s.books=[]∧(none:Option Nat)=none∧yS s.wh=i∧AObj.fro 1 (iE s.p.months)=AObj.fro 1 (iE s.p.months)∧AObj.fro 1 (iE s.p.settle)=AObj.fro 1 (iE s.p.settle)∧∃(I:Nat→Prop),∃(μ:Nat→Nat),I i0∧∀(i_1:Nat),I i_1→cnd (decide ((↑i_1:Int)<(↑s.books.length:Int))) ((0≤(↑i_1:Int)∧(↑i_1:Int)<(↑s.books.length:Int))∧(↑i_1:Int).toNat<s.books.length∧∃(x:Book),s.books[(↑i_1:Int).toNat]?=some x∧∃(i_2:Book),yA i_2=yA x∧((i_2.a.slots.length≤1000000∧i_2.a.queues.length≤1000000)∧i_2.buys.length≤1000000∧i_2.sells.length≤1000000∧i_2.spare.length≤1000000)∧∀(o:Unit),True→∃(x:Book),yA i_2=yA x∧(↑i_1:Int).toNat=(↑i_1:Int).toNat∧(↑i_1:Int).toNat<s.books.length∧True∧True∧∃(l1':List Book),AObj.objs 184 Book 6 zQ (List.take i_1 s.books) none=AObj.objs 184 Book 6 zQ l1' none∧(l1'.length+1)*(8:Nat)≤(70368744177664:Nat)∧∃(i':Nat),(↑i':Int)=IntKind.i64.wrap ((↑i_1:Int)+1)∧sb s.p.code=sb s.p.code∧s.p.tick=s.p.tick∧s.p.low=s.p.low∧s.p.high=s.p.high∧s.p.wide=s.p.wide∧s.p.rule=s.p.rule∧s.p.top=s.p.top∧s.p.least=s.p.least∧s.p.part=s.p.part∧AObj.objs 184 Book 6 zQ (List.take i' s.books) none=AObj.objs 184 Book 6 zQ (l1'++[i_2]) none∧yS s.wh=yS s.wh∧AObj.fro 1 (iE s.p.months)=AObj.fro 1 (iE s.p.months)∧AObj.fro 1 (iE s.p.settle)=AObj.fro 1 (iE s.p.settle)∧I i'∧μ i'<μ i_1∧Sx.AObj.map i=Sx.AObj.map i∧Sx.AObj.cells (jX (qR 0 1 5) [sV s.p.code,V.own 3,zA s.p.tick,zA s.p.low,zA s.p.high,zA s.p.wide,zA s.p.rule,zA s.p.top,zA s.p.least,zA s.p.part,V.own 4,V.own 1,V.mp 2]) (182:TypeId)=Sx.AObj.cells (jX (qR 0 1 5) [sV s.p.code,V.own 3,zA s.p.tick,zA s.p.low,zA s.p.high,zA s.p.wide,zA s.p.rule,zA s.p.top,zA s.p.least,zA s.p.part,V.own 4,V.own 1,V.mp 2]) (182:TypeId)∧AObj.objs 184 Book 6 zQ (s.books.set (↑i_1:Int).toNat x) none=AObj.objs 184 Book 6 zQ s.books none∧AObj.fro 1 (iE s.p.months)=AObj.fro 1 (iE s.p.months)∧AObj.fro 1 (iE s.p.settle)=AObj.fro 1 (iE s.p.settle)) (∃(o:Unit),sb s.p.code=sb s.p.code∧s.p.tick=s.p.tick∧s.p.low=s.p.low∧s.p.high=s.p.high∧s.p.wide=s.p.wide∧s.p.rule=s.p.rule∧s.p.top=s.p.top∧s.p.least=s.p.least∧s.p.part=s.p.part∧AObj.objs 184 Book 6 zQ s.books none=AObj.objs 184 Book 6 zQ s.books none∧yS s.wh=i∧AObj.fro 1 (iE s.p.months)=AObj.fro 1 (iE s.p.months)∧AObj.fro 1 (iE s.p.settle)=AObj.fro 1 (iE s.p.settle)∧sb s.p.code=sb s.p.code∧s.p.tick=s.p.tick∧s.p.low=s.p.low∧s.p.high=s.p.high∧s.p.wide=s.p.wide∧s.p.rule=s.p.rule∧s.p.top=s.p.top∧s.p.least=s.p.least∧s.p.part=s.p.part∧AObj.objs 184 Book 6 zQ s.books none=AObj.objs 184 Book 6 zQ (List.take i_1 s.books) none∧yS s.wh=yS s.wh∧AObj.fro 1 (iE s.p.months)=AObj.fro 1 (iE s.p.months)∧AObj.fro 1 (iE s.p.settle)=AObj.fro 1 (iE s.p.settle)∧True)
open Go Cv Go.Proofs
theorem elA {α:Type} {f:α→List D} {l:List α} {i g n:Nat} {x:α} {r:List D} (h:l[i]? =some x) (hn:g+n≤(f x).length) (hr:((f x).drop g).take n=r):zE (l.map f) i g n=some r:=by
 unfold zE
 rw[yTb,h]
 simp only[yTd,Nat.ble_eq_true_of_le hn,cond_true,hr]
theorem zNs {a:Arena} {n:Int} {q:fY} (h0:0≤n) (h:a.queues[n.toNat]? =some q):a.qAt n=q:=by
 have:=(yRf.1 h).1
 rw[Arena.qAt,yRe ⟨h0,by omega⟩,yRl,h];rfl
theorem zFs {a:Arena} {n:Int} (h:¬(0≤n∧n<a.queues.length)):a.qAt n=⟨0,0,0,0⟩:=by rw[Arena.qAt,yRd h]
theorem z3q:atotalC.ok Tryz.prog 232:=okw (V:=z1d) mixed gok0 1 (fun _=>[]) (fun _=>[]) [0] Tryz.func232 fun(i:ArN) _=>by
 unfold z1d u9 p8 kY dI
 simp only[yRg]
 refine zI (fun c=>Cv.cnd.mk (fun d=> ?_) (fun d=> ?_)) (fun c=> ?_)
 ·have d:¬i.n<(i.a.queues.length:Int):=by simpa using d
  rw[zFs (by omega)];exact kp
 ·have d:i.n<(i.a.queues.length:Int):=by simpa using d
  obtain⟨q,hq⟩:=yD (l:=i.a.queues) (i:=i.n.toNat) (by omega)
  rw[zNs (by omega) hq]
  refine⟨⟨by omega,by omega⟩,q.total,elA hq (by simp[zN]) rfl,?_⟩;exact kp
 ·rw[zFs (by omega)];exact kp
theorem zDb:acountC.ok Tryz.prog 229:=okw (V:=zZr) mixed gok0 1 (fun _=>[]) (fun _=>[]) [0] Tryz.func229 fun(i:ArN) _=>by
 unfold zZr u9 rA kY dI
 simp only[yRg]
 refine zI (fun c=>Cv.cnd.mk (fun d=> ?_) (fun d=> ?_)) (fun c=> ?_)
 ·have d:¬i.n<(i.a.queues.length:Int):=by simpa using d
  rw[zFs (by omega)];exact kp
 ·have d:i.n<(i.a.queues.length:Int):=by simpa using d
  obtain⟨q,hq⟩:=yD (l:=i.a.queues) (i:=i.n.toNat) (by omega)
  rw[zNs (by omega) hq]
  refine⟨⟨by omega,by omega⟩,q.count,elA hq (by simp[zN]) rfl,?_⟩;exact kp
 ·rw[zFs (by omega)];exact kp
theorem zDl:bisC.ok Tryz.prog 200:=okw (V:=yNa) mixed gok0 0 (fun _=>[]) (fun _=>[]) [] Tryz.func200 fun(n:Int) _=>by
 unfold yNa wP
 refine Cv.cnd.mk (fun c=>⟨(),?_,trivial⟩) (fun c=>⟨(),?_,trivial⟩)
 all_goals simp at c
 ·simp[c]
 ·by_cases h:n=2<;>simp[c,h]
theorem zYb:toldC.ok Tryz.prog 201:=okw (V:=yOc) mixed (gokc z3q (gokc zDb gok0)) 0 (fun _=>[]) (fun _=>[]) [0] Tryz.func201 fun(i:BkR) h=>by
 refine⟨⟨i.b.a,i.r.queue⟩,?_⟩;(repeat'(first|exact rfl|exact trivial|assumption|apply And.intro|refine fun(_:Unit) (_:True)=>?_|refine Exists.intro () ?_|omega|(dsimp only;omega)))
 refine⟨⟨i.b.a,i.r.queue⟩,?_⟩;exact kp
theorem yAn:best1C.ok Tryz.prog 163:=okw (V:=yJw) mixed (gokc zDl (gokc zYb gok0)) 0 (fun _=>[]) (fun _=>[]) [0] Tryz.func163 fun(b:Book) h=>by
 have h:b.cntOk:=h
 refine⟨1,rfl,trivial,fun _ _=>Cv.cnd.mk (fun c=>absurd c (by decide)) fun _=> ?_⟩
 simp only[yRg]
 refine Cv.cnd.mk (fun c=> ?_) (fun c=> ?_)
 ·have hl:b.buys=[]:=ySe (by have:(b.buys.length:Int)=0:=(by simpa using c);omega)
  have e:b.best b.buys=(⟨0,0,0⟩,false):=by rw[hl];rfl
  rw[e];exact kp
 ·obtain⟨r,l,hl⟩:∃r l,b.buys=r::l:=by
   cases hb:b.buys with
   |nil=>rw[hb]at c;exact absurd c (by decide)
   |cons r l=>exact⟨r,l,rfl⟩
  have e:b.best b.buys=(b.told r,true):=by rw[hl];rfl
  rw[e]
  refine⟨⟨by omega,by rw[hl,yRt];omega⟩,r.price,r.queue,elA (x:=r) (by rw[hl];rfl) (by simp[zB]) rfl,⟨b,r⟩,?_⟩
  exact kp
theorem z7k:best2C.ok Tryz.prog 163:=okw (V:=yLu) mixed (gokc zDl (gokc zYb gok0)) 0 (fun _=>[]) (fun _=>[]) [0] Tryz.func163 fun(b:Book) h=>by
 have h:b.cntOk:=h
 refine⟨2,rfl,trivial,fun _ _=>Cv.cnd.mk (fun c=>absurd c (by decide)) fun _=> ?_⟩
 simp only[yRg]
 refine Cv.cnd.mk (fun c=> ?_) (fun c=> ?_)
 ·have hl:b.sells=[]:=ySe (by have:(b.sells.length:Int)=0:=(by simpa using c);omega)
  have e:b.best b.sells=(⟨0,0,0⟩,false):=by rw[hl];rfl
  rw[e];exact kp
 ·obtain⟨r,l,hl⟩:∃r l,b.sells=r::l:=by
   cases hb:b.sells with
   |nil=>rw[hb]at c;exact absurd c (by decide)
   |cons r l=>exact⟨r,l,rfl⟩
  have e:b.best b.sells=(b.told r,true):=by rw[hl];rfl
  rw[e]
  refine⟨⟨by omega,by rw[hl,yRt];omega⟩,r.price,r.queue,elA (x:=r) (by rw[hl];rfl) (by simp[zB]) rfl,⟨b,r⟩,?_⟩
  exact kp
theorem zOa:bestC.ok Tryz.prog 163:=fun i=>match i with
 |⟨false,b⟩=>yAn b
 |⟨true,b⟩=>z7k b
theorem zGl {α:Type} (f:α→α) (x:α) (b:List α):∀a:List α,(a++x::b).modify a.length f=a++f x::b
 |[]=>rfl
 |y::a=>by
  show y::(a++x::b).modify a.length f=_
  rw[zGl f x b a];rfl
theorem zMv {els:List (List D)} {a b:List (List D)} {x y ds:List D} {j f:Nat} (h:els=a++x::b) (hl:a.length=j) (hy:x.take f++(ds++x.drop (f+ds.length))=y):yC els j f ds=a++y::b:=by
 rw[yC,h,← hl,zGl,hy]
theorem qJ {s:MSt} {j:Nat} {x y:Top} {f:Nat} {ds:List D} (hj:j<s.books.length) (hy:(z7 x).take f++(ds++(z7 x).drop (f+ds.length))=z7 y):
 yC (List.map z7 (xO s j x)) j f ds=List.map z7 (xO s j y):=by
 rw[zMv (a:=(s.tops.take j).map z7) (b:=(List.replicate (s.books.length-j-1) top0).map z7) (by rw[xO,yRm,yRs]) (by
  rw[yRg,yRz,MSt.tops,yRg];omega) hy,xO,yRm,yRs]
theorem zHa {s:MSt} {j:Nat} {x:Top} (hj:j<s.books.length):(xO s j x).length=s.books.length:=by
 rw[xO,yRi,yRt,yRz,MSt.tops,yRg,yUc];omega
theorem zFc {s:MSt} {j:Nat} (hj:j<s.books.length):xO s j top0=xX s j:=by
 rw[xO,xX]
 obtain⟨m,hm⟩:∃m,s.books.length-j=m+1:=⟨s.books.length-j-1,by omega⟩
 rw[hm,yUz];rfl
theorem zEp {s:MSt} {j:Nat} {b:Book} (hb:s.books[j]? =some b):xO s j b.top=xX s (j+1):=by
 have hj:=(yRf.1 hb).1
 rw[xO,xX,ySz,show s.tops[j]? =some b.top by rw[MSt.tops,yTb,hb];rfl]
 simp only[yVh,yRn,ySv,yTs]
 rw[show s.books.length-j-1=s.books.length-(j+1)by omega]
theorem gL {α:Type} {l:List α} {j:Nat} {x:α} (h:l[j]? =some x):l.set j x=l:=by
 obtain⟨hj,rfl⟩:=yRf.1 h
 exact List.set_getElem_self hj
theorem yQz (s:MSt) (h:topsC.cnd s):yGq s:=by
 obtain⟨h1,h2⟩:s.cntOk:=h
 unfold yGq zGk zAy vT qF wE zCs sK dM dS sJ fA dQ rX g8 gT zS dL vU dI
 have p48:(2:Int) ^ (48:Nat)=281474976710656:=by decide
 refine⟨⟨by omega,by omega,by omega,by rw[p48];omega⟩,0,rfl,?_,fun j=>j≤s.books.length,fun j=>s.books.length-j,by omega,fun j hj=>zI (fun hlt=> ?_) (fun hlt=> ?_)⟩
 ·rw[xX,yRm,List.map_replicate];rfl
 ·have hj':j<s.books.length:=by omega
  obtain⟨b,hb⟩:=yD hj'
  have hc:=h2 b (yRp hb)
  simp only[yRx]
  have ha:∀x,(List.map z7 (xO s j x)).length=s.books.length:=fun x=>by rw[yRg,zHa hj']
  have w1:IntKind.i64.wrap (0+1)=1:=by decide
  have w2:(0+1) % ((2:Int) ^ IntKind.i64.bits).natAbs=1:=by decide
  refine⟨⟨by omega,by omega⟩,by omega,(j,top0),by rw[zFc hj'],fun x=>x=(j,top0.buy (b.best b.buys)),⟨⟨by decide,by decide⟩,1,rfl,b,hb,⟨false,b⟩,rfl,rfl,hc,fun _ _=>⟨b,rfl,kp,by omega,?_⟩⟩,?_⟩
  ·refine Cv.cnd.mk (fun c=> ?_) (fun c=> ?_)
   ·have c:(b.best b.buys).2=true:=c
    have e1:=qJ (s:=s) hj' (x:=top0) (y:={top0 with has1:=true}) (f:=0+0+0*1) (ds:=[D.v (.bool true)]) rfl
    have e2:=qJ (s:=s) hj' (x:={top0 with has1:=true}) (y:={top0 with has1:=true,p1:=(b.best b.buys).1.price}) (f:=0+2+0*1) (ds:=[D.v (.int .i64 (b.best b.buys).1.price)]) rfl
    have e3:=qJ (s:=s) hj' (x:={top0 with has1:=true,p1:=(b.best b.buys).1.price}) (y:={top0 with has1:=true,p1:=(b.best b.buys).1.price,q1:=(b.best b.buys).1.qty}) (f:=0+4+0*1) (ds:=[D.v (.int .i64 (b.best b.buys).1.qty)]) rfl
    dsimp only
    simp only[show b.side false=b.buys from rfl,e1,e2,e3,ha]
    (repeat'(first|exact rfl|exact trivial|assumption|apply And.intro|refine fun(_:Unit) (_:True)=>?_|refine Exists.intro () ?_|omega|(dsimp only;omega)))
    refine⟨(j,{top0 with has1:=true,p1:=(b.best b.buys).1.price,q1:=(b.best b.buys).1.qty}),rfl,?_,?_⟩
    ·rw[Top.buy,yRe c]
    ·(repeat'(first|exact rfl|exact trivial|assumption|apply And.intro|refine fun(_:Unit) (_:True)=>?_|refine Exists.intro () ?_|omega|(dsimp only;omega)))
     rw[gL hb]
   ·have c:(b.best b.buys).2=false:=c
    refine⟨(j,top0),rfl,?_,?_⟩
    ·rw[Top.buy,yRd (by rw[c];simp)]
    ·(repeat'(first|exact rfl|exact trivial|assumption|apply And.intro|refine fun(_:Unit) (_:True)=>?_|refine Exists.intro () ?_|omega|(dsimp only;omega)))
     rw[gL hb]
  ·rintro _ rfl
   rw[w1]
   generalize hx:top0.buy (b.best b.buys)=x
   have hx2:b.top=x.sell (b.best b.sells):=by rw[Book.top,hx]
   refine⟨(j,x),rfl,fun y=>y=(j,b.top),⟨⟨by decide,by decide⟩,2,rfl,b,hb,⟨true,b⟩,rfl,rfl,hc,fun _ _=>⟨b,rfl,kp,by omega,?_⟩⟩,?_⟩
   ·refine Cv.cnd.mk (fun c=> ?_) (fun c=> ?_)
    ·have c:(b.best b.sells).2=true:=c
     have e1:=qJ (s:=s) hj' (x:=x) (y:={x with has2:=true}) (f:=0+0+1*1) (ds:=[D.v (.bool true)]) rfl
     have e2:=qJ (s:=s) hj' (x:={x with has2:=true}) (y:={x with has2:=true,p2:=(b.best b.sells).1.price}) (f:=0+2+1*1) (ds:=[D.v (.int .i64 (b.best b.sells).1.price)]) rfl
     have e3:=qJ (s:=s) hj' (x:={x with has2:=true,p2:=(b.best b.sells).1.price}) (y:={x with has2:=true,p2:=(b.best b.sells).1.price,q2:=(b.best b.sells).1.qty}) (f:=0+4+1*1) (ds:=[D.v (.int .i64 (b.best b.sells).1.qty)]) rfl
     dsimp only
     simp only[w2,show b.side true=b.sells from rfl,e1,e2,e3,ha]
     (repeat'(first|exact rfl|exact trivial|assumption|apply And.intro|refine fun(_:Unit) (_:True)=>?_|refine Exists.intro () ?_|omega|(dsimp only;omega)))
     refine⟨(j,{x with has2:=true,p2:=(b.best b.sells).1.price,q2:=(b.best b.sells).1.qty}),rfl,?_,?_⟩
     ·rw[hx2,Top.sell,yRe c]
     ·(repeat'(first|exact rfl|exact trivial|assumption|apply And.intro|refine fun(_:Unit) (_:True)=>?_|refine Exists.intro () ?_|omega|(dsimp only;omega)))
      rw[gL hb]
    ·have c:(b.best b.sells).2=false:=c
     refine⟨(j,x),rfl,?_,?_⟩
     ·rw[hx2,Top.sell,yRd (by rw[c];simp)]
     ·(repeat'(first|exact rfl|exact trivial|assumption|apply And.intro|refine fun(_:Unit) (_:True)=>?_|refine Exists.intro () ?_|omega|(dsimp only;omega)))
      rw[gL hb]
   ·rintro _ rfl
    refine⟨j+1,by rw[w64 (by omega)];rfl,?_⟩
    refine⟨by dsimp only;rw[zEp hb],?_⟩
    exact kp
 ·have hj:j≤s.books.length:=hj
  obtain rfl:j=s.books.length:=by omega
  have e:xX s s.books.length=s.tops:=by
   rw[xX,yWi,List.replicate_zero,ySa,yRw (by rw[MSt.tops,yRg];omega)]
  rw[e]
  exact kp
theorem lZ:copySC.ok Tryz.prog 103:=okw (V:=yKw) mixed (gokc yDb (gokc z9f gok0)) 0 (fun _=>[]) (fun s=>yHk s) [0] Tryz.func103 fun(s:MSt) h=>by
 obtain⟨h1,h2⟩:s.small:=h
 refine⟨yS s.wh,?_⟩;(repeat'(first|exact rfl|exact trivial|assumption|apply And.intro|refine fun(_:Unit) (_:True)=>?_|refine Exists.intro () ?_|omega|(dsimp only;omega)))
 refine⟨0,?_⟩;(repeat'(first|exact rfl|exact trivial|assumption|apply And.intro|refine fun(_:Unit) (_:True)=>?_|refine Exists.intro () ?_|omega|(dsimp only;omega)))
 refine⟨fun j=>j≤s.books.length,fun j=>s.books.length-j,by omega,fun j hj=>zI (fun hlt=> ?_) (fun hlt=> ?_)⟩
 ·obtain⟨b,hb⟩:=yD (l:=s.books) (i:=j) (by omega)
  have hs:=h2 b (yRp hb)
  simp only[yRx]
  refine⟨⟨by omega,by omega⟩,by omega,b,hb,b,rfl,hs,fun _ _=>⟨b,rfl,kp,by omega,trivial,trivial,s.books.take j,rfl,?_,j+1,?_⟩⟩
  ·rw[yRz];omega
  ·rw[w64 (by omega),ySz,hb]
   (repeat'(first|exact rfl|exact trivial|assumption|apply And.intro|refine fun(_:Unit) (_:True)=>?_|refine Exists.intro () ?_|omega|(dsimp only;omega)))
   rw[gL hb]
 ·have hj:j≤s.books.length:=hj
  obtain rfl:j=s.books.length:=by omega
  rw[yRw (ySk _)]
  exact kp
open Go Cv Go.Proofs
structure Leg where
 inst:Int
 side:Int
 deriving DecidableEq
structure Quote where
 price:Int
 qty:Int
 a:Leg
 b:Leg
 deriving DecidableEq
def zJ (q:Quote):List D:=[.v (.int .i64 q.price),.v (.int .i64 q.qty),.v (.int .i64 q.a.inst),.v (.int .i64 q.a.side),.v (.int .i64 q.b.inst),.v (.int .i64 q.b.side)]
@[reducible] def zVy (q:Quote):V:= .agg [zA q.price,zA q.qty,zA q.a.inst,zA q.a.side,zA q.b.inst,zA q.b.side]
def yJo:Quote:=⟨0,0,⟨0,0⟩,⟨0,0⟩⟩
structure I3' where
 side:Int
 x:Int
 y:Int
def btr (side x y:Int):Bool:=if side=1 then decide (y<x)else decide (x<y)
def iotherC:Con:=con1 Int (fun n=>[zA n]) (fun _=>[]) (fun n=>n=1∨n=2) (fun n=>zA (3-n)) (fun _=>[])
def ibetterC:Con:=con1 I3' (fun i=>[zA i.side,zA i.x,zA i.y]) (fun _=>[]) (fun _=>True) (fun i=>yM (btr i.side i.x i.y)) (fun _=>[])
def Top.has (t:Top) (s:Int):Bool:=if s=1 then t.has1 else t.has2
def Top.price (t:Top) (s:Int):Int:=if s=1 then t.p1 else t.p2
def Top.qty (t:Top) (s:Int):Int:=if s=1 then t.q1 else t.q2
def mkq (tops:List Top) (a b:Leg) (less:Bool):List Quote:=
 let x:=tops.getD a.inst.toNat top0
 let y:=tops.getD b.inst.toNat top0
 let r:=if less then uD (y.price b.side) (x.price a.side)else uE (x.price a.side) (y.price b.side)
 if x.has a.side && y.has b.side && r.2 then[⟨r.1,min (x.qty a.side) (y.qty b.side),a,b⟩]else[]
structure MkI where
 tops:List Top
 out:List Quote
 a:Int
 b:Int
 less:Bool
@[reducible] def vD (l:List Top):Prop:=l.length≤1000000∧∀t∈l,yU t.p1∧yU t.p2
def MkU (x:List Top×List Quote):Nat→AObj
 |0=> .cells [.own 1,.own 2] 311
 |1=> .fro 6 (x.1.map z7)
 |2=> .own 257 6 (x.2.map zJ)
 |_=> .gone
@[reducible] def MkR (tops:List Top) (out:List Quote):List AObj:=[MkU (tops,out) 0,MkU (tops,out) 1,MkU (tops,out) 2]
@[reducible] def MkP (tops:List Top) (out:List Quote):List AObj:=[.cells [.own 1,.own 3] 311,MkU (tops,out) 1,.gone,MkU (tops,out) 2]
def mkC (sa sb:Int):Con:=con1 MkI (fun i=>[.nm 0 0,.agg [zA i.a,zA sa],.agg [zA i.b,zA sb],yM i.less]) (fun i=>MkR i.tops i.out)
 (fun i=>0≤i.a∧i.a<i.tops.length∧0≤i.b∧i.b<i.tops.length∧vD i.tops∧i.out.length≤1000) (fun _=>zRg) (fun i=>MkP i.tops (i.out++mkq i.tops ⟨i.a,sa⟩ ⟨i.b,sb⟩ i.less))
def mk11:Con:=mkC 1 1
def mk12:Con:=mkC 1 2
def mk21:Con:=mkC 2 1
def mk22:Con:=mkC 2 2
open Go Cv Go.Proofs
def yEt (n:Int):Prop:=
 ∃(o:Unit),3-n=IntKind.i64.wrap (3-n)∧True
def yBd (i:I3'):Prop:=
 cnd (i.side==1) (∃(o:Unit),btr i.side i.x i.y=decide (i.x>i.y)∧True) (∃(o:Unit),btr i.side i.x i.y=decide (i.x<i.y)∧True)
def rZ (a:MkI):=(a.out++mkq a.tops (Leg.mk a.a 1) (Leg.mk a.b 1) a.less)
def bW (a:MkI):Prop:=∃(b:Unit),AObj.fro 6 (List.map z7 a.tops)=MkU (a.tops,a.out) 1∧List.map zJ (rZ a)=List.map zJ a.out∧True
def kK (a:I2):Prop:=((-9223372036854775808)≤a.x∧a.x≤9223372036854775807)∧(-9223372036854775808)≤a.y∧a.y≤9223372036854775807
def qI (a:MkI):=(↑(List.map z7 a.tops).length:Int)
def xZ (a:MkI):Prop:=(0≤a.b∧a.b<(qI a))∧a.b.toNat=a.b.toNat
def kM (a:MkI):Prop:=(0≤a.a∧a.a<(qI a))∧a.a.toNat=a.a.toNat
def kJ (a:MkI):=((List.map zJ a.out).length+1)
def zKb (a:MkI) (b:Bool) (c:Bool) (d:Int) (e:Int) (f:Int) (g:Int):Prop:=True∧(xZ a)∧a.b=a.b∧True∧True∧(kM a)∧a.a=a.a∧True∧True∧(xZ a)∧a.b=a.b∧True∧True∧(kM a)∧a.a=a.a∧True∧True∧(xZ a)∧a.b=a.b∧True∧cnd (!b) (bW a) (cnd (!c) (bW a) (∃(h:I2),h.x=d∧h.y=e∧(kK h)∧∀(j:Unit),True→cnd a.less (∃(k:I2),k.x=e∧k.y=d∧(kK k)∧∀(l:Unit),True→cnd (uD k.x k.y).snd (True∧(kJ a)*(48:Nat)≤(70368744177664:Nat)∧∃(m:Unit),AObj.fro 6 (List.map z7 a.tops)=MkU (a.tops,a.out) 1∧List.map zJ (rZ a)=List.map zJ a.out++[[dI ((uD k.x k.y).fst),dI (min f g),dI a.a,dI 1,dI a.b,dI 1]]∧True) (bW a)) (cnd (uE h.x h.y).snd (True∧(kJ a)*(48:Nat)≤(70368744177664:Nat)∧∃(k:Unit),AObj.fro 6 (List.map z7 a.tops)=MkU (a.tops,a.out) 1∧List.map zJ (rZ a)=List.map zJ a.out++[[dI ((uE h.x h.y).fst),dI (min f g),dI a.a,dI 1,dI a.b,dI 1]]∧True) (bW a))))
def yGo (i:MkI):Prop:=
 (0≤i.a∧i.a<(qI i))∧∃(a:Bool),∃(b:Bool),∃(c:Int),∃(d:Int),∃(e:Int),∃(f:Int),zE (List.map z7 i.tops) i.a.toNat 0 6=some [D.v (.bool a),D.v (.bool b),dI c,dI d,dI e,dI f]∧(0≤i.b∧i.b<(qI i))∧∃(g:Bool),∃(h:Bool),∃(j:Int),∃(k:Int),∃(l:Int),∃(m:Int),zE (List.map z7 i.tops) i.b.toNat 0 6=some [D.v (.bool g),D.v (.bool h),dI j,dI k,dI l,dI m]∧(zKb i a g c j e l)∧zKb i a g c j e l
def sR (a:MkI):=(a.out++mkq a.tops (Leg.mk a.a 1) (Leg.mk a.b 2) a.less)
def b9 (a:MkI):Prop:=∃(b:Unit),AObj.fro 6 (List.map z7 a.tops)=MkU (a.tops,a.out) 1∧List.map zJ (sR a)=List.map zJ a.out∧True
def zJw (a:MkI) (b:Bool) (c:Bool) (d:Int) (e:Int) (f:Int) (g:Int):Prop:=True∧(xZ a)∧a.b=a.b∧True∧True∧(kM a)∧a.a=a.a∧True∧True∧(xZ a)∧a.b=a.b∧True∧True∧(kM a)∧a.a=a.a∧True∧True∧(xZ a)∧a.b=a.b∧True∧cnd (!b) (b9 a) (cnd (!c) (b9 a) (∃(h:I2),h.x=d∧h.y=e∧(kK h)∧∀(j:Unit),True→cnd a.less (∃(k:I2),k.x=e∧k.y=d∧(kK k)∧∀(l:Unit),True→cnd (uD k.x k.y).snd (True∧(kJ a)*(48:Nat)≤(70368744177664:Nat)∧∃(m:Unit),AObj.fro 6 (List.map z7 a.tops)=MkU (a.tops,a.out) 1∧List.map zJ (sR a)=List.map zJ a.out++[[dI ((uD k.x k.y).fst),dI (min f g),dI a.a,dI 1,dI a.b,dI 2]]∧True) (b9 a)) (cnd (uE h.x h.y).snd (True∧(kJ a)*(48:Nat)≤(70368744177664:Nat)∧∃(k:Unit),AObj.fro 6 (List.map z7 a.tops)=MkU (a.tops,a.out) 1∧List.map zJ (sR a)=List.map zJ a.out++[[dI ((uE h.x h.y).fst),dI (min f g),dI a.a,dI 1,dI a.b,dI 2]]∧True) (b9 a))))
def yGi (i:MkI):Prop:=
 (0≤i.a∧i.a<(qI i))∧∃(a:Bool),∃(b:Bool),∃(c:Int),∃(d:Int),∃(e:Int),∃(f:Int),zE (List.map z7 i.tops) i.a.toNat 0 6=some [D.v (.bool a),D.v (.bool b),dI c,dI d,dI e,dI f]∧(0≤i.b∧i.b<(qI i))∧∃(g:Bool),∃(h:Bool),∃(j:Int),∃(k:Int),∃(l:Int),∃(m:Int),zE (List.map z7 i.tops) i.b.toNat 0 6=some [D.v (.bool g),D.v (.bool h),dI j,dI k,dI l,dI m]∧(zJw i a h c k e m)∧zJw i a h c k e m
def sW (a:MkI):=(a.out++mkq a.tops (Leg.mk a.a 2) (Leg.mk a.b 1) a.less)
def aI (a:MkI):Prop:=∃(b:Unit),AObj.fro 6 (List.map z7 a.tops)=MkU (a.tops,a.out) 1∧List.map zJ (sW a)=List.map zJ a.out∧True
def zGg (a:MkI) (b:Bool) (c:Bool) (d:Int) (e:Int) (f:Int) (g:Int):Prop:=True∧(xZ a)∧a.b=a.b∧True∧True∧(kM a)∧a.a=a.a∧True∧True∧(xZ a)∧a.b=a.b∧True∧True∧(kM a)∧a.a=a.a∧True∧True∧(xZ a)∧a.b=a.b∧True∧cnd (!b) (aI a) (cnd (!c) (aI a) (∃(h:I2),h.x=d∧h.y=e∧(kK h)∧∀(j:Unit),True→cnd a.less (∃(k:I2),k.x=e∧k.y=d∧(kK k)∧∀(l:Unit),True→cnd (uD k.x k.y).snd (True∧(kJ a)*(48:Nat)≤(70368744177664:Nat)∧∃(m:Unit),AObj.fro 6 (List.map z7 a.tops)=MkU (a.tops,a.out) 1∧List.map zJ (sW a)=List.map zJ a.out++[[dI ((uD k.x k.y).fst),dI (min f g),dI a.a,dI 2,dI a.b,dI 1]]∧True) (aI a)) (cnd (uE h.x h.y).snd (True∧(kJ a)*(48:Nat)≤(70368744177664:Nat)∧∃(k:Unit),AObj.fro 6 (List.map z7 a.tops)=MkU (a.tops,a.out) 1∧List.map zJ (sW a)=List.map zJ a.out++[[dI ((uE h.x h.y).fst),dI (min f g),dI a.a,dI 2,dI a.b,dI 1]]∧True) (aI a))))
def yGw (i:MkI):Prop:=
 (0≤i.a∧i.a<(qI i))∧∃(a:Bool),∃(b:Bool),∃(c:Int),∃(d:Int),∃(e:Int),∃(f:Int),zE (List.map z7 i.tops) i.a.toNat 0 6=some [D.v (.bool a),D.v (.bool b),dI c,dI d,dI e,dI f]∧(0≤i.b∧i.b<(qI i))∧∃(g:Bool),∃(h:Bool),∃(j:Int),∃(k:Int),∃(l:Int),∃(m:Int),zE (List.map z7 i.tops) i.b.toNat 0 6=some [D.v (.bool g),D.v (.bool h),dI j,dI k,dI l,dI m]∧(zGg i b g d j f l)∧zGg i b g d j f l
def sQ (a:MkI):=(a.out++mkq a.tops (Leg.mk a.a 2) (Leg.mk a.b 2) a.less)
def aW (a:MkI):Prop:=∃(b:Unit),AObj.fro 6 (List.map z7 a.tops)=MkU (a.tops,a.out) 1∧List.map zJ (sQ a)=List.map zJ a.out∧True
def zGi (a:MkI) (b:Bool) (c:Bool) (d:Int) (e:Int) (f:Int) (g:Int):Prop:=True∧(xZ a)∧a.b=a.b∧True∧True∧(kM a)∧a.a=a.a∧True∧True∧(xZ a)∧a.b=a.b∧True∧True∧(kM a)∧a.a=a.a∧True∧True∧(xZ a)∧a.b=a.b∧True∧cnd (!b) (aW a) (cnd (!c) (aW a) (∃(h:I2),h.x=d∧h.y=e∧(kK h)∧∀(j:Unit),True→cnd a.less (∃(k:I2),k.x=e∧k.y=d∧(kK k)∧∀(l:Unit),True→cnd (uD k.x k.y).snd (True∧(kJ a)*(48:Nat)≤(70368744177664:Nat)∧∃(m:Unit),AObj.fro 6 (List.map z7 a.tops)=MkU (a.tops,a.out) 1∧List.map zJ (sQ a)=List.map zJ a.out++[[dI ((uD k.x k.y).fst),dI (min f g),dI a.a,dI 2,dI a.b,dI 2]]∧True) (aW a)) (cnd (uE h.x h.y).snd (True∧(kJ a)*(48:Nat)≤(70368744177664:Nat)∧∃(k:Unit),AObj.fro 6 (List.map z7 a.tops)=MkU (a.tops,a.out) 1∧List.map zJ (sQ a)=List.map zJ a.out++[[dI ((uE h.x h.y).fst),dI (min f g),dI a.a,dI 2,dI a.b,dI 2]]∧True) (aW a))))
def yGv (i:MkI):Prop:=
 (0≤i.a∧i.a<(qI i))∧∃(a:Bool),∃(b:Bool),∃(c:Int),∃(d:Int),∃(e:Int),∃(f:Int),zE (List.map z7 i.tops) i.a.toNat 0 6=some [D.v (.bool a),D.v (.bool b),dI c,dI d,dI e,dI f]∧(0≤i.b∧i.b<(qI i))∧∃(g:Bool),∃(h:Bool),∃(j:Int),∃(k:Int),∃(l:Int),∃(m:Int),zE (List.map z7 i.tops) i.b.toNat 0 6=some [D.v (.bool g),D.v (.bool h),dI j,dI k,dI l,dI m]∧(zGi i b h d k f m)∧zGi i b h d k f m
open Go Cv Go.Proofs
theorem zMp:iotherC.ok Tryz.prog 187:=okw (V:=yEt) mixed gok0 0 (fun _=>[]) (fun _=>[]) [] Tryz.func187 fun(n:Int) h=>by
 have h:n=1∨n=2:=h
 refine⟨(),?_,trivial⟩
 rw[w64 (by omega)]
theorem zWl:ibetterC.ok Tryz.prog 202:=okw (V:=yBd) mixed gok0 0 (fun _=>[]) (fun _=>[]) [] Tryz.func202 fun(i:I3') _=>by
 refine Cv.cnd.mk (fun e=>⟨(),?_,trivial⟩) (fun e=>⟨(),?_,trivial⟩)
 ·have e:i.side=1:=by simpa using e
  simp[btr,e]
 ·have e:i.side≠1:=by simpa using e
  simp[btr,e]
theorem yFk (a b:Int):(if b<a then b else a)=min a b:=by split<;>omega
theorem yMz (i:MkI) (h:mk11.cnd i):yGo i:=by
 obtain⟨a0,a1,b0,b1,⟨ht,hp⟩,ho⟩:0≤i.a∧i.a<i.tops.length∧0≤i.b∧i.b<i.tops.length∧vD i.tops∧i.out.length≤1000:=h
 obtain⟨x,hx⟩:=yD (l:=i.tops) (i:=i.a.toNat) (by omega)
 obtain⟨y,hy⟩:=yD (l:=i.tops) (i:=i.b.toNat) (by omega)
 obtain⟨⟨px1,px2⟩,px3,px4⟩:=hp x (yRp hx)
 obtain⟨⟨py1,py2⟩,py3,py4⟩:=hp y (yRp hy)
 have e0:mkq i.tops ⟨i.a,1⟩ ⟨i.b,1⟩ i.less=if x.has1 && y.has1 && (if i.less then uD y.p1 x.p1 else uE x.p1 y.p1).2 then[⟨(if i.less then uD y.p1 x.p1 else uE x.p1 y.p1).1,min x.q1 y.q1,⟨i.a,1⟩,⟨i.b,1⟩⟩]else[]:=by
  simp only[mkq,yRl,hx,hy,yTi];rfl
 unfold yGo zKb kJ kM xZ qI kK bW rZ dI
 simp only[yRg]
 refine⟨⟨by omega,by omega⟩,x.has1,x.has2,x.p1,x.p2,x.q1,x.q2,elA hx (by simp[z7]) rfl,⟨by omega,by omega⟩,y.has1,y.has2,y.p1,y.p2,y.q1,y.q2,elA hy (by simp[z7]) rfl,?_⟩
 rw[e0]
 (repeat'(first|exact rfl|exact trivial|assumption|apply And.intro|refine fun(_:Unit) (_:True)=>?_|refine Exists.intro () ?_|omega|(dsimp only;omega)))
 all_goals
  refine Cv.cnd.mk (fun c1=> ?_) (fun c1=>Cv.cnd.mk (fun c2=> ?_) (fun c2=> ?_))
  ·have c1:x.has1=false:=by simpa using c1
   simp only[c1,yUh,yRv,if_false,ySa];exact kp
  ·have c2:y.has1=false:=by simpa using c2
   simp only[c2,yVy,yUh,yRv,if_false,ySa];exact kp
  ·have c1:x.has1=true:=by simpa using c1
   have c2:y.has1=true:=by simpa using c2
   simp only[c1,c2,yTu,yFk]
   refine⟨⟨x.p1,y.p1⟩,?_⟩
   (repeat'(first|exact rfl|exact trivial|assumption|apply And.intro|refine fun(_:Unit) (_:True)=>?_|refine Exists.intro () ?_|omega|(dsimp only;omega)))
   refine Cv.cnd.mk (fun c3=> ?_) (fun c3=> ?_)
   ·have c3:i.less=true:=c3
    simp only[c3,if_true]
    refine⟨⟨y.p1,x.p1⟩,?_⟩
    (repeat'(first|exact rfl|exact trivial|assumption|apply And.intro|refine fun(_:Unit) (_:True)=>?_|refine Exists.intro () ?_|omega|(dsimp only;omega)))
    refine Cv.cnd.mk (fun c4=> ?_) (fun c4=> ?_)
    ·have c4:(uD y.p1 x.p1).2=true:=c4
     simp only[c4,if_true,yRm];exact kp
    ·have c4:(uD y.p1 x.p1).2=false:=c4
     simp only[c4,yRv,if_false,ySa];exact kp
   ·have c3:i.less=false:=c3
    simp only[c3,yRv,if_false]
    refine Cv.cnd.mk (fun c4=> ?_) (fun c4=> ?_)
    ·have c4:(uE x.p1 y.p1).2=true:=c4
     simp only[c4,if_true,yRm];exact kp
    ·have c4:(uE x.p1 y.p1).2=false:=c4
     simp only[c4,yRv,if_false,ySa];exact kp
theorem yEe:mk11.ok Tryz.prog 188:=okw mixed (gokc zNq (gokc zOv gok0)) 0 (fun _=>[]) (fun _=>[]) [] Tryz.func188 yMz
theorem yNs (i:MkI) (h:mk12.cnd i):yGi i:=by
 obtain⟨a0,a1,b0,b1,⟨ht,hp⟩,ho⟩:0≤i.a∧i.a<i.tops.length∧0≤i.b∧i.b<i.tops.length∧vD i.tops∧i.out.length≤1000:=h
 obtain⟨x,hx⟩:=yD (l:=i.tops) (i:=i.a.toNat) (by omega)
 obtain⟨y,hy⟩:=yD (l:=i.tops) (i:=i.b.toNat) (by omega)
 obtain⟨⟨px1,px2⟩,px3,px4⟩:=hp x (yRp hx)
 obtain⟨⟨py1,py2⟩,py3,py4⟩:=hp y (yRp hy)
 have e0:mkq i.tops ⟨i.a,1⟩ ⟨i.b,2⟩ i.less=if x.has1 && y.has2 && (if i.less then uD y.p2 x.p1 else uE x.p1 y.p2).2 then[⟨(if i.less then uD y.p2 x.p1 else uE x.p1 y.p2).1,min x.q1 y.q2,⟨i.a,1⟩,⟨i.b,2⟩⟩]else[]:=by
  simp only[mkq,yRl,hx,hy,yTi];rfl
 unfold yGi zJw b9 sR kJ kM xZ kK qI dI
 simp only[yRg]
 refine⟨⟨by omega,by omega⟩,x.has1,x.has2,x.p1,x.p2,x.q1,x.q2,elA hx (by simp[z7]) rfl,⟨by omega,by omega⟩,y.has1,y.has2,y.p1,y.p2,y.q1,y.q2,elA hy (by simp[z7]) rfl,?_⟩
 rw[e0]
 (repeat'(first|exact rfl|exact trivial|assumption|apply And.intro|refine fun(_:Unit) (_:True)=>?_|refine Exists.intro () ?_|omega|(dsimp only;omega)))
 all_goals
  refine Cv.cnd.mk (fun c1=> ?_) (fun c1=>Cv.cnd.mk (fun c2=> ?_) (fun c2=> ?_))
  ·have c1:x.has1=false:=by simpa using c1
   simp only[c1,yUh,yRv,if_false,ySa];exact kp
  ·have c2:y.has2=false:=by simpa using c2
   simp only[c2,yVy,yUh,yRv,if_false,ySa];exact kp
  ·have c1:x.has1=true:=by simpa using c1
   have c2:y.has2=true:=by simpa using c2
   simp only[c1,c2,yTu,yFk]
   refine⟨⟨x.p1,y.p2⟩,?_⟩
   (repeat'(first|exact rfl|exact trivial|assumption|apply And.intro|refine fun(_:Unit) (_:True)=>?_|refine Exists.intro () ?_|omega|(dsimp only;omega)))
   refine Cv.cnd.mk (fun c3=> ?_) (fun c3=> ?_)
   ·have c3:i.less=true:=c3
    simp only[c3,if_true]
    refine⟨⟨y.p2,x.p1⟩,?_⟩
    (repeat'(first|exact rfl|exact trivial|assumption|apply And.intro|refine fun(_:Unit) (_:True)=>?_|refine Exists.intro () ?_|omega|(dsimp only;omega)))
    refine Cv.cnd.mk (fun c4=> ?_) (fun c4=> ?_)
    ·have c4:(uD y.p2 x.p1).2=true:=c4
     simp only[c4,if_true,yRm];exact kp
    ·have c4:(uD y.p2 x.p1).2=false:=c4
     simp only[c4,yRv,if_false,ySa];exact kp
   ·have c3:i.less=false:=c3
    simp only[c3,yRv,if_false]
    refine Cv.cnd.mk (fun c4=> ?_) (fun c4=> ?_)
    ·have c4:(uE x.p1 y.p2).2=true:=c4
     simp only[c4,if_true,yRm];exact kp
    ·have c4:(uE x.p1 y.p2).2=false:=c4
     simp only[c4,yRv,if_false,ySa];exact kp
theorem yEy:mk12.ok Tryz.prog 188:=okw mixed (gokc zNq (gokc zOv gok0)) 0 (fun _=>[]) (fun _=>[]) [] Tryz.func188 yNs
theorem yNw (i:MkI) (h:mk21.cnd i):yGw i:=by
 obtain⟨a0,a1,b0,b1,⟨ht,hp⟩,ho⟩:0≤i.a∧i.a<i.tops.length∧0≤i.b∧i.b<i.tops.length∧vD i.tops∧i.out.length≤1000:=h
 obtain⟨x,hx⟩:=yD (l:=i.tops) (i:=i.a.toNat) (by omega)
 obtain⟨y,hy⟩:=yD (l:=i.tops) (i:=i.b.toNat) (by omega)
 obtain⟨⟨px1,px2⟩,px3,px4⟩:=hp x (yRp hx)
 obtain⟨⟨py1,py2⟩,py3,py4⟩:=hp y (yRp hy)
 have e0:mkq i.tops ⟨i.a,2⟩ ⟨i.b,1⟩ i.less=if x.has2 && y.has1 && (if i.less then uD y.p1 x.p2 else uE x.p2 y.p1).2 then[⟨(if i.less then uD y.p1 x.p2 else uE x.p2 y.p1).1,min x.q2 y.q1,⟨i.a,2⟩,⟨i.b,1⟩⟩]else[]:=by
  simp only[mkq,yRl,hx,hy,yTi];rfl
 unfold yGw zGg aI sW kJ kM xZ kK qI dI
 simp only[yRg]
 refine⟨⟨by omega,by omega⟩,x.has1,x.has2,x.p1,x.p2,x.q1,x.q2,elA hx (by simp[z7]) rfl,⟨by omega,by omega⟩,y.has1,y.has2,y.p1,y.p2,y.q1,y.q2,elA hy (by simp[z7]) rfl,?_⟩
 rw[e0]
 (repeat'(first|exact rfl|exact trivial|assumption|apply And.intro|refine fun(_:Unit) (_:True)=>?_|refine Exists.intro () ?_|omega|(dsimp only;omega)))
 all_goals
  refine Cv.cnd.mk (fun c1=> ?_) (fun c1=>Cv.cnd.mk (fun c2=> ?_) (fun c2=> ?_))
  ·have c1:x.has2=false:=by simpa using c1
   simp only[c1,yUh,yRv,if_false,ySa];exact kp
  ·have c2:y.has1=false:=by simpa using c2
   simp only[c2,yVy,yUh,yRv,if_false,ySa];exact kp
  ·have c1:x.has2=true:=by simpa using c1
   have c2:y.has1=true:=by simpa using c2
   simp only[c1,c2,yTu,yFk]
   refine⟨⟨x.p2,y.p1⟩,?_⟩
   (repeat'(first|exact rfl|exact trivial|assumption|apply And.intro|refine fun(_:Unit) (_:True)=>?_|refine Exists.intro () ?_|omega|(dsimp only;omega)))
   refine Cv.cnd.mk (fun c3=> ?_) (fun c3=> ?_)
   ·have c3:i.less=true:=c3
    simp only[c3,if_true]
    refine⟨⟨y.p1,x.p2⟩,?_⟩
    (repeat'(first|exact rfl|exact trivial|assumption|apply And.intro|refine fun(_:Unit) (_:True)=>?_|refine Exists.intro () ?_|omega|(dsimp only;omega)))
    refine Cv.cnd.mk (fun c4=> ?_) (fun c4=> ?_)
    ·have c4:(uD y.p1 x.p2).2=true:=c4
     simp only[c4,if_true,yRm];exact kp
    ·have c4:(uD y.p1 x.p2).2=false:=c4
     simp only[c4,yRv,if_false,ySa];exact kp
   ·have c3:i.less=false:=c3
    simp only[c3,yRv,if_false]
    refine Cv.cnd.mk (fun c4=> ?_) (fun c4=> ?_)
    ·have c4:(uE x.p2 y.p1).2=true:=c4
     simp only[c4,if_true,yRm];exact kp
    ·have c4:(uE x.p2 y.p1).2=false:=c4
     simp only[c4,yRv,if_false,ySa];exact kp
theorem yBz:mk21.ok Tryz.prog 188:=okw mixed (gokc zNq (gokc zOv gok0)) 0 (fun _=>[]) (fun _=>[]) [] Tryz.func188 yNw
theorem yNe (i:MkI) (h:mk22.cnd i):yGv i:=by
 obtain⟨a0,a1,b0,b1,⟨ht,hp⟩,ho⟩:0≤i.a∧i.a<i.tops.length∧0≤i.b∧i.b<i.tops.length∧vD i.tops∧i.out.length≤1000:=h
 obtain⟨x,hx⟩:=yD (l:=i.tops) (i:=i.a.toNat) (by omega)
 obtain⟨y,hy⟩:=yD (l:=i.tops) (i:=i.b.toNat) (by omega)
 obtain⟨⟨px1,px2⟩,px3,px4⟩:=hp x (yRp hx)
 obtain⟨⟨py1,py2⟩,py3,py4⟩:=hp y (yRp hy)
 have e0:mkq i.tops ⟨i.a,2⟩ ⟨i.b,2⟩ i.less=if x.has2 && y.has2 && (if i.less then uD y.p2 x.p2 else uE x.p2 y.p2).2 then[⟨(if i.less then uD y.p2 x.p2 else uE x.p2 y.p2).1,min x.q2 y.q2,⟨i.a,2⟩,⟨i.b,2⟩⟩]else[]:=by
  simp only[mkq,yRl,hx,hy,yTi];rfl
 unfold yGv zGi aW sQ kJ kM xZ kK qI dI
 simp only[yRg]
 refine⟨⟨by omega,by omega⟩,x.has1,x.has2,x.p1,x.p2,x.q1,x.q2,elA hx (by simp[z7]) rfl,⟨by omega,by omega⟩,y.has1,y.has2,y.p1,y.p2,y.q1,y.q2,elA hy (by simp[z7]) rfl,?_⟩
 rw[e0]
 (repeat'(first|exact rfl|exact trivial|assumption|apply And.intro|refine fun(_:Unit) (_:True)=>?_|refine Exists.intro () ?_|omega|(dsimp only;omega)))
 all_goals
  refine Cv.cnd.mk (fun c1=> ?_) (fun c1=>Cv.cnd.mk (fun c2=> ?_) (fun c2=> ?_))
  ·have c1:x.has2=false:=by simpa using c1
   simp only[c1,yUh,yRv,if_false,ySa];exact kp
  ·have c2:y.has2=false:=by simpa using c2
   simp only[c2,yVy,yUh,yRv,if_false,ySa];exact kp
  ·have c1:x.has2=true:=by simpa using c1
   have c2:y.has2=true:=by simpa using c2
   simp only[c1,c2,yTu,yFk]
   refine⟨⟨x.p2,y.p2⟩,?_⟩
   (repeat'(first|exact rfl|exact trivial|assumption|apply And.intro|refine fun(_:Unit) (_:True)=>?_|refine Exists.intro () ?_|omega|(dsimp only;omega)))
   refine Cv.cnd.mk (fun c3=> ?_) (fun c3=> ?_)
   ·have c3:i.less=true:=c3
    simp only[c3,if_true]
    refine⟨⟨y.p2,x.p2⟩,?_⟩
    (repeat'(first|exact rfl|exact trivial|assumption|apply And.intro|refine fun(_:Unit) (_:True)=>?_|refine Exists.intro () ?_|omega|(dsimp only;omega)))
    refine Cv.cnd.mk (fun c4=> ?_) (fun c4=> ?_)
    ·have c4:(uD y.p2 x.p2).2=true:=c4
     simp only[c4,if_true,yRm];exact kp
    ·have c4:(uD y.p2 x.p2).2=false:=c4
     simp only[c4,yRv,if_false,ySa];exact kp
   ·have c3:i.less=false:=c3
    simp only[c3,yRv,if_false]
    refine Cv.cnd.mk (fun c4=> ?_) (fun c4=> ?_)
    ·have c4:(uE x.p2 y.p2).2=true:=c4
     simp only[c4,if_true,yRm];exact kp
    ·have c4:(uE x.p2 y.p2).2=false:=c4
     simp only[c4,yRv,if_false,ySa];exact kp
theorem yCe:mk22.ok Tryz.prog 188:=okw mixed (gokc zNq (gokc zOv gok0)) 0 (fun _=>[]) (fun _=>[]) [] Tryz.func188 yNe
open Go Cv Go.Proofs
structure MkJ where
 i:MkI
 sa:Bool
 sb:Bool
def mkAnyC:Con:=con1 MkJ (fun j=>[.nm 0 0,.agg [zA j.i.a,zA (zC j.sa)],.agg [zA j.i.b,zA (zC j.sb)],yM j.i.less]) (fun j=>MkR j.i.tops j.i.out)
 (fun j=>0≤j.i.a∧j.i.a<j.i.tops.length∧0≤j.i.b∧j.i.b<j.i.tops.length∧vD j.i.tops∧j.i.out.length≤1000) (fun _=>zRg) (fun j=>MkP j.i.tops (j.i.out++mkq j.i.tops ⟨j.i.a,zC j.sa⟩ ⟨j.i.b,zC j.sb⟩ j.i.less))
theorem zUo:mkAnyC.ok Tryz.prog 188:=fun j=>match j with
 |⟨i,false,false⟩=>yEe i
 |⟨i,false,true⟩=>yEy i
 |⟨i,true,false⟩=>yBz i
 |⟨i,true,true⟩=>yCe i
structure fN where
 p:Prd
 tops:List Top
 inst:Int
def kG (i:fN) (s:Int) (k:Nat):List Quote:=(List.range k).flatMap fun(k:Nat)=>mkq i.tops ⟨(i.p.spread i.inst (i.inst+1+k)).1,s⟩ ⟨i.inst+1+k,s⟩ false
def jN (i:fN) (s:Int) (k:Nat):List Quote:=(List.range k).flatMap fun(k:Nat)=>mkq i.tops ⟨(i.p.spread k i.inst).1,3-s⟩ ⟨k,s⟩ true
def yN (i:fN) (s:Int):List Quote:=mkq i.tops ⟨(i.p.legs i.inst).2.1,3-s⟩ ⟨(i.p.legs i.inst).1,s⟩ true
def f9 (i:fN) (s:Int) (q:Quote):Quote:={q with a:=⟨(i.p.legs i.inst).1,s⟩,b:=⟨(i.p.legs i.inst).2.1,3-s⟩}
def qU (i:fN) (s:Int):List Quote:=
 if i.p.count=0∨(i.tops.length:Int)≠i.p.count∨i.inst<0∨(i.p.count:Int)≤i.inst then[]
 else if(i.p.legs i.inst).2.2 then(yN i s).map (f9 i s)
 else kG i s (i.p.months.length-(i.inst.toNat+1))++jN i s i.inst.toNat
def yFw (s:Int):Con:=con1 fN (fun i=>[prdV i.p,roV 6 (i.tops.map z7),zA i.inst,zA s]) (fun _=>[]) (fun i=>i.p.small∧vD i.tops) (fun _=> .own 0) (fun i=>[.own 257 6 ((qU i s).map zJ)])
def all1C:Con:=yFw 1
def all2C:Con:=yFw 2
def yMo (i:fN) (s:Int):List SAnn:=[
 {ι:=Nat,slots:=fun k=>[(10,.nm 0 0),(77,zA k)],rows:=fun k=>(List.range 3).map (MkU (i.tops,((yN i s).take k).map (f9 i s)++(yN i s).drop k))},
 {ι:=Nat,slots:=fun k=>[(10,.nm 0 0),(17,zA (i.inst+1+k))],rows:=fun k=>MkR i.tops (kG i s k)},
 {ι:=Nat,slots:=fun k=>[(10,.nm 0 0),(120,zA k)],rows:=fun k=>MkR i.tops (kG i s (i.p.months.length-(i.inst.toNat+1))++jN i s k)}]
structure tX where
 i:fN
 s:Bool
def allC:Con:=con1 tX (fun j=>[prdV j.i.p,roV 6 (j.i.tops.map z7),zA j.i.inst,zA (zC j.s)]) (fun _=>[]) (fun j=>j.i.p.small∧vD j.i.tops) (fun _=> .own 0) (fun j=>[.own 257 6 ((qU j.i (zC j.s)).map zJ)])
def wM (i:fN) (s:Int):List Quote:=(qU i s).filter fun q=>decide (i.p.price i.inst q.price=0)
def quotesC:Con:=con1 tX (fun j=>[prdV j.i.p,roV 6 (j.i.tops.map z7),zA j.i.inst,zA (zC j.s)]) (fun _=>[]) (fun j=>j.i.p.small∧vD j.i.tops) (fun _=> .own 0) (fun j=>[.own 257 6 ((wM j.i (zC j.s)).map zJ)])
def yDr (j:tX):List SAnn:=[{ι:=Nat,slots:=fun k=>[(9,.own 0),(18,zA k)],rows:=fun k=>[.own 257 6 ((((qU j.i (zC j.s)).take k).filter fun q=>decide (j.i.p.price j.i.inst q.price=0)).map zJ)]}]
structure BsI where
 l:List Quote
 s:Int
def y4 (l:List Quote) (s:Int):Quote×Bool:=match l with
 |[]=>(yJo,false)
 |q::r=>(r.foldl (fun b q=>if btr s q.price b.price then q else b) q,true)
def bestQC:Con:=con1 BsI (fun i=>[roV 6 (i.l.map zJ),zA i.s]) (fun _=>[]) (fun i=>(i.s=1∨i.s=2)∧i.l.length≤1000000) (fun i=> .tup [zVy (y4 i.l i.s).1,yM (y4 i.l i.s).2]) (fun _=>[])
def yJv (i:BsI):List SAnn:=[{ι:=Nat,slots:=fun k=>[(6,.nm 0 0),(26,zA k)],rows:=fun k=>[.cells (zVy (y4 (i.l.take (max k 1)) i.s).1).cl 257]}]
open Go Cv Go.Proofs
def aG (a:fN):Prop:=AObj.fro 6 (List.map z7 a.tops)=AObj.fro 6 (List.map z7 a.tops)∧Sx.AObj.cells [V.d (D.v (Value.string (sb a.p.code))),V.own 0,V.d (dI a.p.tick),V.d (dI a.p.low),V.d (dI a.p.high),V.d (dI a.p.wide),V.d (dI a.p.rule),V.d (dI a.p.top),V.d (dI a.p.least),V.d (dI a.p.part),V.own ((0:Nat)+(1:Nat))] 26=Sx.AObj.cells [V.d (D.v (Value.string (sb a.p.code))),V.own 0,V.d (dI a.p.tick),V.d (dI a.p.low),V.d (dI a.p.high),V.d (dI a.p.wide),V.d (dI a.p.rule),V.d (dI a.p.top),V.d (dI a.p.least),V.d (dI a.p.part),V.own ((0:Nat)+(1:Nat))] 26∧AObj.fro 1 (iE a.p.settle)=AObj.fro 1 (iE a.p.settle)∧AObj.fro 1 (iE a.p.months)=AObj.fro 1 (iE a.p.months)
def zBk (a:Nat→Prop) (b:Nat) (c:Nat→Nat) (d:Nat) (e:fN):Prop:=a b∧c b<c d∧AObj.fro 6 (List.map z7 e.tops)=AObj.fro 6 (List.map z7 e.tops)∧aG e
def zAe (a:Nat→Prop) (b:Nat) (c:Nat→Nat) (d:Nat) (e:fN):Prop:=a b∧c b<c d∧aG e
def fE (a:Top):Prop:=((-9223372036854775808)≤a.p1∧a.p1≤9223372036854775807)∧(-9223372036854775808)≤a.p2∧a.p2≤9223372036854775807
def hY (a:MkJ):Prop:=0≤a.i.a∧a.i.a<(↑a.i.tops.length:Int)∧0≤a.i.b∧a.i.b<(↑a.i.tops.length:Int)∧(a.i.tops.length≤1000000∧∀(b:Top),b∈a.i.tops→fE b)∧a.i.out.length≤1000
def vK (a:MkJ):=(a.i.out++mkq a.i.tops (Leg.mk a.i.a (zC a.sa)) (Leg.mk a.i.b (zC a.sb)) a.i.less)
def tJ (a:Nat) (b:MkJ):=(decide ((↑a:Int)<(↑(List.map zJ (vK b)).length:Int)))
def xY (a:pE):Prop:=a.p.code.length≤1099511627776∧a.p.months.length≤1099511627776∧a.p.settle.length≤1099511627776
def kL (a:fX):Prop:=a.p.code.length≤1099511627776∧a.p.months.length≤1099511627776∧a.p.settle.length≤1099511627776
def aJ (a:fN) (b:Nat):=(List.map (f9 a 1) (List.take b (yN a 1))++List.drop b (yN a 1))
def tH (a:fN) (b:Nat):=(List.map zJ (aJ a b))
def aQ (a:fN) (b:Nat):=(kG a 1 (a.p.months.length-(a.inst.toNat+1))++jN a 1 b)
def wG (a:fX):=((a.p.legs a.n).snd.fst)
def yGz (i:fN):Prop:=
 ∃(a:Prd),sb a.code=sb i.p.code∧iE a.months=iE i.p.months∧a.tick=i.p.tick∧a.low=i.p.low∧a.high=i.p.high∧a.wide=i.p.wide∧a.rule=i.p.rule∧a.top=i.p.top∧a.least=i.p.least∧a.part=i.p.part∧iE a.settle=iE i.p.settle∧(zY a)∧∀(b:Unit),True→cnd ((↑a.count:Int)==0) (∃(c:Unit),List.map zJ (qU i 1)=[]∧True) (cnd ((↑(List.map z7 i.tops).length:Int) !=(↑a.count:Int)) (∃(c:Unit),List.map zJ (qU i 1)=[]∧True) (cnd (decide (i.inst<0)) (∃(c:Unit),List.map zJ (qU i 1)=[]∧True) (cnd (decide (i.inst≥(↑a.count:Int))) (∃(c:Unit),List.map zJ (qU i 1)=[]∧True) (∃(c:fX),sb c.p.code=sb i.p.code∧iE c.p.months=iE i.p.months∧c.p.tick=i.p.tick∧c.p.low=i.p.low∧c.p.high=i.p.high∧c.p.wide=i.p.wide∧c.p.rule=i.p.rule∧c.p.top=i.p.top∧c.p.least=i.p.least∧c.p.part=i.p.part∧iE c.p.settle=iE i.p.settle∧c.n=i.inst∧(kL c)∧∀(d:Unit),True→cnd (c.p.legs c.n).snd.snd (∃(e:Int),e=1∧(e=1∨e=2)∧∀(f:Unit),True→∃(g:MkJ),g.i.a=(c.p.legs c.n).snd.fst∧zC g.sa=3-e∧g.i.b=(c.p.legs c.n).fst∧zC g.sb=1∧g.i.less=true∧AObj.fro 6 (List.map z7 g.i.tops)=AObj.fro 6 (List.map z7 i.tops)∧List.map zJ g.i.out=[]∧(hY g)∧∀(h:Unit),True→∃(j:Nat),(↑j:Int)=0∧AObj.fro 6 (List.map z7 i.tops)=AObj.fro 6 (List.map z7 g.i.tops)∧List.map zJ (aJ i j)=List.map zJ (vK g)∧∃(k:Nat→Prop),∃(l:Nat→Nat),k j∧∀(m:Nat),k m→cnd (tJ m g) ((0≤(↑m:Int)∧(↑m:Int)<(↑(tH i m).length:Int))∧(↑m:Int).toNat<(tH i m).length∧∃(n:Nat),(↑n:Int)=IntKind.i64.wrap ((↑m:Int)+1)∧AObj.fro 6 (List.map z7 i.tops)=AObj.fro 6 (List.map z7 i.tops)∧List.map zJ (aJ i n)=yC (tH i m) (↑m:Int).toNat ((0:Nat)+(2:Nat)) [dI ((c.p.legs c.n).fst),dI 1,dI (wG c),dI (3-e)]∧k n∧l n<l m∧AObj.fro 6 (List.map z7 g.i.tops)=AObj.fro 6 (List.map z7 g.i.tops)∧Sx.AObj.cells [V.d (dI (wG c)),V.d (dI (3-e))] 254=Sx.AObj.cells [V.d (dI (wG c)),V.d (dI (3-e))] 254∧Sx.AObj.cells [V.d (dI ((c.p.legs c.n).fst)),V.d (dI 1)] 254=Sx.AObj.cells [V.d (dI ((c.p.legs c.n).fst)),V.d (dI 1)] 254∧aG i) (∃(n:Unit),List.map zJ (qU i 1)=List.map zJ (aJ i m)∧True)) (∃(e:Nat),i.inst+1+(↑e:Int)=IntKind.i64.wrap (i.inst+1)∧AObj.fro 6 (List.map z7 i.tops)=AObj.fro 6 (List.map z7 i.tops)∧List.map zJ (kG i 1 e)=[]∧∃(f:Nat→Prop),∃(g:Nat→Nat),f e∧∀(h:Nat),f h→cnd (decide (i.inst+1+(↑h:Int)<(↑(iE i.p.months).length:Int))) (∃(j:pE),sb j.p.code=sb i.p.code∧iE j.p.months=iE i.p.months∧j.p.tick=i.p.tick∧j.p.low=i.p.low∧j.p.high=i.p.high∧j.p.wide=i.p.wide∧j.p.rule=i.p.rule∧j.p.top=i.p.top∧j.p.least=i.p.least∧j.p.part=i.p.part∧iE j.p.settle=iE i.p.settle∧j.a=i.inst∧j.b=i.inst+1+(↑h:Int)∧(xY j)∧∀(k:Unit),True→∃(l:MkJ),l.i.a=(j.p.spread j.a j.b).fst∧zC l.sa=1∧l.i.b=i.inst+1+(↑h:Int)∧zC l.sb=1∧l.i.less=false∧AObj.fro 6 (List.map z7 l.i.tops)=AObj.fro 6 (List.map z7 i.tops)∧List.map zJ l.i.out=List.map zJ (kG i 1 h)∧(hY l)∧∀(m:Unit),True→∃(n:Nat),i.inst+1+(↑n:Int)=IntKind.i64.wrap (i.inst+1+(↑h:Int)+1)∧AObj.fro 6 (List.map z7 i.tops)=AObj.fro 6 (List.map z7 l.i.tops)∧List.map zJ (kG i 1 n)=List.map zJ (vK l)∧zAe f n g h i) (∃(j:Nat),(↑j:Int)=0∧AObj.fro 6 (List.map z7 i.tops)=AObj.fro 6 (List.map z7 i.tops)∧List.map zJ (aQ i j)=List.map zJ (kG i 1 h)∧∃(k:Nat→Prop),∃(l:Nat→Nat),k j∧∀(m:Nat),k m→cnd (decide ((↑m:Int)<i.inst)) (∃(n:pE),sb n.p.code=sb i.p.code∧iE n.p.months=iE i.p.months∧n.p.tick=i.p.tick∧n.p.low=i.p.low∧n.p.high=i.p.high∧n.p.wide=i.p.wide∧n.p.rule=i.p.rule∧n.p.top=i.p.top∧n.p.least=i.p.least∧n.p.part=i.p.part∧iE n.p.settle=iE i.p.settle∧n.a=(↑m:Int)∧n.b=i.inst∧(xY n)∧∀(p:Unit),True→∃(q:Int),q=1∧(q=1∨q=2)∧∀(r:Unit),True→∃(s:MkJ),s.i.a=(n.p.spread n.a n.b).fst∧zC s.sa=3-q∧s.i.b=(↑m:Int)∧zC s.sb=1∧s.i.less=true∧AObj.fro 6 (List.map z7 s.i.tops)=AObj.fro 6 (List.map z7 i.tops)∧List.map zJ s.i.out=List.map zJ (aQ i m)∧(hY s)∧∀(t:Unit),True→∃(u:Nat),(↑u:Int)=IntKind.i64.wrap ((↑m:Int)+1)∧AObj.fro 6 (List.map z7 i.tops)=AObj.fro 6 (List.map z7 s.i.tops)∧List.map zJ (aQ i u)=List.map zJ (vK s)∧zBk k u l m i) (∃(n:Unit),List.map zJ (qU i 1)=List.map zJ (aQ i m)∧True)))))))
def aO (a:fN) (b:Nat):=(List.map (f9 a 2) (List.take b (yN a 2))++List.drop b (yN a 2))
def sZ (a:fN) (b:Nat):=(List.map zJ (aO a b))
def aF (a:fN) (b:Nat):=(kG a 2 (a.p.months.length-(a.inst.toNat+1))++jN a 2 b)
def yFv (i:fN):Prop:=
 ∃(a:Prd),sb a.code=sb i.p.code∧iE a.months=iE i.p.months∧a.tick=i.p.tick∧a.low=i.p.low∧a.high=i.p.high∧a.wide=i.p.wide∧a.rule=i.p.rule∧a.top=i.p.top∧a.least=i.p.least∧a.part=i.p.part∧iE a.settle=iE i.p.settle∧(zY a)∧∀(b:Unit),True→cnd ((↑a.count:Int)==0) (∃(c:Unit),List.map zJ (qU i 2)=[]∧True) (cnd ((↑(List.map z7 i.tops).length:Int) !=(↑a.count:Int)) (∃(c:Unit),List.map zJ (qU i 2)=[]∧True) (cnd (decide (i.inst<0)) (∃(c:Unit),List.map zJ (qU i 2)=[]∧True) (cnd (decide (i.inst≥(↑a.count:Int))) (∃(c:Unit),List.map zJ (qU i 2)=[]∧True) (∃(c:fX),sb c.p.code=sb i.p.code∧iE c.p.months=iE i.p.months∧c.p.tick=i.p.tick∧c.p.low=i.p.low∧c.p.high=i.p.high∧c.p.wide=i.p.wide∧c.p.rule=i.p.rule∧c.p.top=i.p.top∧c.p.least=i.p.least∧c.p.part=i.p.part∧iE c.p.settle=iE i.p.settle∧c.n=i.inst∧(kL c)∧∀(d:Unit),True→cnd (c.p.legs c.n).snd.snd (∃(e:Int),e=2∧(e=1∨e=2)∧∀(f:Unit),True→∃(g:MkJ),g.i.a=(c.p.legs c.n).snd.fst∧zC g.sa=3-e∧g.i.b=(c.p.legs c.n).fst∧zC g.sb=2∧g.i.less=true∧AObj.fro 6 (List.map z7 g.i.tops)=AObj.fro 6 (List.map z7 i.tops)∧List.map zJ g.i.out=[]∧(hY g)∧∀(h:Unit),True→∃(j:Nat),(↑j:Int)=0∧AObj.fro 6 (List.map z7 i.tops)=AObj.fro 6 (List.map z7 g.i.tops)∧List.map zJ (aO i j)=List.map zJ (vK g)∧∃(k:Nat→Prop),∃(l:Nat→Nat),k j∧∀(m:Nat),k m→cnd (tJ m g) ((0≤(↑m:Int)∧(↑m:Int)<(↑(sZ i m).length:Int))∧(↑m:Int).toNat<(sZ i m).length∧∃(n:Nat),(↑n:Int)=IntKind.i64.wrap ((↑m:Int)+1)∧AObj.fro 6 (List.map z7 i.tops)=AObj.fro 6 (List.map z7 i.tops)∧List.map zJ (aO i n)=yC (sZ i m) (↑m:Int).toNat ((0:Nat)+(2:Nat)) [dI ((c.p.legs c.n).fst),dI 2,dI (wG c),dI (3-e)]∧k n∧l n<l m∧AObj.fro 6 (List.map z7 g.i.tops)=AObj.fro 6 (List.map z7 g.i.tops)∧Sx.AObj.cells [V.d (dI (wG c)),V.d (dI (3-e))] 254=Sx.AObj.cells [V.d (dI (wG c)),V.d (dI (3-e))] 254∧Sx.AObj.cells [V.d (dI ((c.p.legs c.n).fst)),V.d (dI 2)] 254=Sx.AObj.cells [V.d (dI ((c.p.legs c.n).fst)),V.d (dI 2)] 254∧aG i) (∃(n:Unit),List.map zJ (qU i 2)=List.map zJ (aO i m)∧True)) (∃(e:Nat),i.inst+1+(↑e:Int)=IntKind.i64.wrap (i.inst+1)∧AObj.fro 6 (List.map z7 i.tops)=AObj.fro 6 (List.map z7 i.tops)∧List.map zJ (kG i 2 e)=[]∧∃(f:Nat→Prop),∃(g:Nat→Nat),f e∧∀(h:Nat),f h→cnd (decide (i.inst+1+(↑h:Int)<(↑(iE i.p.months).length:Int))) (∃(j:pE),sb j.p.code=sb i.p.code∧iE j.p.months=iE i.p.months∧j.p.tick=i.p.tick∧j.p.low=i.p.low∧j.p.high=i.p.high∧j.p.wide=i.p.wide∧j.p.rule=i.p.rule∧j.p.top=i.p.top∧j.p.least=i.p.least∧j.p.part=i.p.part∧iE j.p.settle=iE i.p.settle∧j.a=i.inst∧j.b=i.inst+1+(↑h:Int)∧(xY j)∧∀(k:Unit),True→∃(l:MkJ),l.i.a=(j.p.spread j.a j.b).fst∧zC l.sa=2∧l.i.b=i.inst+1+(↑h:Int)∧zC l.sb=2∧l.i.less=false∧AObj.fro 6 (List.map z7 l.i.tops)=AObj.fro 6 (List.map z7 i.tops)∧List.map zJ l.i.out=List.map zJ (kG i 2 h)∧(hY l)∧∀(m:Unit),True→∃(n:Nat),i.inst+1+(↑n:Int)=IntKind.i64.wrap (i.inst+1+(↑h:Int)+1)∧AObj.fro 6 (List.map z7 i.tops)=AObj.fro 6 (List.map z7 l.i.tops)∧List.map zJ (kG i 2 n)=List.map zJ (vK l)∧zAe f n g h i) (∃(j:Nat),(↑j:Int)=0∧AObj.fro 6 (List.map z7 i.tops)=AObj.fro 6 (List.map z7 i.tops)∧List.map zJ (aF i j)=List.map zJ (kG i 2 h)∧∃(k:Nat→Prop),∃(l:Nat→Nat),k j∧∀(m:Nat),k m→cnd (decide ((↑m:Int)<i.inst)) (∃(n:pE),sb n.p.code=sb i.p.code∧iE n.p.months=iE i.p.months∧n.p.tick=i.p.tick∧n.p.low=i.p.low∧n.p.high=i.p.high∧n.p.wide=i.p.wide∧n.p.rule=i.p.rule∧n.p.top=i.p.top∧n.p.least=i.p.least∧n.p.part=i.p.part∧iE n.p.settle=iE i.p.settle∧n.a=(↑m:Int)∧n.b=i.inst∧(xY n)∧∀(p:Unit),True→∃(q:Int),q=2∧(q=1∨q=2)∧∀(r:Unit),True→∃(s:MkJ),s.i.a=(n.p.spread n.a n.b).fst∧zC s.sa=3-q∧s.i.b=(↑m:Int)∧zC s.sb=2∧s.i.less=true∧AObj.fro 6 (List.map z7 s.i.tops)=AObj.fro 6 (List.map z7 i.tops)∧List.map zJ s.i.out=List.map zJ (aF i m)∧(hY s)∧∀(t:Unit),True→∃(u:Nat),(↑u:Int)=IntKind.i64.wrap ((↑m:Int)+1)∧AObj.fro 6 (List.map z7 i.tops)=AObj.fro 6 (List.map z7 s.i.tops)∧List.map zJ (aF i u)=List.map zJ (vK s)∧zBk k u l m i) (∃(n:Unit),List.map zJ (qU i 2)=List.map zJ (aF i m)∧True)))))))
def kR (a:tX):=(List.map zJ (qU a.i (zC a.s)))
def eF (a:Nat→Prop) (b:Nat) (c:Nat→Nat) (d:Nat) (e:tX) (f:tX):Prop:=a b∧c b<c d∧AObj.own 257 6 (kR e)=AObj.own 257 6 (kR e)∧Sx.AObj.cells [V.d (D.v (Value.string (sb f.i.p.code))),V.own 0,V.d (dI f.i.p.tick),V.d (dI f.i.p.low),V.d (dI f.i.p.high),V.d (dI f.i.p.wide),V.d (dI f.i.p.rule),V.d (dI f.i.p.top),V.d (dI f.i.p.least),V.d (dI f.i.p.part),V.own ((0:Nat)+(1:Nat))] 26=Sx.AObj.cells [V.d (D.v (Value.string (sb f.i.p.code))),V.own 0,V.d (dI f.i.p.tick),V.d (dI f.i.p.low),V.d (dI f.i.p.high),V.d (dI f.i.p.wide),V.d (dI f.i.p.rule),V.d (dI f.i.p.top),V.d (dI f.i.p.least),V.d (dI f.i.p.part),V.own ((0:Nat)+(1:Nat))] 26∧AObj.fro 1 (iE f.i.p.settle)=AObj.fro 1 (iE f.i.p.settle)∧AObj.fro 1 (iE f.i.p.months)=AObj.fro 1 (iE f.i.p.months)
def wX (a:tX):Prop:=(a.i.p.code.length≤1099511627776∧a.i.p.months.length≤1099511627776∧a.i.p.settle.length≤1099511627776)∧a.i.tops.length≤1000000∧∀(b:Top),b∈a.i.tops→fE b
def uW (a:tX):=(↑(kR a).length:Int)
def z0u (j:tX):Prop:=
 ∃(a:tX),sb a.i.p.code=sb j.i.p.code∧iE a.i.p.months=iE j.i.p.months∧a.i.p.tick=j.i.p.tick∧a.i.p.low=j.i.p.low∧a.i.p.high=j.i.p.high∧a.i.p.wide=j.i.p.wide∧a.i.p.rule=j.i.p.rule∧a.i.p.top=j.i.p.top∧a.i.p.least=j.i.p.least∧a.i.p.part=j.i.p.part∧iE a.i.p.settle=iE j.i.p.settle∧List.map z7 a.i.tops=List.map z7 j.i.tops∧a.i.inst=j.i.inst∧zC a.s=zC j.s∧(wX a)∧∀(b:Unit),True→∃(c:Nat),(↑c:Int)=0∧List.map zJ (List.filter (fun(q:Sx.Quote) ↦ decide (j.i.p.price j.i.inst q.price=0)) (List.take c (qU j.i (zC j.s))))=[]∧∃(d:Nat→Prop),∃(e:Nat→Nat),d c∧∀(f:Nat),d f→cnd (decide ((↑f:Int)<(uW a))) ((0≤(↑f:Int)∧(↑f:Int)<(uW a))∧∃(g:Int),∃(h:Int),∃(k:Int),∃(l:Int),∃(m:Int),∃(n:Int),zE (kR a) (↑f:Int).toNat 0 6=some [dI g,dI h,dI k,dI l,dI m,dI n]∧∃(p:pE),sb p.p.code=sb j.i.p.code∧iE p.p.months=iE j.i.p.months∧p.p.tick=j.i.p.tick∧p.p.low=j.i.p.low∧p.p.high=j.i.p.high∧p.p.wide=j.i.p.wide∧p.p.rule=j.i.p.rule∧p.p.top=j.i.p.top∧p.p.least=j.i.p.least∧p.p.part=j.i.p.part∧iE p.p.settle=iE j.i.p.settle∧p.a=j.i.inst∧p.b=g∧(xY p)∧∀(q:Unit),True→cnd (p.p.price p.a p.b==0) (((List.map zJ (List.filter (fun(q:Sx.Quote) ↦ decide (j.i.p.price j.i.inst q.price=0)) (List.take f (qU j.i (zC j.s))))).length+1)*(48:Nat)≤(70368744177664:Nat)∧∃(r:Nat),(↑r:Int)=IntKind.i64.wrap ((↑f:Int)+1)∧List.map zJ (List.filter (fun(q:Sx.Quote) ↦ decide (j.i.p.price j.i.inst q.price=0)) (List.take r (qU j.i (zC j.s))))=List.map zJ (List.filter (fun(q:Sx.Quote) ↦ decide (j.i.p.price j.i.inst q.price=0)) (List.take f (qU j.i (zC j.s))))++[[dI g,dI h,dI k,dI l,dI m,dI n]]∧eF d r e f a j) (∃(r:Nat),(↑r:Int)=IntKind.i64.wrap ((↑f:Int)+1)∧List.map zJ (List.filter (fun(q:Sx.Quote) ↦ decide (j.i.p.price j.i.inst q.price=0)) (List.take r (qU j.i (zC j.s))))=List.map zJ (List.filter (fun(q:Sx.Quote) ↦ decide (j.i.p.price j.i.inst q.price=0)) (List.take f (qU j.i (zC j.s))))∧eF d r e f a j)) (∃(g:Unit),List.map zJ (wM j.i (zC j.s))=List.map zJ (List.filter (fun(q:Sx.Quote) ↦ decide (j.i.p.price j.i.inst q.price=0)) (List.take f (qU j.i (zC j.s))))∧True)
def eA (a:Nat→Prop) (b:Nat) (c:Nat→Nat) (d:Nat):Prop:=a b∧c b<c d∧Sx.AObj.cells (Sx.V.agg [V.d (dI 0),V.d (dI 0),V.d (dI 0),V.d (dI 0),V.d (dI 0),V.d (dI 0)]).cl 257=Sx.AObj.cells (Sx.V.agg [V.d (dI 0),V.d (dI 0),V.d (dI 0),V.d (dI 0),V.d (dI 0),V.d (dI 0)]).cl 257
def z5 (a:Nat) (b:BsI):=(y4 (List.take (max a 1) b.l) b.s)
def dZ (a:BsI):=(↑(List.map zJ a.l).length:Int)
def zGp (a:BsI):Prop:=((0:Int)≤(0:Int)∧0<(dZ a))∧∃(b:Int),∃(c:Int),∃(d:Int),∃(e:Int),∃(f:Int),∃(g:Int),zE (List.map zJ a.l) (Int.toNat 0) 0 6=some [dI b,dI c,dI d,dI e,dI f,dI g]∧∃(h:Nat),(↑h:Int)=0∧(z5 h a).fst.price=b∧(z5 h a).fst.qty=c∧(z5 h a).fst.a.inst=d∧(z5 h a).fst.a.side=e∧(z5 h a).fst.b.inst=f∧(z5 h a).fst.b.side=g∧∃(j:Nat→Prop),∃(k:Nat→Nat),j h∧∀(l:Nat),j l→cnd (decide ((↑l:Int)<(dZ a))) ((0≤(↑l:Int)∧(↑l:Int)<(dZ a))∧∃(m:Int),∃(n:Int),∃(p:Int),∃(q:Int),∃(r:Int),∃(s:Int),zE (List.map zJ a.l) (↑l:Int).toNat 0 6=some [dI m,dI n,dI p,dI q,dI r,dI s]∧∃(t:I3'),t.side=a.s∧t.x=m∧t.y=(z5 l a).fst.price∧True∧∀(u:Unit),True→cnd (btr t.side t.x t.y) (∃(v:Nat),(↑v:Int)=IntKind.i64.wrap ((↑l:Int)+1)∧(z5 v a).fst.price=m∧(z5 v a).fst.qty=n∧(z5 v a).fst.a.inst=p∧(z5 v a).fst.a.side=q∧(z5 v a).fst.b.inst=r∧(z5 v a).fst.b.side=s∧eA j v k l) (∃(v:Nat),(↑v:Int)=IntKind.i64.wrap ((↑l:Int)+1)∧(z5 v a).fst.price=(z5 l a).fst.price∧(z5 v a).fst.qty=(z5 l a).fst.qty∧(z5 v a).fst.a.inst=(z5 l a).fst.a.inst∧(z5 v a).fst.a.side=(z5 l a).fst.a.side∧(z5 v a).fst.b.inst=(z5 l a).fst.b.inst∧(z5 v a).fst.b.side=(z5 l a).fst.b.side∧eA j v k l)) (∃(m:Unit),(y4 a.l a.s).fst.price=(z5 l a).fst.price∧(y4 a.l a.s).fst.qty=(z5 l a).fst.qty∧(y4 a.l a.s).fst.a.inst=(z5 l a).fst.a.inst∧(y4 a.l a.s).fst.a.side=(z5 l a).fst.a.side∧(y4 a.l a.s).fst.b.inst=(z5 l a).fst.b.inst∧(y4 a.l a.s).fst.b.side=(z5 l a).fst.b.side∧(y4 a.l a.s).snd=true∧True)
def lM (a:BsI):Prop:=∃(b:Unit),(y4 a.l a.s).fst.price=0∧(y4 a.l a.s).fst.qty=0∧(y4 a.l a.s).fst.a.inst=0∧(y4 a.l a.s).fst.a.side=0∧(y4 a.l a.s).fst.b.inst=0∧(y4 a.l a.s).fst.b.side=0∧(y4 a.l a.s).snd=false∧True
def z9p (i:BsI):Prop:=
 cnd ((dZ i)==0) (lM i) (cnd (i.s !=1) (cnd (i.s !=2) (lM i) (zGp i)) (zGp i))
open Go Cv Go.Proofs
theorem zVw {l:List Quote} {q:Quote} (s:Int) (h:l[0]? =some q):(y4 (l.take (max 0 1)) s).1=q:=by
 cases l with
 |nil=>simp at h
 |cons a l=>simp at h;subst h;rfl
theorem zXx {l:List Quote} {j:Nat} {q:Quote} (s:Int) (h:l[j]? =some q):
 (y4 (l.take (max (j+1) 1)) s).1=if btr s q.price (y4 (l.take (max j 1)) s).1.price then q else(y4 (l.take (max j 1)) s).1:=by
 cases l with
 |nil=>simp at h
 |cons a l=>
  cases j with
  |zero=>simp at h;subst h;simp[y4]
  |succ m=>
   simp only[ySw]at h
   rw[show max (m+1+1) 1=(m+1)+1 by omega,show max (m+1) 1=m+1 by omega,ySp,ySp,ySz,h]
   simp only[y4,yVh,List.foldl_append]
   rfl
theorem z2s {l:List Quote} (s:Int) (h:l≠[]):(y4 l s).2=true:=by
 cases l with
 |nil=>exact absurd rfl h
 |cons a l=>rfl
theorem yHt (i:BsI) (h:bestQC.cnd i):z9p i:=by
 obtain⟨hs,hl⟩:(i.s=1∨i.s=2)∧i.l.length≤1000000:=h
 unfold z9p zGp z5 eA dZ lM dI
 simp only[yRg]
 refine Cv.cnd.mk (fun c=> ?_) (fun c=> ?_)
 ·have e:i.l=[]:=ySe (by have:(i.l.length:Int)=0:=(by simpa using c);omega)
  rw[e];exact kp
 have h0:0<i.l.length:=by
  rcases Nat.eq_zero_or_pos i.l.length with h|h
  ·rw[h]at c;exact absurd c (by decide)
  ·exact h
 have hne:i.l≠[]:=by intro e;rw[e]at h0;simp at h0
 have two:=z2s i.s hne
 obtain⟨q,hq⟩:=yD h0
 have b0:=zVw i.s hq
 have fin:(y4 (i.l.take (max i.l.length 1)) i.s).1=(y4 i.l i.s).1:=by
  rw[yRw (by omega)]
 have step:∀j:Nat,j<i.l.length→∀x:Quote,i.l[j]? =some x→(btr i.s x.price (y4 (i.l.take (max j 1)) i.s).1.price=true→(y4 (i.l.take (max (j+1) 1)) i.s).1=x)∧(btr i.s x.price (y4 (i.l.take (max j 1)) i.s).1.price=false→(y4 (i.l.take (max (j+1) 1)) i.s).1=(y4 (i.l.take (max j 1)) i.s).1):=fun j hj x hx=>by
  have:=zXx i.s hx
  constructor
  ·intro e;rw[this,yRe e]
  ·intro e;rw[this,yRd (by rw[e];simp)]
 refine Cv.cnd.mk (fun c1=>Cv.cnd.mk (fun c2=> ?_) (fun c2=> ?_)) (fun c1=> ?_)
 ·exfalso
  have c1:i.s≠1:=by simpa using c1
  have c2:i.s≠2:=by simpa using c2
  omega
 all_goals
  refine⟨⟨by omega,by omega⟩,q.price,q.qty,q.a.inst,q.a.side,q.b.inst,q.b.side,elA hq (by simp[zJ]) rfl,0,?_⟩
  rw[b0]
  (repeat'(first|exact rfl|exact trivial|assumption|apply And.intro|refine fun(_:Unit) (_:True)=>?_|refine Exists.intro () ?_|omega|(dsimp only;omega)))
  refine⟨fun j=>j≤i.l.length,fun j=>i.l.length-j,by omega,fun j hj=>zI (fun hlt=> ?_) (fun hlt=> ?_)⟩
  ·have hj':j<i.l.length:=by omega
   obtain⟨x,hx⟩:=yD hj'
   obtain⟨st,sf⟩:=step j hj' x hx
   refine⟨⟨by omega,by omega⟩,x.price,x.qty,x.a.inst,x.a.side,x.b.inst,x.b.side,elA hx (by simp[zJ]) rfl,⟨i.s,x.price,_⟩,rfl,rfl,rfl,trivial,fun _ _=>Cv.cnd.mk (fun e=>⟨j+1,by rw[w64 (by omega)];rfl,?_⟩) (fun e=>⟨j+1,by rw[w64 (by omega)];rfl,?_⟩)⟩
   ·rw[st e];exact kp
   ·rw[sf e];exact kp
  ·have hj:j≤i.l.length:=hj
   obtain rfl:j=i.l.length:=by omega
   rw[fin,two];exact kp
theorem yAp:bestQC.ok Tryz.prog 166:=okw mixed (gokc zWl gok0) 0 (fun _=>[]) (fun i=>yJv i) [] Tryz.func166 yHt
theorem zBl (tops:List Top) (a b:Leg) (less:Bool):(mkq tops a b less).length≤1:=by
 unfold mkq
 dsimp only
 split<;>split<;>simp
theorem zPr {α:Type} {f:Nat→List α} (h:∀k,(f k).length≤1):∀n,((List.range n).flatMap f).length≤n
 |0=>by simp
 |n+1=>by
  rw[yVn,ySx,yRi]
  have:=zPr h n
  have:=h n
  simp only[ySt,yVz,ySa]
  omega
theorem lJ (i:fN) (s:Int) (k:Nat):(kG i s k).length≤k:=zPr (fun _=>zBl _ _ _ _) k
theorem mS (i:fN) (s:Int) (k:Nat):(jN i s k).length≤k:=zPr (fun _=>zBl _ _ _ _) k
theorem zIx (i:fN) (s:Int):(qU i s).length≤100:=by
 unfold qU
 split
 ·simp
 ·rename_i h
  have hc:=xQ i.p
  have m6:=(kI (pS (p:=i.p) (by omega))).m6
  split
  ·rw[yRg]
   have:=zBl i.tops ⟨(i.p.legs i.inst).2.1,3-s⟩ ⟨(i.p.legs i.inst).1,s⟩ true
   have e:(yN i s).length≤1:=this
   omega
  ·rw[yRi]
   have h1:=lJ i s (i.p.months.length-(i.inst.toNat+1))
   have h2:=mS i s i.inst.toNat
   omega
theorem yDk (j:tX) (h:quotesC.cnd j):z0u j:=by
 unfold z0u eF uW kR wX fE xY dI
 obtain⟨hp,ht,hr⟩:j.i.p.small∧vD j.i.tops:=h
 obtain⟨h1,h2,h3⟩:=hp
 have hl:=zIx j.i (zC j.s)
 refine⟨j,?_⟩
 simp only[yRg]
 (repeat'(first|exact rfl|exact trivial|assumption|apply And.intro|refine fun(_:Unit) (_:True)=>?_|refine Exists.intro () ?_|omega|(dsimp only;omega)))
 refine⟨0,rfl,rfl,fun k=>k≤(qU j.i (zC j.s)).length,fun k=>(qU j.i (zC j.s)).length-k,by omega,fun k hk=>zI (fun hlt=> ?_) (fun hlt=> ?_)⟩
 ·have hk':k<(qU j.i (zC j.s)).length:=by omega
  obtain⟨q,hq⟩:=yD hk'
  have hf:(List.filter (fun q=>decide (j.i.p.price j.i.inst q.price=0)) (List.take k (qU j.i (zC j.s)))).length≤100:=by
   have:=yUp (fun q:Quote=>decide (j.i.p.price j.i.inst q.price=0)) (List.take k (qU j.i (zC j.s)))
   rw[yRz]at this
   omega
  refine⟨⟨by omega,by omega⟩,q.price,q.qty,q.a.inst,q.a.side,q.b.inst,q.b.side,elA hq (by simp[zJ]) rfl,⟨j.i.p,j.i.inst,q.price⟩,?_⟩
  (repeat'(first|exact rfl|exact trivial|assumption|apply And.intro|refine fun(_:Unit) (_:True)=>?_|refine Exists.intro () ?_|omega|(dsimp only;omega)))
  refine Cv.cnd.mk (fun c=>⟨by omega,k+1,by rw[w64 (by omega)];rfl,?_⟩) (fun c=>⟨k+1,by rw[w64 (by omega)];rfl,?_⟩)
  ·have c:j.i.p.price j.i.inst q.price=0:=by simpa using c
   rw[ySz,hq,yVh,yUt,yVr (by simpa using c),yRm]
   exact kp
  ·have c:¬j.i.p.price j.i.inst q.price=0:=by simpa using c
   rw[ySz,hq,yVh,yUt,yVs (by simpa using c),List.filter_nil,ySa]
   exact kp
 ·have hk:k≤(qU j.i (zC j.s)).length:=hk
  obtain rfl:k=(qU j.i (zC j.s)).length:=by omega
  rw[yRw (ySk _)]
  exact kp
open Go Cv Go.Proofs
theorem z3u:∀n≤6,∀a<n,∀b<n,a<b→0≤(yH n a:Int)+b-a-1∧(yH n a:Int)+b-a-1<((n+n*(n-1) / 2:Nat):Int):=by decide
theorem dO {p:Prd} (hc:p.check=0) {a b:Nat} (hab:a<b) (hb:b<p.months.length):0≤(p.spread a b).1∧(p.spread a b).1<p.count:=by
 have m6:=(kI hc).m6
 have:=z3u p.months.length m6 a (by omega) b hb hab
 rw[Prd.spread,yRd (by omega),Prd.count,yRe hc]
 simpa using this
theorem yEz:∀n≤6,∀k<n+n*(n-1) / 2,n≤k→(kC n k n 0).2.2=true∧0≤(kC n k n 0).1∧(kC n k n 0).1<n∧0≤(kC n k n 0).2.1∧(kC n k n 0).2.1<n:=by decide
theorem uZ {p:Prd} (hc:p.check=0) {k:Nat} (hk:k<p.count):((p.legs k).2.2=true∧0≤(p.legs k).1∧(p.legs k).1<p.months.length∧0≤(p.legs k).2.1∧(p.legs k).2.1<p.months.length)∨((p.legs k).2.2=false∧k<p.months.length):=by
 have m6:=(kI hc).m6
 have hk':=hk
 rw[Prd.count,yRe hc]at hk'
 by_cases h:k<p.months.length
 ·right
  rw[Prd.legs,yRd (by omega),yRe (by omega)]
  exact⟨rfl,h⟩
 ·left
  rw[Prd.legs,yRd (by omega),yRd (by omega)]
  exact yEz p.months.length m6 k hk' (by omega)
theorem zBt {p:Prd} (hc:p.check=0):p.months.length≤p.count:=by
 rw[Prd.count,yRe hc];omega
theorem zSx {i:fN} {s:Int} {k:Nat} (hk:k<(yN i s).length):List.map zJ (List.map (f9 i s) (List.take (k+1) (yN i s))++List.drop (k+1) (yN i s))=
 yC (List.map zJ (List.map (f9 i s) (List.take k (yN i s))++List.drop k (yN i s))) k (0+2) [D.v (.int .i64 (i.p.legs i.inst).1),D.v (.int .i64 s),D.v (.int .i64 (i.p.legs i.inst).2.1),D.v (.int .i64 (3-s))]:=by
 obtain⟨q,hq⟩:=yD hk
 rw[zMv (a:=List.map zJ (List.map (f9 i s) (List.take k (yN i s)))) (b:=List.map zJ (List.drop (k+1) (yN i s))) (x:=zJ q) (y:=zJ (f9 i s q)) (by
  rw[yRm,yTp hk,(yRf.1 hq).2,yRs]) (by simp;omega) rfl]
 rw[ySz,hq,yVh,yRm,yRm,yRm,yRs,yUr,yRs,yUr,yRn]
 rfl
theorem yOr (i:fN) (h:all1C.cnd i):yGz i:=by
 unfold yGz zY zAe zBk aG wG aQ tH aJ kL xY tJ vK hY fE dI
 obtain⟨⟨h1,h2,h3⟩,ht,hr⟩:i.p.small∧vD i.tops:=h
 have hto:vD i.tops:=⟨ht,hr⟩
 refine⟨i.p,?_⟩
 simp only[yRg,yY]
 (repeat'(first|exact rfl|exact trivial|assumption|apply And.intro|refine fun(_:Unit) (_:True)=>?_|refine Exists.intro () ?_|omega|(dsimp only;omega)))
 have bad (hb:i.p.count=0∨(i.tops.length:Int)≠i.p.count∨i.inst<0∨(i.p.count:Int)≤i.inst):∃(o:Unit),List.map zJ (qU i 1)=[]∧True:=⟨(),by rw[qU,yRe hb];rfl,trivial⟩
 refine Cv.cnd.mk (fun c1=>bad (.inl (by have c1:(i.p.count:Int)=0:=(by simpa using c1);omega))) fun c1=>Cv.cnd.mk (fun c2=>bad (.inr (.inl (by simpa using c2)))) fun c2=>zI (fun c3=>bad (by omega)) fun c3=>zI (fun c4=>bad (by omega)) fun c4=>⟨⟨i.p,i.inst⟩,?_⟩
 have c1:i.p.count≠0:=by
  have c1:¬(i.p.count:Int)=0:=(by simpa using c1)
  omega
 have c2:(i.tops.length:Int)=i.p.count:=by simpa using c2
 have c4:i.inst<(i.p.count:Int):=by
  have c4:¬i.inst≥(i.p.count:Int):=c4
  omega
 have hc:=pS c1
 have hm:=zBt hc
 have e0:qU i 1=if(i.p.legs i.inst).2.2 then(yN i 1).map (f9 i 1)else kG i 1 (i.p.months.length-(i.inst.toNat+1))++jN i 1 i.inst.toNat:=by
  rw[qU,yRd (by omega)]
 obtain⟨k,hk⟩:∃k:Nat,i.inst=k:=⟨i.inst.toNat,by omega⟩
 have hl:=uZ hc (k:=k) (by omega)
 rw[← hk]at hl
 (repeat'(first|exact rfl|exact trivial|assumption|apply And.intro|refine fun(_:Unit) (_:True)=>?_|refine Exists.intro () ?_|omega|(dsimp only;omega)))
 refine Cv.cnd.mk (fun c5=> ?_) (fun c5=> ?_)
 ·have c5:(i.p.legs i.inst).2.2=true:=c5
  rw[e0,yRe c5]
  rcases hl with⟨_,l1,l2,l3,l4⟩|⟨l1,_⟩
  ·have hsl:(yN i 1).length≤1:=zBl _ _ _ _
   refine⟨1,rfl,by omega,fun _ _=>⟨⟨⟨i.tops,[],(i.p.legs i.inst).2.1,(i.p.legs i.inst).1,true⟩,true,false⟩,rfl,rfl,rfl,rfl,rfl,rfl,rfl,⟨l3,by dsimp only;omega,l1,by dsimp only;omega,hto,by simp⟩,fun _ _=>⟨0,rfl,rfl,rfl,fun j=>j≤(yN i 1).length,fun j=>(yN i 1).length-j,by omega,?_⟩⟩⟩
   intro j hj
   have hj:j≤(yN i 1).length:=hj
   have hL:(List.map (f9 i 1) (List.take j (yN i 1))++List.drop j (yN i 1)).length=(yN i 1).length:=by simp;omega
   refine zI (fun hlt=> ?_) (fun hlt=> ?_)
   ·have hlt:(j:Int)<((yN i 1).length:Int):=hlt
    refine⟨⟨by omega,by rw[hL];omega⟩,by rw[hL];omega,j+1,by rw[w64 (by omega)];rfl,kp,?_,?_⟩
    ·exact zSx (i:=i) (s:=1) (by omega)
    ·exact kp
   ·have hlt:¬(j:Int)<((yN i 1).length:Int):=hlt
    obtain rfl:j=(yN i 1).length:=by omega
    rw[yRw (ySk _),List.drop_length,ySa]
    exact kp
  ·rw[c5]at l1;cases l1
 ·have c5:(i.p.legs i.inst).2.2=false:=c5
  rw[e0,yRd (by rw[c5];simp)]
  rcases hl with⟨l1,_⟩|⟨_,l2⟩
  ·rw[c5]at l1;cases l1
  have m6:=(kI hc).m6
  have e1:i.inst.toNat=k:=by omega
  rw[e1]
  refine⟨0,by rw[w64 (by omega)];omega,kp,rfl,fun j=>j≤i.p.months.length-(k+1),fun j=>i.p.months.length-(k+1)-j,by omega,?_⟩
  intro j hj
  have hj:j≤i.p.months.length-(k+1):=hj
  have hq:=lJ i 1 j
  refine zI (fun hlt=> ?_) (fun hlt=> ?_)
  ·obtain⟨b1,b2⟩:=dO hc (a:=k) (b:=k+1+j) (by omega) (by omega)
   have eb:((k+1+j:Nat):Int)=i.inst+1+j:=by omega
   rw[eb,← hk]at b1 b2
   refine⟨⟨i.p,i.inst,i.inst+1+j⟩,?_⟩
   (repeat'(first|exact rfl|exact trivial|assumption|apply And.intro|refine fun(_:Unit) (_:True)=>?_|refine Exists.intro () ?_|omega|(dsimp only;omega)))
   refine⟨⟨⟨i.tops,kG i 1 j,(i.p.spread i.inst (i.inst+1+j)).1,i.inst+1+j,false⟩,false,false⟩,rfl,rfl,rfl,rfl,rfl,kp,rfl,⟨b1,by dsimp only;omega,by dsimp only;omega,by dsimp only;omega,hto,by dsimp only;omega⟩,fun _ _=>⟨j+1,by rw[w64 (by omega)];omega,kp,?_,?_⟩⟩
   ·rw[kG,yVn,ySx]
    simp only[ySt,yVz,ySa]
    rfl
   ·exact kp
  ·obtain rfl:j=i.p.months.length-(k+1):=by omega
   refine⟨0,rfl,kp,by rw[jN];simp,fun j=>j≤k,fun j=>k-j,by omega,?_⟩
   intro j hj
   have hj:j≤k:=hj
   have hq2:=mS i 1 j
   refine zI (fun hlt2=> ?_) (fun hlt2=> ?_)
   ·obtain⟨b1,b2⟩:=dO hc (a:=j) (b:=k) (by omega) (by omega)
    rw[← hk]at b1 b2
    refine⟨⟨i.p,j,i.inst⟩,?_⟩
    (repeat'(first|exact rfl|exact trivial|assumption|apply And.intro|refine fun(_:Unit) (_:True)=>?_|refine Exists.intro () ?_|omega|(dsimp only;omega)))
    refine⟨1,rfl,by omega,fun _ _=>⟨⟨⟨i.tops,kG i 1 (i.p.months.length-(k+1))++jN i 1 j,(i.p.spread j i.inst).1,j,true⟩,true,false⟩,rfl,rfl,rfl,rfl,rfl,kp,rfl,⟨b1,by dsimp only;omega,by dsimp only;omega,by dsimp only;omega,hto,by dsimp only;rw[yRi];omega⟩,fun _ _=>⟨j+1,by rw[w64 (by omega)];omega,kp,?_,?_⟩⟩⟩
    ·rw[jN,yVn,ySx]
     simp only[ySt,yVz,ySa,yRn]
     rfl
    ·exact kp
   ·obtain rfl:j=k:=by omega
    exact kp
theorem yDu:all1C.ok Tryz.prog 152:=okw mixed (gokc aC (gokc sD (gokc zMe (gokc zMp (gokc zUo gok0))))) 0 (fun _=>[]) (fun i=>yMo i 1) [] Tryz.func152 yOr
theorem yNj (i:fN) (h:all2C.cnd i):yFv i:=by
 unfold yFv zY aF sZ aO zAe zBk aG wG kL xY tJ vK hY fE dI
 obtain⟨⟨h1,h2,h3⟩,ht,hr⟩:i.p.small∧vD i.tops:=h
 have hto:vD i.tops:=⟨ht,hr⟩
 refine⟨i.p,?_⟩
 simp only[yRg,yY]
 (repeat'(first|exact rfl|exact trivial|assumption|apply And.intro|refine fun(_:Unit) (_:True)=>?_|refine Exists.intro () ?_|omega|(dsimp only;omega)))
 have bad (hb:i.p.count=0∨(i.tops.length:Int)≠i.p.count∨i.inst<0∨(i.p.count:Int)≤i.inst):∃(o:Unit),List.map zJ (qU i 2)=[]∧True:=⟨(),by rw[qU,yRe hb];rfl,trivial⟩
 refine Cv.cnd.mk (fun c1=>bad (.inl (by have c1:(i.p.count:Int)=0:=(by simpa using c1);omega))) fun c1=>Cv.cnd.mk (fun c2=>bad (.inr (.inl (by simpa using c2)))) fun c2=>zI (fun c3=>bad (by omega)) fun c3=>zI (fun c4=>bad (by omega)) fun c4=>⟨⟨i.p,i.inst⟩,?_⟩
 have c1:i.p.count≠0:=by
  have c1:¬(i.p.count:Int)=0:=(by simpa using c1)
  omega
 have c2:(i.tops.length:Int)=i.p.count:=by simpa using c2
 have c4:i.inst<(i.p.count:Int):=by
  have c4:¬i.inst≥(i.p.count:Int):=c4
  omega
 have hc:=pS c1
 have hm:=zBt hc
 have e0:qU i 2=if(i.p.legs i.inst).2.2 then(yN i 2).map (f9 i 2)else kG i 2 (i.p.months.length-(i.inst.toNat+1))++jN i 2 i.inst.toNat:=by
  rw[qU,yRd (by omega)]
 obtain⟨k,hk⟩:∃k:Nat,i.inst=k:=⟨i.inst.toNat,by omega⟩
 have hl:=uZ hc (k:=k) (by omega)
 rw[← hk]at hl
 (repeat'(first|exact rfl|exact trivial|assumption|apply And.intro|refine fun(_:Unit) (_:True)=>?_|refine Exists.intro () ?_|omega|(dsimp only;omega)))
 refine Cv.cnd.mk (fun c5=> ?_) (fun c5=> ?_)
 ·have c5:(i.p.legs i.inst).2.2=true:=c5
  rw[e0,yRe c5]
  rcases hl with⟨_,l1,l2,l3,l4⟩|⟨l1,_⟩
  ·have hsl:(yN i 2).length≤1:=zBl _ _ _ _
   refine⟨2,rfl,by omega,fun _ _=>⟨⟨⟨i.tops,[],(i.p.legs i.inst).2.1,(i.p.legs i.inst).1,true⟩,false,true⟩,rfl,rfl,rfl,rfl,rfl,rfl,rfl,⟨l3,by dsimp only;omega,l1,by dsimp only;omega,hto,by simp⟩,fun _ _=>⟨0,rfl,rfl,rfl,fun j=>j≤(yN i 2).length,fun j=>(yN i 2).length-j,by omega,?_⟩⟩⟩
   intro j hj
   have hj:j≤(yN i 2).length:=hj
   have hL:(List.map (f9 i 2) (List.take j (yN i 2))++List.drop j (yN i 2)).length=(yN i 2).length:=by simp;omega
   refine zI (fun hlt=> ?_) (fun hlt=> ?_)
   ·have hlt:(j:Int)<((yN i 2).length:Int):=hlt
    refine⟨⟨by omega,by rw[hL];omega⟩,by rw[hL];omega,j+1,by rw[w64 (by omega)];rfl,kp,?_,?_⟩
    ·exact zSx (i:=i) (s:=2) (by omega)
    ·exact kp
   ·have hlt:¬(j:Int)<((yN i 2).length:Int):=hlt
    obtain rfl:j=(yN i 2).length:=by omega
    rw[yRw (ySk _),List.drop_length,ySa]
    exact kp
  ·rw[c5]at l1;cases l1
 ·have c5:(i.p.legs i.inst).2.2=false:=c5
  rw[e0,yRd (by rw[c5];simp)]
  rcases hl with⟨l1,_⟩|⟨_,l2⟩
  ·rw[c5]at l1;cases l1
  have m6:=(kI hc).m6
  have e1:i.inst.toNat=k:=by omega
  rw[e1]
  refine⟨0,by rw[w64 (by omega)];omega,kp,rfl,fun j=>j≤i.p.months.length-(k+1),fun j=>i.p.months.length-(k+1)-j,by omega,?_⟩
  intro j hj
  have hj:j≤i.p.months.length-(k+1):=hj
  have hq:=lJ i 2 j
  refine zI (fun hlt=> ?_) (fun hlt=> ?_)
  ·obtain⟨b1,b2⟩:=dO hc (a:=k) (b:=k+1+j) (by omega) (by omega)
   have eb:((k+1+j:Nat):Int)=i.inst+1+j:=by omega
   rw[eb,← hk]at b1 b2
   refine⟨⟨i.p,i.inst,i.inst+1+j⟩,?_⟩
   (repeat'(first|exact rfl|exact trivial|assumption|apply And.intro|refine fun(_:Unit) (_:True)=>?_|refine Exists.intro () ?_|omega|(dsimp only;omega)))
   refine⟨⟨⟨i.tops,kG i 2 j,(i.p.spread i.inst (i.inst+1+j)).1,i.inst+1+j,false⟩,true,true⟩,rfl,rfl,rfl,rfl,rfl,kp,rfl,⟨b1,by dsimp only;omega,by dsimp only;omega,by dsimp only;omega,hto,by dsimp only;omega⟩,fun _ _=>⟨j+1,by rw[w64 (by omega)];omega,kp,?_,?_⟩⟩
   ·rw[kG,yVn,ySx]
    simp only[ySt,yVz,ySa]
    rfl
   ·exact kp
  ·obtain rfl:j=i.p.months.length-(k+1):=by omega
   refine⟨0,rfl,kp,by rw[jN];simp,fun j=>j≤k,fun j=>k-j,by omega,?_⟩
   intro j hj
   have hj:j≤k:=hj
   have hq2:=mS i 2 j
   refine zI (fun hlt2=> ?_) (fun hlt2=> ?_)
   ·obtain⟨b1,b2⟩:=dO hc (a:=j) (b:=k) (by omega) (by omega)
    rw[← hk]at b1 b2
    refine⟨⟨i.p,j,i.inst⟩,?_⟩
    (repeat'(first|exact rfl|exact trivial|assumption|apply And.intro|refine fun(_:Unit) (_:True)=>?_|refine Exists.intro () ?_|omega|(dsimp only;omega)))
    refine⟨2,rfl,by omega,fun _ _=>⟨⟨⟨i.tops,kG i 2 (i.p.months.length-(k+1))++jN i 2 j,(i.p.spread j i.inst).1,j,true⟩,false,true⟩,rfl,rfl,rfl,rfl,rfl,kp,rfl,⟨b1,by dsimp only;omega,by dsimp only;omega,by dsimp only;omega,hto,by dsimp only;rw[yRi];omega⟩,fun _ _=>⟨j+1,by rw[w64 (by omega)];omega,kp,?_,?_⟩⟩⟩
    ·rw[jN,yVn,ySx]
     simp only[ySt,yVz,ySa,yRn]
     rfl
    ·exact kp
   ·obtain rfl:j=k:=by omega
    exact kp
theorem yEi:all2C.ok Tryz.prog 152:=okw mixed (gokc aC (gokc sD (gokc zMe (gokc zMp (gokc zUo gok0))))) 0 (fun _=>[]) (fun i=>yMo i 2) [] Tryz.func152 yNj
theorem z5o:allC.ok Tryz.prog 152:=fun j=>match j with
 |⟨i,false⟩=>yDu i
 |⟨i,true⟩=>yEi i
theorem z2o:quotesC.ok Tryz.prog 119:=okw mixed (gokc z5o (gokc p7 gok0)) 0 (fun _=>[]) (fun j=>yDr j) [] Tryz.func119 yDk
open Go Cv Go.Proofs
open Go Cv Go.Proofs
open Go Cv Go.Proofs
open Go Cv Go.Proofs
structure Mkt where
 p:Prd
 s:MSt
 used:List Int
def zW (l:List Int):List (Value×List D):=l.map fun x=>(.int .i64 x,[.v (.bool true)])
def yL (m:Mkt):Nat→AObj
 |0=> .cells [sV m.p.code,.own 3,zA m.p.tick,zA m.p.low,zA m.p.high,zA m.p.wide,zA m.p.rule,zA m.p.top,zA m.p.least,zA m.p.part,.own 4,.nm 1 0,.mp 2] 121
 |1=>zD m.s
 |2=> .map (zW m.used)
 |3=> .fro 1 (iE m.p.months)
 |4=> .fro 1 (iE m.p.settle)
 |_=> .gone
def xS (m:Mkt):AObj:= .adt Mkt 5 yL m
def newMC:Con where
 ι:=Prd
 pat:=fun p=>[prdV p]
 pre:=fun _=>[]
 cnd:=fun p=>p.small
 alts:=fun p=>[{o:=Unit,res:=fun _=> .tup [.nm 0 0,zA 0],post:=fun _=>[xS ⟨p,cT p,[]⟩],rel:=fun _=>p.check=0},{o:=Unit,res:=fun _=> .tup [.d (.v (.pointer none)),zA p.check],post:=fun _=>[],rel:=fun _=>p.check≠0}]
open Go Cv Go.Proofs
def zIe (a:Prd) (b:Prd) (c:Unit):Prop:=True∧(0+(iE a.settle).length)*(8:Nat)≤(70368744177664:Nat)∧((∃(d:Unit),(0:Int)=(0:Int)∧sb a.code=sb a.code∧a.tick=a.tick∧a.low=a.low∧a.high=a.high∧a.wide=a.wide∧a.rule=a.rule∧a.top=a.top∧a.least=a.least∧a.part=a.part∧zD (cT a)=zD (cT b)∧zW []=[]∧iE a.months=[]++iE a.months∧iE a.settle=[]++iE a.settle∧a.check=0)∨∃(c:Unit),False)
def zJx (a:Prd) (b:Prd) (c:Unit):Prop:=True∧True∧(0+(iE a.months).length)*(8:Nat)≤(70368744177664:Nat)∧zIe a b c
def zCl (a:Prd) (b:Unit):Prop:=True∧(0+(iE a.settle).length)*(8:Nat)≤(70368744177664:Nat)∧((∃(c:Unit),(0:Int)=(0:Int)∧sb a.code=sb a.code∧a.tick=a.tick∧a.low=a.low∧a.high=a.high∧a.wide=a.wide∧a.rule=a.rule∧a.top=a.top∧a.least=a.least∧a.part=a.part∧False)∨∃(b:Unit),False)
def zCb (a:Prd) (b:Unit):Prop:=True∧True∧(0+(iE a.months).length)*(8:Nat)≤(70368744177664:Nat)∧zCl a b
def yFx (p:Prd):Prop:=
 ∃(a:Prd),sb a.code=sb p.code∧iE a.months=iE p.months∧a.tick=p.tick∧a.low=p.low∧a.high=p.high∧a.wide=p.wide∧a.rule=p.rule∧a.top=p.top∧a.least=p.least∧a.part=p.part∧iE a.settle=iE p.settle∧(zY a)∧(∀(b:Unit),a.check=0→(True∧True∧((0+(iE p.months).length)*(8:Nat)≤(70368744177664:Nat)∧True∧zIe p a b)∧zJx p a b)∧True∧True∧zJx p a b)∧∀(b:Unit),a.check≠0→cnd (a.check !=0) ((∃(c:Unit),False)∨∃(b:Unit),True∧p.check=a.check∧(p.check=0→False)) ((True∧True∧((0+(iE p.months).length)*(8:Nat)≤(70368744177664:Nat)∧True∧zCl p b)∧zCb p b)∧True∧True∧zCb p b)
open Go Cv Go.Proofs
theorem yMr (p:Prd) (h:newMC.cnd p):yFx p:=by
 unfold yFx zJx zIe zCb zCl zY
 obtain⟨h1,h2,h3⟩:p.small:=h
 refine⟨p,?_⟩
 simp only[yY]
 (repeat'(first|exact rfl|exact trivial|assumption|apply And.intro|refine fun(_:Unit) (_:True)=>?_|refine Exists.intro () ?_|omega|(dsimp only;omega)))
 ·intro _ c
  (repeat'(first|exact rfl|exact trivial|assumption|apply And.intro|refine fun(_:Unit) (_:True)=>?_|refine Exists.intro () ?_|omega|(dsimp only;omega)))
  all_goals(refine .inl ⟨(),?_⟩;(repeat'(first|exact rfl|exact trivial|assumption|apply And.intro|refine fun(_:Unit) (_:True)=>?_|refine Exists.intro () ?_|omega|(dsimp only;omega))))
 ·intro _ c
  refine Cv.cnd.mk (fun e=> .inr ⟨(),trivial,kp,c⟩) (fun e=>absurd (by simpa using e) c)
theorem yEv:newMC.ok Tryz.prog 44:=okw mixed (gokc yDo gok0) 0 (fun _=>[]) (fun _=>[]) [] Tryz.func44 yMr
open Go Cv Go.Proofs
structure WiI where
 n:Int
 lo:Int
 hi:Int
def zF (n lo hi:Int):Int:=lo+n % (hi-lo+1)
def withinC:Con:=con1 WiI (fun i=>[zA i.n,zA i.lo,zA i.hi]) (fun _=>[]) (fun i=>yU i.n∧-1000000≤i.lo∧i.lo≤i.hi∧i.hi≤1000000) (fun i=>zA (zF i.n i.lo i.hi)) (fun _=>[])
def f8 (rule:Int):Prd:=⟨[67,76],[320,321,323],5,0,1000,200,rule,4,2,40,[500,505,490]⟩
def threeC:Con:=con1 Int (fun n=>[zA n]) (fun _=>[]) (fun _=>True) (fun n=>prdV (f8 n)) (fun _=>[])
open Go Cv Go.Proofs
def bN (a:WiI):=(IntKind.i64.wrap (IntKind.i64.wrap (a.hi-a.lo)+1))
def zYk (i:WiI):Prop:=
 IntKind.i64=IntKind.i64∧IntKind.i64.wrap (IntKind.i64.wrap (i.hi-i.lo)+1)≠0∧cnd (decide (i.n.tmod (bN i)<0)) (∃(a:Unit),zF i.n i.lo i.hi=IntKind.i64.wrap (i.lo+IntKind.i64.wrap (IntKind.i64.wrap (IntKind.i64.wrap (i.n.tmod (bN i)+i.hi)-i.lo)+1))∧True) (∃(a:Unit),zF i.n i.lo i.hi=IntKind.i64.wrap (i.lo+i.n.tmod (bN i))∧True)
def z7j (n:Int):Prop:=
 ∃(a:Unit),sb [(67:UInt8),(76:UInt8)]=ByteArray.mk #[(67:UInt8),(76:UInt8)]∧iE [(320:Int),(321:Int),(323:Int)]=[[dI 320],[dI 321],[dI 323]]∧(5:Int)=(5:Int)∧(0:Int)=(0:Int)∧(1000:Int)=(1000:Int)∧(200:Int)=(200:Int)∧n=n∧(4:Int)=(4:Int)∧(2:Int)=(2:Int)∧(40:Int)=(40:Int)∧iE [(500:Int),(505:Int),(490:Int)]=[[dI 500],[dI 505],[dI 490]]∧True
open Go Cv Go.Proofs
theorem z7c:threeC.ok Tryz.prog 13:=okw (V:=z7j) mixed gok0 0 (fun _=>[]) (fun _=>[]) [] Tryz.func13 fun(n:Int) _=>by
 unfold z7j dI;exact kp
theorem yEg (i:WiI) (h:withinC.cnd i):zYk i:=by
 obtain⟨⟨a1,a2⟩,a3,a4,a5⟩:yU i.n∧-1000000≤i.lo∧i.lo≤i.hi∧i.hi≤1000000:=h
 unfold zYk bN
 rw[w64 (x:=i.hi-i.lo) (by omega),w64 (x:=i.hi-i.lo+1) (by omega)]
 obtain⟨d,hd⟩:∃d:Int,i.hi-i.lo+1=d:=⟨_,rfl⟩
 rw[hd]
 have h1:i.n.tmod d=if 0≤i.n then i.n % d else-((-i.n) % d):=by
  split
  ·rename_i h;rw[Int.tmod_eq_emod_of_nonneg h]
  ·rename_i h
   have:i.n= -(-i.n):=by omega
   conv=>lhs;rw[this]
   rw[Int.neg_tmod,Int.tmod_eq_emod_of_nonneg (by omega)]
 have hb1:=Int.emod_nonneg i.n (show d≠0 by omega)
 have hb2:=Int.emod_lt_of_pos i.n (show 0<d by omega)
 have hb3:=Int.emod_nonneg (-i.n) (show d≠0 by omega)
 have hb4:=Int.emod_lt_of_pos (-i.n) (show 0<d by omega)
 have key:i.n.tmod d<0→i.n % d=i.n.tmod d+d:=fun hneg=>by
  have:=Int.emod_eq_of_lt (a:=i.n.tmod d+d) (b:=d) (by rw[h1]at hneg ⊢;split at hneg<;>split<;>omega) (by omega)
  rw[← this,Int.add_emod_right]
  have e:=Int.tmod_add_mul_tdiv i.n d
  conv=>lhs;rw[← e]
  rw[Int.add_mul_emod_self_left]
 have key2:¬i.n.tmod d<0→i.n % d=i.n.tmod d:=fun hneg=>by
  have hlt:i.n.tmod d<d:=by rw[h1];split<;>omega
  have:=Int.emod_eq_of_lt (a:=i.n.tmod d) (b:=d) (by omega) hlt
  rw[← this]
  have e:=Int.tmod_add_mul_tdiv i.n d
  conv=>lhs;rw[← e]
  rw[Int.add_mul_emod_self_left]
 refine⟨rfl,by omega,zI (fun c=>⟨(),?_,trivial⟩) (fun c=>⟨(),?_,trivial⟩)⟩
 ·have k:=key c
  rw[zF,hd,k]
  rw[w64 (x:=i.n.tmod d+i.hi) (by omega),w64 (x:=i.n.tmod d+i.hi-i.lo) (by omega),w64 (x:=i.n.tmod d+i.hi-i.lo+1) (by omega),w64 (by omega)]
  omega
 ·have k:=key2 c
  rw[zF,hd,k,w64 (by omega)]
theorem within_ok:withinC.ok Tryz.prog 17:=okw mixed gok0 0 (fun _=>[]) (fun _=>[]) [] Tryz.func17 yEg
open Go Cv Go.Proofs
def lI (l:List (Int×Int)) (k:Int):Option Int:=(l.find? fun x=>decide (x.1=k)).map (·.2)
open Go Cv Go.Proofs
open Go Cv Go.Proofs
theorem z5x (l:List (Int×Int)) (k:Int):∀p∈yS l,like (Value.int IntKind.i64 k) p.1=true:=by
 intro p hp
 obtain⟨x,_,rfl⟩:=ySm.1 hp
 rfl
theorem aS (k:Int):∀l:List (Int×Int),qK (Value.int IntKind.i64 k) (yS l)=(lI l k).map fun v=>[D.v (.int .i64 v)]
 |[]=>rfl
 |(a,v)::l=>by
  have ih:=aS k l
  show(bif (keq .i64 .i64 && decide (k=a))then _ else qK _ (yS l))=_
  by_cases h:k=a
  ·subst h;simp[lI,keq]
  ·have h':¬a=k:=fun e=>h e.symm
   rw[show(keq .i64 .i64 && decide (k=a))=false by simp[h],cond_false,ih]
   simp[lI,yWw,h']
open Go Cv Go.Proofs
structure Rep where
 kind:Int
 id:Int
 inst:Int
 side:Int
 price:Int
 qty:Int
 left:Int
 why:Int
 deriving DecidableEq
@[reducible] def yPl (r:Rep):V:= .agg [zA r.kind,zA r.id,zA r.inst,zA r.side,zA r.price,zA r.qty,zA r.left,zA r.why]
def xJ (r:Rep):List D:=[.v (.int .i64 r.kind),.v (.int .i64 r.id),.v (.int .i64 r.inst),.v (.int .i64 r.side),.v (.int .i64 r.price),.v (.int .i64 r.qty),.v (.int .i64 r.left),.v (.int .i64 r.why)]
def zQu (k v:Int):List (Int×Int)→List (Int×Int)
 |[]=>[(k,v)]
 |(a,b)::l=>if k=a then(a,v)::l else(a,b)::zQu k v l
def zWy (k:Int):List (Int×Int)→List (Int×Int)
 |[]=>[]
 |(a,b)::l=>if k=a then l else(a,b)::zWy k l
def bj (t:Nat):SAnn:={ι:=Bool,slots:=fun b=>[(t,yM b)],rows:=fun _=>[]}
def ij (t:Nat):SAnn:={ι:=Int,slots:=fun n=>[(t,zA n)],rows:=fun _=>[]}
open Go Cv Go.Proofs
open Go Cv Go.Proofs
theorem gV (l:List (Int×Int)) (k:Int):∀(p:Value×List D),p∈yS l→like (Value.int IntKind.i64 k) p.1=true:=fun p hp=>z5x l k p hp
theorem zUa (k v:Int):∀l,vI (Value.int IntKind.i64 k) [D.v (.int .i64 v)] (yS l)=yS (zQu k v l)
 |[]=>rfl
 |(a,b)::l=>by
  have ih:=zUa k v l
  show(bif (keq .i64 .i64 && decide (k=a))then _ else _::vI _ _ (yS l))=_
  rw[ih,zQu]
  by_cases h:k=a
  ·subst h;simp[keq,yS]
  ·simp[h,yS]
theorem zRa (k:Int):∀l,tL (Value.int IntKind.i64 k) (yS l)=yS (zWy k l)
 |[]=>rfl
 |(a,b)::l=>by
  have ih:=zRa k l
  show(bif (keq .i64 .i64 && decide (k=a))then yS l else _::tL _ (yS l))=_
  rw[ih,zWy]
  by_cases h:k=a
  ·subst h;simp[keq]
  ·simp[h,yS]
theorem yHp (l:List (Int×Int)) (k:Int):qK (Value.int IntKind.i64 k) (yS l)=some [D.v (.int .i64 ((lI l k).getD 0))]∧(lI l k).isSome=true∨qK (Value.int IntKind.i64 k) (yS l)=none∧[D.v (.int .i64 ((lI l k).getD 0))]=[D.v (.int .i64 0)]∧(lI l k).isSome=false:=by
 rw[aS]
 cases lI l k with
 |none=>exact .inr ⟨rfl,rfl,rfl⟩
 |some v=>exact .inl ⟨rfl,rfl⟩
theorem zTi (a b:Int):(a==b)=decide (a=b):=by
 by_cases h:a=b
 ·subst h;simp
 ·simp[h]
open Go Cv Go.Proofs
theorem yP {n lo hi:Int} (h:lo≤hi):lo≤zF n lo hi∧zF n lo hi≤hi:=by
 rw[zF]
 have h1:=Int.emod_nonneg n (show hi-lo+1≠0 by omega)
 have h2:=Int.emod_lt_of_pos n (show 0<hi-lo+1 by omega)
 omega
open Go Go.RowKit Cv
theorem tF {P:Program} {dT sT ty e sz by_:Nat} {z:Array Value} (hi:vX P dT=some (e,sz,by_,z)) {w:World} {g o dLen dCap b so sLen sCap n:Nat} {cur src:List Value} {T T':TypeId} {fr:Nat×Nat}
 (hg:w.heap[g]? =some (.cells cur.toArray T (0,0))) (hs:w.heap[b]? =some (.cells src.toArray T' fr)) (hn:Nat.min sLen dLen=n) (h1:so+n*sz≤src.length) (h2:o+n*sz≤cur.length)
 (hone:∀v∈(src.drop so).take (n*sz),v.oneC=true):
 uC P (Builtin.copy_ #[dT,sT] ty #[.slice (some ⟨g,o,none⟩) dLen dCap,.slice (some ⟨b,so,none⟩) sLen sCap]) w (.int .i64 n) (World.setB w g (.cells (spl cur o ((src.drop so).take (n*sz))).toArray T (0,0))):=by
 obtain⟨i,zv,q1,q2,rfl,rfl,q5,rfl⟩:=kP hi
 have hl:((src.drop so).take (n*i.size)).length=n*i.size:=by rw[yRz,ySb];omega
 have hst:=jO (P:=P) ((src.drop so).take (n*i.size)) 0 o cur w hg (by rw[hl];omega) hone
 simp only[yVa]at hst
 unfold uC Builtin.copy_
 simp only[ySy,yTh,ySw,bind,pure,run_bind,Sem.bind,Sem.run,Cv.run_underlying q1,Cv.run_sizeOf q2,Builtin.lenOf,hn,Builtin.firstCells,uB hs h1,hst]
 rfl
theorem Hp.apart {k:Ko} {w:World} {b c:Nat} {o o':Obj} {L:List HP} (H:Hp k w (pt b o::pt c o'::L)):b≠c:=by
 obtain⟨hk,hs,hh⟩:=H
 cases hh with
 |cons ha hsub hd hr=>
  cases hr with
  |cons hb hsub2 hd2 hr2=>
   intro e
   subst e
   have:=hd _ yRj b
   rw[show _=one b o from ha,show _=one b o' from hb]at this
   simp[one]at this
def yJf (P:Program) (tS tI sz fO fR:Nat) (s:Option Addr) (sn sk:Nat) (i:Int) (v:Option Addr) (vn vk:Nat) (w:World) (R:Ending→World→Prop):Prop:=
slN s sn sk (some i) none sz fun a1 na1 ka1=>
cnd (((vn:Int):Int)==0) (
R (.returned (.slice s sn sk)) w) (
cnd ((i:Int)==(sn:Int)) (
∃(a2:Option Addr) (na2 ka2:Nat),∃w3:World,uC P (Builtin.append_ #[tS,tS] tS #[.slice s sn sk,.slice v vn vk]) w (.slice a2 na2 ka2) w3∧
R (.returned (.slice a2 na2 ka2)) w3) (
cnd (decide ((IntKind.i64.wrap ((sn:Int)+(vn:Int)):Int)>(sk:Int))) (
slN s sn sk none (some i) sz fun a4 na4 ka4=>
∃(a5:Option Addr) (na5 ka5:Nat),∃w6:World,uC P (Builtin.append_ #[tS,tI] tS #[.slice a4 na4 ka4,.int .i64 (IntKind.i64.wrap (IntKind.i64.wrap ((sn:Int)+(vn:Int))-i))]) w (.slice a5 na5 ka5) w6∧
slN a5 na5 ka5 (some i) none sz fun a7 na7 ka7=>
∃x8:Int,∃w9:World,uC P (Builtin.copy_ #[tS,tS] tI #[.slice a7 na7 ka7,.slice v vn vk]) w6 (.int .i64 x8) w9∧
zYg w9 fun w10=>
slN a5 na5 ka5 (some (IntKind.i64.wrap (i+(vn:Int)))) none sz fun a11 na11 ka11=>
slN s sn sk (some i) none sz fun a12 na12 ka12=>
∃x13:Int,∃w14:World,uC P (Builtin.copy_ #[tS,tS] tI #[.slice a11 na11 ka11,.slice a12 na12 ka12]) w10 (.int .i64 x13) w14∧
R (.returned (.slice a5 na5 ka5)) w14) (
slN s sn sk none (some (IntKind.i64.wrap ((sn:Int)+(vn:Int)))) sz fun a15 na15 ka15=>
slN a15 na15 ka15 (some (IntKind.i64.wrap (i+(vn:Int)))) none sz fun a16 na16 ka16=>
∃c17:Bool,∃w18:World,Cv.Ext P fO #[.slice v vn vk,.slice a16 na16 ka16] w (.bool c17) w18∧
cnd (!c17) (
zYg w18 fun w19=>
slN a15 na15 ka15 (some (IntKind.i64.wrap (i+(vn:Int)))) none sz fun a20 na20 ka20=>
slN a15 na15 ka15 (some i) none sz fun a21 na21 ka21=>
∃x22:Int,∃w23:World,uC P (Builtin.copy_ #[tS,tS] tI #[.slice a20 na20 ka20,.slice a21 na21 ka21]) w19 (.int .i64 x22) w23∧
slN a15 na15 ka15 (some i) none sz fun a24 na24 ka24=>
∃x25:Int,∃w26:World,uC P (Builtin.copy_ #[tS,tS] tI #[.slice a24 na24 ka24,.slice v vn vk]) w23 (.int .i64 x25) w26∧
R (.returned (.slice a15 na15 ka15)) w26) (
slN a15 na15 ka15 (some (sn:Int)) none sz fun a27 na27 ka27=>
∃x28:Int,∃w29:World,uC P (Builtin.copy_ #[tS,tS] tI #[.slice a27 na27 ka27,.slice v vn vk]) w18 (.int .i64 x28) w29∧
slN a15 na15 ka15 (some i) none sz fun a30 na30 ka30=>
Calls P fR #[.slice a30 na30 ka30,.int .i64 (vn:Int)] w29 fun e32 w31=>e32= .returned (.tuple #[])∧
R (.returned (.slice a15 na15 ka15)) w31))))
theorem z3w {α:Type} {l m:Nat} {xs r ys:List α} (hl:l≤xs.length) (hy:ys.length=m) (hr:m≤r.length):
 ((xs++r).take (l+m)++xs.drop l++(xs++r).drop (l+m+(xs.drop l).length)).take l++ys++((xs++r).take (l+m)++xs.drop l++(xs++r).drop (l+m+(xs.drop l).length)).drop (l+ys.length)=(xs.take l++ys++xs.drop l)++r.drop m:=by
 have e1:(xs++r).drop (l+m+(xs.drop l).length)=r.drop m:=by
  rw[ySb,show l+m+(xs.length-l)=xs.length+m by omega,yVx]
  simp
 have e2:((xs++r).take (l+m)++xs.drop l++r.drop m).take l=xs.take l:=by
  rw[yRn,ySf (by rw[yRz,yRi];omega),List.take_take,yVm (by omega),ySf hl]
 have e3:((xs++r).take (l+m)++xs.drop l++r.drop m).drop (l+ys.length)=xs.drop l++r.drop m:=by
  have:((xs++r).take (l+m)).length=l+m:=by rw[yRz,yRi];omega
  rw[yRn,hy,yVx,this,yWi,yUk,yUj (by omega),yTs]
 rw[e1,e2,e3]
 simp
theorem zPk (A Z Y:List Value):spl (A++Z) A.length Y=A++Y++Z.drop Y.length:=by
 simp only[spl]
 rw[List.take_left,yVx]
 simp
theorem zDd {b o n c i:Nat} (h:c≠i):(if c=i then(some ⟨b,o,none⟩:Option Addr)else(some ⟨b,o,none⟩:Option Addr).map (·.add n))=some ⟨b,o+n,none⟩:=by
 rw[yRd h,yTd,v9]
def zQf (P:Program) (fO:Nat):Prop:=∀(w:World) (va sb so la ca lb cb:Nat) (c c':Array Value) (T T':TypeId),va≠sb→w.heap[va]?=some (.cells c T (0,0))→w.heap[sb]?=some (.cells c' T' (0,0))→c'.size≠0→
 Cv.Ext P fO #[.slice (some ⟨va,0,none⟩) la ca,.slice (some ⟨sb,so,none⟩) lb cb] w (.bool false) w
theorem yDf {P : Program} {fO tS tB e sz by_ : Nat} {z : Array Value} {fn : Func} (hf : P.funcs[fO]? = some fn) (hname : (fn.name == "runtime.NumGoroutine") = false) (hb : fn.body.isNone = true) (hn : Extern.findNext fn = none) (he : Extern.find fn = some (Extern.SlicesOverlaps.overlaps #[tS, tS] #[tB]))
 (hi:vX P tS=some (e,sz,by_,z)):zQf P fO:=by
 obtain⟨i,zv,q1,q2,rfl,rfl,q5,rfl⟩:=kP hi
 intro w va sb so la ca lb cb c c' T T' hne h1 h2 h3
 unfold Cv.Ext
 rw[run_callFunc_extern hf hname hb hn he,Lib.run_overlaps_apart w tS tB e q1 i.size (fun w=>Cv.run_sizeOf q2 w) ⟨va,0,none⟩ ⟨sb,so,none⟩ la ca lb cb hne T T' c.size c'.size (by simp[World.shape?,h1]) (by simp[World.shape?,h2]) h3 (by simp[World.frozen?,h1]) (by simp[World.frozen?,h1])]
 rfl
theorem yPs {P:Program} {tS tI e sz by_ fO fR:Nat} {z:Array Value} (hi:vX P tS=some (e,sz,by_,z)) (hz:z.size=sz) (hby:0<by_) (hsz:0<sz) (h2:zWs P tS=true) (hti:P.underlying tI=some (.int .i64)) (hov:zQf P fO)
 {k:Ko} {w:World} {L:List HP} {s v:Option Addr} {sn sk vn vk i:Nat} {xs ys:List Value} (H:Hp k w (slO e sz s sn sk xs::slO e sz v vn vk ys::L)) (h1:∀u∈xs,u.oneC=true) (hy:∀u∈ys,u.oneC=true) (hin:i≤sn) (hv:0<vn)
 (hb:(sn+vn)*by_≤70368744177664):
 yJf P tS tI sz fO fR s sn sk i v vn vk w fun en w'=>∃a kk,en= .returned (.slice a (sn+vn) kk)∧Hp k w' (slO e sz a (sn+vn) kk (xs.take (i*sz)++ys++xs.drop (i*sz))::slO e sz v vn vk ys::L):=by
 obtain⟨hxl,hnk⟩:=H.len
 obtain⟨hyl,hvk⟩:=H.swap.len
 have hnm:sn+vn≤70368744177664:=yTv (Nat.le_mul_of_pos_right _ hby) hb
 have w1:IntKind.i64.wrap ((sn:Int)+(vn:Int))=((sn+vn:Nat):Int):=by rw[Cv.wrap_i64 (by omega) (by omega)];simp
 have w2:IntKind.i64.wrap ((i:Int)+(vn:Int))=((i+vn:Nat):Int):=by rw[Cv.wrap_i64 (by omega) (by omega)];simp
 have w3:IntKind.i64.wrap (((sn+vn:Nat):Int)-(i:Int))=((sn+vn-i:Nat):Int):=by rw[Cv.wrap_i64 (by omega) (by omega)];omega
 have hle:i*sz≤xs.length:=by rw[hxl];exact yTe _ hin
 have htl:(xs.take (i*sz)).length=i*sz:=by rw[yRz];omega
 have hdl:(xs.drop (i*sz)).length=(sn-i)*sz:=by rw[ySb,hxl,Nat.sub_mul]
 have hsum:(i+vn)*sz=i*sz+vn*sz:=yTz _ _ _
 have hsum2:(sn+vn)*sz=i*sz+vn*sz+(sn-i)*sz:=by rw[← yTz,← yTz];congr 1;omega
 have hfin:(xs.take (i*sz)++ys++xs.drop (i*sz)).length=(sn+vn)*sz:=by
  rw[yRi,yRi,htl,hyl,hdl,hsum2]
 unfold yJf
 simp only[slN,w1,w2,w3,yRx]
 refine⟨⟨by omega,by omega,hnk⟩,Cv.cnd.mk (fun c=>absurd c (by simp;omega)) fun _=>Cv.cnd.mk (fun c=> ?_) fun c=>Cv.cnd.mk (fun hc=> ?_) fun hc=> ?_⟩
 ·have c:i=sn:=by have:(i:Int)=(sn:Int):=by simpa using c
                  omega
  subst c
  obtain⟨a',c',w',r1,r2⟩:=H.append (rt:=tS) hi h2 (x:= .slice v vn vk) (m:=vn) (ys:=ys) (.inl ⟨v,vk,rfl,H.swap.satR⟩) hy hz hby hb
  refine⟨a',_,c',w',r1,a',c',rfl,?_⟩
  rw[yRw (by omega),yUj (by omega),ySa]
  exact r2
 ·have c:i<sn:=by have:¬(i:Int)=(sn:Int):=by simpa using c
                  omega
  have hc:sk<sn+vn:=by have:=yTx hc;omega
  obtain⟨inf,zv,q1,q2,q3,q4,q5,q6⟩:=kP hi
  subst q3 q4 q6
  rcases H.slcases with⟨_,e0,_⟩|⟨b,r,rfl,g1,g2,g3,H0⟩
  ·omega
  rcases H0.swap.slcases with⟨_,e0,_⟩|⟨vb,rv,rfl,g4,g5,g6,H1⟩
  ·omega
  have hold:(Builtin.firstCells inf.size i (.slice (some ⟨b,0,none⟩) i sk)).run P w.drew= .ok (xs.take (i*inf.size)).toArray w.drew:=by
   have hbk:=(H1.drew).swap.get
   have:=uB (P:=P) (o:=0) (n:=i*inf.size) hbk (by rw[yRi];omega)
   unfold Builtin.firstCells
   rw[this,yUk,ySf hle]
  have hfit2:=zIu (need:=sn+vn) (cap:=sk) (by omega)
  have hfit3:=yTe inf.bytes hfit2
  have e2:2*(sn+vn)*inf.bytes=2*((sn+vn)*inf.bytes):=by rw[Nat.mul_assoc]
  have hkb:(sn+vn-i)*inf.bytes≤(sn+vn)*inf.bytes:=yTe _ (by omega)
  have hgr:=Lib.run_append_grow_zeros (P:=P) w tS tI tS e inf zv .i64 .i64 q1 hti q2 q5 (some ⟨b,0,none⟩) i sk (xs.take (i*inf.size)) hold (sn+vn-i) (by omega) hsz (by omega) (by omega) (by omega) (by rw[show i+(sn+vn-i)=sn+vn by omega];omega)
  rw[show i+(sn+vn-i)=sn+vn by omega]at hgr
  have hG:sn+vn≤grownCap w (sn+vn) sk e:=grownCap_ge w (sn+vn) sk e
  generalize grownCap w (sn+vn) sk e=G at hgr hG
  have harr:(xs.take (i*inf.size)).toArray++Builtin.zeroCells zv.cells (sn+vn-i)++Builtin.zeroCells zv.cells (G-(sn+vn))=(xs.take (i*inf.size)++((Builtin.zeroCells zv.cells (sn+vn-i)).toList++(Builtin.zeroCells zv.cells (G-(sn+vn))).toList)).toArray:=by
   apply Array.ext';simp
  rw[harr]at hgr
  have hZl:((Builtin.zeroCells zv.cells (sn+vn-i)).toList++(Builtin.zeroCells zv.cells (G-(sn+vn))).toList).length=(sn+vn-i)*inf.size+(G-(sn+vn))*inf.size:=by
   rw[yRi,yVt,yVt,size_zeroCells,size_zeroCells,hz]
  generalize (Builtin.zeroCells zv.cells (sn+vn-i)).toList++(Builtin.zeroCells zv.cells (G-(sn+vn))).toList=Z at hgr hZl
  have hZ2:(sn+vn-i)*inf.size=vn*inf.size+(sn-i)*inf.size:=by rw[← yTz];congr 1;omega
  have H2:=(H1.drew).new (.cells (xs.take (i*inf.size)++Z).toArray e)
  have hB:w.drew.heap.size=w.heap.size:=rfl
  rw[hB]at H2
  have hc1:=tF (P:=P) (sT:=tS) (ty:=tI) hi (g:=w.heap.size) (o:=0+i*inf.size) (dLen:=sn+vn-i) (dCap:=G-i) (b:=vb) (so:=0) (sLen:=vn) (sCap:=vk) (n:=vn) H2.get H2.swap.get (yVm (by omega)) (by rw[yRi];omega) (by rw[yRi,htl,hZl];omega) (by
   rw[yUk,ySf (by omega),yRw (by omega)];exact hy)
  rw[yUk,ySf (by omega),yRw (show ys.length≤vn*inf.size by omega),ySd]at hc1
  have es1:spl (xs.take (i*inf.size)++Z) (i*inf.size) ys=xs.take (i*inf.size)++ys++Z.drop ys.length:=by
   have:=zPk (xs.take (i*inf.size)) Z ys
   rwa [htl]at this
  rw[es1]at hc1
  have H3:=(H2.upd (.cells (xs.take (i*inf.size)++ys++Z.drop ys.length).toArray e)).drew
  have hg4:(xs++r).drop (i*inf.size)=xs.drop (i*inf.size)++r:=yTw hle
  have hc2:=tF (P:=P) (sT:=tS) (ty:=tI) hi (g:=w.heap.size) (o:=0+(i+vn)*inf.size) (dLen:=sn+vn-(i+vn)) (dCap:=G-(i+vn)) (b:=b) (so:=0+i*inf.size) (sLen:=sn-i) (sCap:=sk-i) (n:=sn-i) H3.get H3.swap.drop.swap.get (yVm (by omega)) (by rw[yRi,hxl,ySd,← yTz];exact yTv (yTe _ (by omega)) (Nat.le_add_right _ _)) (by
   rw[yRi,yRi,htl,hyl,ySb,hZl];omega) (by
   rw[ySd,hg4,ySf (by omega),yRw (by omega)]
   exact fun u hu=>h1 u (yUm hu))
  rw[ySd,ySd,hg4,ySf (by omega),yRw (show(xs.drop (i*inf.size)).length≤(sn-i)*inf.size by omega)]at hc2
  have es2:spl (xs.take (i*inf.size)++ys++Z.drop ys.length) ((i+vn)*inf.size) (xs.drop (i*inf.size))=xs.take (i*inf.size)++ys++xs.drop (i*inf.size)++(Z.drop ys.length).drop (xs.drop (i*inf.size)).length:=by
   have:=zPk (xs.take (i*inf.size)++ys) (Z.drop ys.length) (xs.drop (i*inf.size))
   rwa [show(xs.take (i*inf.size)++ys).length=(i+vn)*inf.size by rw[yRi,htl,hyl,hsum]]at this
  rw[es2]at hc2
  refine⟨⟨by omega,by omega⟩,_,_,_,_,hgr,?_⟩
  rw[zDd (show G≠i by omega),ySd]
  refine⟨⟨by omega,by omega,hG⟩,_,_,hc1,?_⟩
  rintro _ rfl
  rw[zDd (show G≠i+vn by omega),zDd (show sk≠i by omega),ySd,ySd]
  refine⟨⟨by omega,by omega,hG⟩,⟨by omega,by omega,hnk⟩,_,_,hc2,_,_,rfl,?_⟩
  have H4:=H3.upd (.cells (xs.take (i*inf.size)++ys++xs.drop (i*inf.size)++(Z.drop ys.length).drop (xs.drop (i*inf.size)).length).toArray e)
  have H5:=H4.slmk (n:=sn+vn) (c:=G) (sz:=inf.size) hfin (by
   rw[yRi,hfin,ySb,ySb,hZl,hyl,hdl]
   have:G*inf.size=(sn+vn)*inf.size+(G-(sn+vn))*inf.size:=by rw[← yTz];congr 1;omega
   omega) hG
  have H6:=H5.swap.slmk (n:=vn) (c:=vk) (sz:=inf.size) g4 g5 g6
  exact(H6.swap.perm (List.Perm.trans ((List.Perm.swap _ _ _).cons _) (List.Perm.swap _ _ _))).drop
 ·have c:i<sn:=by have:¬(i:Int)=(sn:Int):=by simpa using c
                  omega
  have hc:sn+vn≤sk:=by have:=yWv hc;omega
  rcases H.slcases with⟨_,e0,_⟩|⟨b,r,rfl,g1,g2,g3,H0⟩
  ·omega
  rcases H0.swap.slcases with⟨_,e0,_⟩|⟨vb,rv,rfl,g4,g5,g6,H1⟩
  ·omega
  have hrl:vn*sz≤r.length:=by
   have e1:(sn+vn)*sz≤sk*sz:=yTe _ hc
   rw[yRi,g1]at g2
   rw[yTz]at e1
   omega
  have H2:=H1.swap
  have hne:vb≠b:=Hp.apart H1
  have hg4:(xs++r).drop (i*sz)=xs.drop (i*sz)++r:=yTw hle
  have hex:=hov w vb b (0+(i+vn)*sz) vn vk (sn+vn-(i+vn)) (sk-(i+vn)) (ys++rv).toArray (xs++r).toArray e e hne H1.get H2.get (by
   rw[yUx,yRi,g1]
   have:=Nat.mul_pos (show 0<sn by omega) hsz
   omega)
  have H3:=H2.drew
  have hc1:=tF (P:=P) (sT:=tS) (ty:=tI) hi (g:=b) (o:=0+(i+vn)*sz) (dLen:=sn+vn-(i+vn)) (dCap:=sk-(i+vn)) (b:=b) (so:=0+i*sz) (sLen:=sn+vn-i) (sCap:=sk-i) (n:=sn-i) H3.get H3.get (by rw[show sn+vn-(i+vn)=sn-i by omega];exact Nat.min_eq_right (by omega)) (by
   rw[yRi,g1,ySd,← yTz];exact yTv (yTe _ (by omega)) (Nat.le_add_right _ _)) (by
   rw[yRi,g1,ySd,← yTz,show i+vn+(sn-i)=sn+vn by omega,yTz];omega) (by
   rw[ySd,hg4,ySf (by omega),yRw (by omega)]
   exact fun u hu=>h1 u (yUm hu))
  rw[ySd,ySd,hg4,ySf (by omega),yRw (show(xs.drop (i*sz)).length≤(sn-i)*sz by omega)]at hc1
  have H4:=H3.upd (.cells (spl (xs++r) ((i+vn)*sz) (xs.drop (i*sz))).toArray e)
  have hcl:(spl (xs++r) ((i+vn)*sz) (xs.drop (i*sz))).length=(xs++r).length:=by
   simp only[spl,yRi,yRz,hdl]
   rw[ySb,yRi,g1,hsum]
   have:sn*sz=i*sz+(sn-i)*sz:=by rw[← yTz];congr 1;omega
   omega
  have hc2:=tF (P:=P) (sT:=tS) (ty:=tI) hi (g:=b) (o:=0+i*sz) (dLen:=sn+vn-i) (dCap:=sk-i) (b:=vb) (so:=0) (sLen:=vn) (sCap:=vk) (n:=vn) H4.get H4.swap.get (yVm (by omega)) (by rw[yRi];omega) (by
   rw[hcl,yRi,ySd];omega) (by
   rw[yUk,ySf (by omega),yRw (by omega)];exact hy)
  rw[yUk,ySf (by omega),yRw (show ys.length≤vn*sz by omega),ySd]at hc2
  have es:spl (spl (xs++r) ((i+vn)*sz) (xs.drop (i*sz))) (i*sz) ys=(xs.take (i*sz)++ys++xs.drop (i*sz))++r.drop (vn*sz):=by
   have:=z3w (l:=i*sz) (m:=vn*sz) (xs:=xs) (r:=r) (ys:=ys) hle hyl hrl
   simp only[spl,hsum]
   exact this
  rw[es]at hc2
  refine⟨⟨by omega,by omega⟩,⟨by omega,by omega,by omega⟩,false,w,?_,Cv.cnd.mk (fun _=> ?_) (fun c=>absurd c (by decide))⟩
  ·rw[zDd (show sk≠i+vn by omega)];exact hex
  rintro _ rfl
  rw[zDd (show sk≠i+vn by omega),zDd (show sk≠i by omega),ySd,ySd]
  refine⟨⟨by omega,by omega,by omega⟩,⟨by omega,by omega,by omega⟩,_,_,hc1,⟨by omega,by omega,by omega⟩,_,_,hc2,_,_,rfl,?_⟩
  have H5:=H4.upd (.cells (xs.take (i*sz)++ys++xs.drop (i*sz)++r.drop (vn*sz)).toArray e)
  have H6:=H5.slmk (n:=sn+vn) (c:=sk) (sz:=sz) hfin (by
   rw[yRi,hfin,ySb,← g2,yRi,g1,yTz]
   omega) hc
  exact(H6.swap.slmk (n:=vn) (c:=vk) (sz:=sz) g4 g5 g6).swap
structure z4e where
 els:List (List D)
 el:List D
 i:Nat
def yCl (e sz by_:Nat):Con where
 ι:=z4e
 pat:=fun i=>[.own 0,.d (.v (.int .i64 i.i)),.own 1]
 pre:=fun i=>[.own e sz i.els,.own e sz [i.el]]
 cnd:=fun i=>i.i≤i.els.length∧(i.els.length+1)*by_≤70368744177664
 alts:=fun i=>[{o:=Unit,res:=fun _=> .own 2,post:=fun _=>[.gone,.gone,.own e sz (i.els.take i.i++i.el::i.els.drop i.i)],rel:=fun _=>True}]
theorem insX_ok {P:Program} (hm:P.follows .mixedOrders=true) {tS tI e sz by_ fI fO fR:Nat} {z:Array Value} {fn:Func} {c:Code} (hf:P.funcs[fI]? =some fn) (hb:fn.body=some c) (hbd:vO P fI=true) (hok:okC fn.ntmps c=true) (hfx:okF [] c=true) (hsz3:Nat.ble 3 fn.ntmps=true)
 (hi:vX P tS=some (e,sz,by_,z)) (hz:z.size=sz) (hby:0<by_) (hsz:0<sz) (h2:zWs P tS=true) (hti:P.underlying tI=some (.int .i64)) (hov:zQf P fO)
 (heq:∀(s:Option Addr) (sn sk:Nat) (i:Int) (v:Option Addr) (vn vk:Nat) (w:World) (R:Ending→World→Prop),yJf P tS tI sz fO fR s sn sk i v vn vk w R=cwp P [] c (zNl P fn R) (vH [.slice s sn sk,.int .i64 i,.slice v vn vk]) w):
 (yCl e sz by_).ok P fI:=by
 intro i hc k L E w ys R hv
 obtain⟨c1,c2⟩:i.i≤i.els.length∧(i.els.length+1)*by_≤70368744177664:=hc
 simp only[yCl,VRL,VR,DR]at hv
 obtain⟨y0,_,rfl,⟨l0,e0,_⟩,y1,_,rfl,⟨rfl,_⟩,y2,_,rfl,⟨l2,e2,_⟩,rfl⟩:=hv
 obtain⟨s,sk,xs,sub0,g1,hxs,hu,H⟩:=R.ownOpen (n:=0) (t:=e) (sz:=sz) (els:=i.els) rfl
 rw[e0]at g1;cases g1
 have hk2:∃v vk zs,y2= .slice v 1 vk∧DRL E.F i.el zs∧i.el.length=sz∧Hp k w (slO e sz s i.els.length sk xs::slO e sz v 1 vk zs::fz E.F::L):=by
  obtain⟨hk,hs,hh⟩:=H
  cases hh with
  |cons ha hsub hd hr=>
   simp only[yCl,v8,wI,yRs,yUr,ySv,yTs]at hr
   cases hr with
   |cons hb2 hsub2 hd2 hr2=>
    rcases hb2 with⟨q,_⟩|⟨⟨hv2,sub2⟩,q1,q2⟩
    ·cases q
    ·simp only at q1
     rw[e2]at q1;cases q1
     simp only[rowHP]at q2
     obtain⟨a,kk,zs,rfl,q3,q4,q5⟩:=q2
     simp only[yTk,List.flatten_nil,ySa]at q3
     exact⟨a,kk,zs,rfl,q3,q4 _ yRj,hk,_,.cons ha hsub hd (.cons q5 hsub2 hd2 hr2)⟩
 obtain⟨v,vk,zs,rfl,hzs,hel,H2⟩:=hk2
 have hv:=yPs (fR:=fR) (fO:=fO) hi hz hby hsz h2 hti hov (i:=i.i) H2 hxs.one hzs.one c1 (by omega) c2
 have hcall:=zEu (args:=[.slice s i.els.length sk,.int .i64 i.i,.slice v 1 vk]) hm hf hb [] hok hfx hsz3 (heq s i.els.length sk i.i v 1 vk w _) hv
 refine nA hbd (hcall.mono ?_)
 rintro en w' ⟨a,kk,rfl,H3⟩
 have H4:Hp k w' (slO e sz a (i.els.take i.i++i.el::i.els.drop i.i).length kk (xs.take (i.i*sz)++zs++xs.drop (i.i*sz))::(([]:List (Nat×AObj)).map (rHP E)++fz E.F::L)):=by
  have:(i.els.take i.i++i.el::i.els.drop i.i).length=i.els.length+1:=by
   rw[yRi,yRt,yRz,ySb];omega
  rw[this]
  exact H3.swap.drop
 obtain⟨E',r1,r2,r3⟩:=cG (nx:=2) R.nx (by
  rw[List.flatten_append,yTk,← aK i.i hu,← b6 i.i hu,← yRn]
  exact((hxs.take _).append hzs).append (hxs.drop _)) (fun x hx=>by
   rcases ySg.1 hx with hx|hx
   ·exact hu x (yWg hx)
   ·rcases yRy.1 hx with rfl|hx
    ·exact hel
    ·exact hu x (yUm hx)) H4
 have hl:(i.els.take i.i++i.el::i.els.drop i.i).length=i.els.length+1:=by
  rw[yRi,yRt,yRz,ySb];omega
 rw[hl]at r3
 refine⟨_,rfl,_,yTa.2 rfl,(),trivial,E',r1,r3,⟨r2.nx,?_⟩⟩
 have q1:=((@vS k w' True _).2 ⟨trivial,r2.hp⟩).imp (B:=rHP E' (1,.gone)) fun x hx=> .inl ⟨rfl,hx.2⟩
 have q2:=((@vS k w' True _).2 ⟨trivial,q1⟩).imp (B:=rHP E' (0,.gone)) fun x hx=> .inl ⟨rfl,hx.2⟩
 exact q2
open Go Cv Go.Proofs
def bbetterC:Con:=con1 I3' (fun i=>[zA i.side,zA i.x,zA i.y]) (fun _=>[]) (fun _=>True) (fun i=>yM (btr i.side i.x i.y)) (fun _=>[])
@[reducible] def yOn (s:Slot):V:= .agg [yM s.used,zA s.n,zA s.id,zA s.qty,yM s.top,zA s.queue,zA s.ahead,zA s.back]
def pushFC:Con:=con1 Slot (fun s=>[yOn s]) (fun _=>[]) (fun _=>True) (fun s=>yM (!s.used)) (fun _=>[])
def qV (l:List Slot):Int:=zEk (l.findIdx? fun s=> !s.used)
def idxSlotC:Con:=con1 (List Slot) (fun _=>[.own 0,.fn 259 [] []]) (fun l=>[.own 305 8 (l.map zP)]) (fun l=>l.length≤1000000) (fun l=>zA (qV l)) (fun l=>[.own 305 8 (l.map zP)])
def z8m (l:List Slot):List SAnn:=[{ι:=Nat,slots:=fun j=>[(8,zA j)],rows:=fun _=>[]}]
def cY:fY:=⟨-1,-1,0,0⟩
def Arena.openQ (a:Arena):Arena:={a with queues:=a.queues++[cY]}
def aopenC:Con:=con1 Arena (fun _=>[.nm 0 0]) (fun a=>[jD a]) (fun a=>a.queues.length≤1000000) (fun a=>zA a.queues.length) (fun a=>[jD a.openQ])
structure z4o where
 a:Arena
 n:Int
 t:Bool
def Arena.usedAt (a:Arena) (n:Int):Bool:=decide (0≤n) && (decide (n<a.slots.length) && (a.slots.getD n.toNat slot0).used)
def Arena.topF (a:Arena) (n:Int) (t:Bool):Arena:=if a.usedAt n=true then{a with slots:=a.slots.modify n.toNat fun s=>{s with top:=t}}else a
def atopC:Con:=con1 z4o (fun i=>[.nm 0 0,zA i.n,yM i.t]) (fun i=>[jD i.a]) (fun i=>i.a.slots.length≤1000000) (fun i=>zA (if i.a.usedAt i.n=true then 0 else 26)) (fun i=>[jD (i.a.topF i.n i.t)])
structure PuI where
 a:Arena
 n:Int
 id:Int
 qty:Int
 top:Bool
def Arena.put (a:Arena) (n id qty:Int) (top:Bool):Arena:=
 let q:=a.queues.getD n.toNat cY
 let k:=qV a.slots
 let sl:=a.slots.set k.toNat ⟨true,k,id,qty,top,n,q.last,-1⟩
 ⟨if q.last= -1 then sl else sl.modify q.last.toNat fun s=>{s with back:=k},a.queues.set n.toNat ⟨if q.last= -1 then k else q.first,k,IntKind.i64.wrap (q.total+qty),IntKind.i64.wrap (q.count+1)⟩,IntKind.i64.wrap (a.free-1)⟩
def Arena.push (a:Arena) (n id qty:Int) (top:Bool):Arena×Int×Int:=
 if n<0∨a.queues.length≤n then(a,0,26)else if qty<1∨1000000<qty then(a,0,24)else if a.free=0 then(a,0,13)else(a.put n id qty top,qV a.slots,0)
def Arena.fit (a:Arena):Prop:=a.slots.length≤1000000∧(a.free≠0→∃s∈a.slots,s.used=false)∧∀q∈a.queues,q.last= -1∨(0≤q.last∧q.last<a.slots.length)
def apushC:Con:=con1 PuI (fun i=>[.nm 0 0,zA i.n,zA i.id,zA i.qty,yM i.top]) (fun i=>[jD i.a]) (fun i=>i.a.fit) (fun i=> .tup [zA (i.a.push i.n i.id i.qty i.top).2.1,zA (i.a.push i.n i.id i.qty i.top).2.2]) (fun i=>[jD (i.a.push i.n i.id i.qty i.top).1])
@[reducible] def zEf (b:Book):List AObj:=[zQ b 0,zQ b 1,zQ b 2,zQ b 3,zQ b 4,zQ b 5]
structure BkP where
 b:Book
 price:Int
def zU (s:Int) (l:List xF) (price:Int):Nat:=(l.takeWhile fun r=>btr s r.price price).length
def qX (s:Int) (l:List xF) (price:Int):Bool:=match l[zU s l price]? with
 |some r=>decide (r.price=price)
 |none=>false
def Book.rungs (b:Book) (s:Int):List xF:=if s=1 then b.buys else b.sells
def yAs (s:Int):Con:=con1 BkP (fun i=>[.nm 0 0,zA s,zA i.price]) (fun i=>zEf i.b) (fun i=>i.b.small) (fun i=> .tup [zA (zU s (i.b.rungs s) i.price),yM (qX s (i.b.rungs s) i.price)]) (fun i=>zEf i.b)
def find1C:Con:=yAs 1
def find2C:Con:=yAs 2
def yFy:List SAnn:=[{ι:=Nat,slots:=fun j=>[(9,zA j)],rows:=fun _=>[]}]
def pget (l:List (Int×Place)) (k:Int):Option Place:=(l.find? fun x=>decide (x.1=k)).map (·.2)
def nU (k:Int) (v:Place):List (Int×Place)→List (Int×Place)
 |[]=>[(k,v)]
 |(a,b)::l=>if k=a then(a,v)::l else(a,b)::nU k v l
structure LdI where
 b:Book
 id:Int
def Book.hasF (b:Book) (s:Int):Bool:=if s=1 then b.has1 else b.has2
def Book.topI (b:Book) (s:Int):Int:=if s=1 then b.top1 else b.top2
def Book.untop (b:Book) (s:Int):Arena:=if b.hasF s=true then(match pget b.at_ (b.topI s)with
 |some o=>if o.side=s then b.a.topF o.slot false else b.a
 |none=>b.a)else b.a
def Book.leadF (b:Book) (id s:Int):Book:=if s=1 then{b with a:=b.untop s,top1:=id,has1:=true}else{b with a:=b.untop s,top2:=id,has2:=true}
def yAf (s:Int):Con:=con1 LdI (fun i=>[.nm 0 0,zA i.id,zA s]) (fun i=>zEf i.b) (fun i=>i.b.small) (fun _=>zRg) (fun i=>zEf (i.b.leadF i.id s))
def lead1C:Con:=yAf 1
def lead2C:Con:=yAf 2
def Book.newQ (b:Book):Int×List Int×Arena:=if b.spare.length=0 then(b.a.queues.length,b.spare,b.a.openQ)else(b.spare.getD (b.spare.length-1) 0,b.spare.take (b.spare.length-1),b.a)
def Book.ins (b:Book) (s price:Int):List xF:=(b.rungs s).take (zU s (b.rungs s) price)++⟨price,b.newQ.1⟩::(b.rungs s).drop (zU s (b.rungs s) price)
def Book.queueF (b:Book) (s price:Int):Book×Int:=
 if qX s (b.rungs s) price=true then(b,((b.rungs s).getD (zU s (b.rungs s) price) ⟨0,0⟩).queue)
 else(if s=1 then{b with a:=b.newQ.2.2,buys:=b.ins s price,spare:=b.newQ.2.1}else{b with a:=b.newQ.2.2,sells:=b.ins s price,spare:=b.newQ.2.1},b.newQ.1)
def yDd (b:Book):AObj:= .cells [.nm 1 0,.own 6,.own 3,.mp 4,zA b.top1,zA b.top2,.own 7,yM b.has1,yM b.has2] 244
def yDv (b:Book):AObj:= .cells [.nm 1 0,.own 2,.own 6,.mp 4,zA b.top1,zA b.top2,.own 7,yM b.has1,yM b.has2] 244
@[reducible] def yHn (b:Book):List AObj:=[yDd b,zQ b 1,.gone,zQ b 3,zQ b 4,.gone,zQ b 2,zQ b 5]
@[reducible] def yHz (b:Book):List AObj:=[yDv b,zQ b 1,zQ b 2,.gone,zQ b 4,.gone,zQ b 3,zQ b 5]
@[reducible] def Book.fit (b:Book):Prop:=b.a.fit∧b.a.queues.length≤100000∧b.buys.length≤100000∧b.sells.length≤100000∧b.spare.length≤100000
def queue1C:Con:=con1 BkP (fun i=>[.nm 0 0,zA 1,zA i.price]) (fun i=>zEf i.b) (fun i=>i.b.fit) (fun i=>zA (i.b.queueF 1 i.price).2) (fun i=>yHn (i.b.queueF 1 i.price).1)
def queue2C:Con:=con1 BkP (fun i=>[.nm 0 0,zA 2,zA i.price]) (fun i=>zEf i.b) (fun i=>i.b.fit) (fun i=>zA (i.b.queueF 2 i.price).2) (fun i=>yHz (i.b.queueF 2 i.price).1)
def insRC:Con:=yCl 301 2 16
end Sx
