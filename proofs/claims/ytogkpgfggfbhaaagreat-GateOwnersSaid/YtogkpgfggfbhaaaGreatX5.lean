/- Texts of ours, one behind the other: a walk that the kernel reckons, and contracts of functions. No condition. -/
import Derived.Laws.AppendOwn
import Derived.Lib.AppendZerosOnto
import Derived.Lib.Overlaps
import Derived.Test.YtogkpgfggfbhaaaGreatX4
namespace Sx
set_option linter.unusedVariables false
set_option linter.unusedSimpArgs false
set_option maxRecDepth 100000
open Go Cv Go.Proofs
theorem ySp (n:Nat) (h:newAC.cnd n):yLj n:=by
 obtain⟨h1,h2⟩:1≤n∧n≤4096:=h
 unfold yLj dI
 refine zJ (fun c=>by omega) fun c=>zJ (fun c=>by omega) fun c=> ?_
 refine⟨⟨by omega,by omega,by omega,?_⟩,?_⟩
 ·have:(2:Int) ^ (48:Nat)=281474976710656:=by decide
  rw[this];omega
 ·refine⟨(),rfl,rfl,?_,rfl,trivial⟩
  rw[List.map_replicate];rfl
theorem yIb:newAC.ok Tryz.prog 179:=okw mixed gok0 0 (fun _=>[]) (fun _=>[]) [] Tryz.func179 ySp
theorem yJt:newBC.ok Tryz.prog 141:=okw (V:=yUi) mixed (gokc yIb gok0) 0 (fun _=>[]) (fun _=>[]) [] Tryz.func141 fun(u:Unit) _=>by
 refine⟨250,rfl,⟨by omega,by omega⟩,?_⟩;exact kp
theorem yTf (p:Prd) (h:newSC.cnd p):yKy p:=by
 unfold yKy zQn zIi uP cY z8 dI
 have hs:p.small:=h
 obtain⟨h1,h2,h3⟩:p.small:=h
 refine⟨p,?_⟩
 simp only[y5]
 (repeat'(first|exact rfl|exact trivial|assumption|apply And.intro|refine fun(_:Unit) (_:True)=>?_|refine Exists.intro () ?_|omega|(dsimp only;omega)))
 refine Cv.cnd.mk (fun c=> .inr ⟨(),trivial,kp,by simpa using c⟩) fun c=> ?_
 have c:p.check=0:=by simpa using c
 have hc:=xV p
 (repeat'(first|exact rfl|exact trivial|assumption|apply And.intro|refine fun(_:Unit) (_:True)=>?_|refine Exists.intro () ?_|omega|(dsimp only;omega)))
 all_goals(refine⟨p,?_⟩;(repeat'(first|exact rfl|exact trivial|assumption|apply And.intro|refine fun(_:Unit) (_:True)=>?_|refine Exists.intro () ?_|omega|(dsimp only;omega))))
 all_goals(refine⟨0,?_⟩;(repeat'(first|exact rfl|exact trivial|assumption|apply And.intro|refine fun(_:Unit) (_:True)=>?_|refine Exists.intro () ?_|omega|(dsimp only;omega))))
 all_goals(refine⟨fun j=>j≤p.count,fun j=>p.count-j,by omega,fun j hj=>zJ (fun hlt=> ?_) (fun hlt=> ?_)⟩;all_goals dsimp only at hj hlt)
 all_goals first
  |(refine .inl ⟨(),?_⟩
    obtain rfl:j=p.count:=by omega
    (repeat'(first|exact rfl|exact trivial|assumption|apply And.intro|refine fun(_:Unit) (_:True)=>?_|refine Exists.intro () ?_|omega|(dsimp only;omega))))
  |(refine⟨(),trivial,fun _ _=>⟨trivial,trivial,List.replicate j book0,rfl,?_,j+1,?_⟩⟩
    ·rw[yZm];omega
    ·rw[w64 (by omega),← List.replicate_succ']
     (repeat'(first|exact rfl|exact trivial|assumption|apply And.intro|refine fun(_:Unit) (_:True)=>?_|refine Exists.intro () ?_|omega|(dsimp only;omega))))
theorem yHi:newSC.ok Tryz.prog 98:=okw mixed (gokc zBj (gokc aZ (gokc yJt gok0))) 0 (fun _=>[]) (fun p=>yTy p) [] Tryz.func98 yTf
theorem z6k:clSlotC.ok Tryz.prog 216:=okw (V:=yKa) mixed gok0 0 (fun _=>[]) (fun _=>[]) [] Tryz.func216 fun(l:List Slot) h=>by
 have h:l.length≤1000000:=h
 exact fun b hb=>Cv.cnd.mk (fun e=>⟨(),rfl,hb e,trivial⟩) (fun _=>⟨by rw[yXq,yWo];omega,(),rfl,rfl,trivial⟩)
theorem zXq:clQueueC.ok Tryz.prog 217:=okw (V:=yFm) mixed gok0 0 (fun _=>[]) (fun _=>[]) [] Tryz.func217 fun(l:List dW) h=>by
 have h:l.length≤1000000:=h
 exact fun b hb=>Cv.cnd.mk (fun e=>⟨(),rfl,hb e,trivial⟩) (fun _=>⟨by rw[yXq,yWo];omega,(),rfl,rfl,trivial⟩)
theorem z6m:clRungC.ok Tryz.prog 182:=okw (V:=yJd) mixed gok0 0 (fun _=>[]) (fun _=>[]) [] Tryz.func182 fun(l:List xM) h=>by
 have h:l.length≤1000000:=h
 exact fun b hb=>Cv.cnd.mk (fun e=>⟨(),rfl,hb e,trivial⟩) (fun _=>⟨by rw[yXq,yWo];omega,(),rfl,rfl,trivial⟩)
theorem yFw:clIntC.ok Tryz.prog 130:=okw (V:=yOe) mixed gok0 0 (fun _=>[]) (fun _=>[]) [] Tryz.func130 fun(l:List Int) h=>by
 have h:l.length≤1000000:=h
 exact fun b hb=>Cv.cnd.mk (fun e=>⟨(),rfl,hb e,trivial⟩) (fun _=>⟨by rw[yXq,y5];omega,(),rfl,rfl,trivial⟩)
theorem zDs (t:Nat):(gE t).ok Tryz.prog 147:=z0k Tryz.func147 (by kernel_rfl) (by kernel_rfl) (by kernel_rfl) (by kernel_rfl) t
theorem yJn:clAtC.ok Tryz.prog 181:=yPo (gokc (zDs _) gok0) fun es _=>by
 unfold yAw
 refine⟨es,?_⟩;exact kp
theorem yJh:clWhC.ok Tryz.prog 145:=yNr (gokc (zDs _) gok0) fun es _=>by
 unfold z9k
 refine⟨es,?_⟩;exact kp
theorem yFr:copyAC.ok Tryz.prog 180:=okw (V:=yOu) mixed (gokc z6k (gokc zXq gok0)) 0 (fun _=>[]) (fun _=>[]) [0] Tryz.func180 fun(a:Arena) h=>by
 obtain⟨h1,h2⟩:a.small:=h
 refine⟨a.slots,?_⟩;(repeat'(first|exact rfl|exact trivial|assumption|apply And.intro|refine fun(_:Unit) (_:True)=>?_|refine Exists.intro () ?_|omega|(dsimp only;omega)))
 refine⟨a.queues,?_⟩;exact kp
theorem yEx:copyBC.ok Tryz.prog 146:=okw (V:=yQh) mixed (gokc yFr (gokc yJn (gokc yFw (gokc z6m gok0)))) 0 (fun _=>[]) (fun _=>yOy) [0] Tryz.func146 fun(b:Book) h=>by
 obtain⟨⟨h1,h1'⟩,h2,h3,h4⟩:b.small:=h
 refine⟨b.a,?_⟩;(repeat'(first|exact rfl|exact trivial|assumption|apply And.intro|refine fun(_:Unit) (_:True)=>?_|refine Exists.intro () ?_|omega|(dsimp only;omega)))
 refine⟨atE b.at_,?_⟩;(repeat'(first|exact rfl|exact trivial|assumption|apply And.intro|refine fun(_:Unit) (_:True)=>?_|refine Exists.intro () ?_|omega|(dsimp only;omega)))
 refine⟨b.spare,?_⟩;(repeat'(first|exact rfl|exact trivial|assumption|apply And.intro|refine fun(_:Unit) (_:True)=>?_|refine Exists.intro () ?_|omega|(dsimp only;omega)))
 refine⟨b.buys,?_⟩;(repeat'(first|exact rfl|exact trivial|assumption|apply And.intro|refine fun(_:Unit) (_:True)=>?_|refine Exists.intro () ?_|omega|(dsimp only;omega)))
 refine⟨b.sells,?_⟩;exact kp
open Go Cv Go.Proofs
structure ArN where
 a:Arena
 n:Int
def Arena.qAt (a:Arena) (n:Int):dW:=if 0≤n∧n<a.queues.length then a.queues.getD n.toNat ⟨0,0,0,0⟩else⟨0,0,0,0⟩
def atotalC:Con:=con1 ArN (fun i=>[.nm 0 0,zA i.n]) (fun i=>[jO i.a]) (fun i=>True) (fun i=>zA (i.a.qAt i.n).total) (fun i=>[jO i.a])
def acountC:Con:=con1 ArN (fun i=>[.nm 0 0,zA i.n]) (fun i=>[jO i.a]) (fun i=>True) (fun i=>zA (i.a.qAt i.n).count) (fun i=>[jO i.a])
def bisC:Con:=con1 Int (fun n=>[zA n]) (fun _=>[]) (fun _=>True) (fun n=>yL (decide (n=1)||decide (n=2))) (fun _=>[])
structure BkR where
 b:Book
 r:xM
def Book.told (b:Book) (r:xM):Lv:=⟨r.price,(b.a.qAt r.queue).total,(b.a.qAt r.queue).count⟩
@[reducible] def Book.cntOk (b:Book):Prop:=∀q∈b.a.queues,yV q.count
def toldC:Con:=con1 BkR (fun i=>[.nm 0 0,.agg [zA i.r.price,zA i.r.queue]]) (fun i=>[yB i.b]) (fun i=>i.b.cntOk) (fun i=>lvV (i.b.told i.r)) (fun i=>[yB i.b])
def Book.best (b:Book) (l:List xM):Lv×Bool:=match l with
 |[]=>(⟨0,0,0⟩,false)
 |r::_=>(b.told r,true)
structure BkS where
 side:Bool
 b:Book
def Book.side (b:Book) (s:Bool):List xM:=if s then b.sells else b.buys
@[reducible] def zYb (b:Book) (l:List xM):V:= .tup [lvV (b.best l).1,yL (b.best l).2]
def best1C:Con:=con1 Book (fun _=>[.nm 0 0,zA 1]) (fun b=>[yB b]) Book.cntOk (fun b=>zYb b b.buys) (fun b=>[yB b])
def best2C:Con:=con1 Book (fun _=>[.nm 0 0,zA 2]) (fun b=>[yB b]) Book.cntOk (fun b=>zYb b b.sells) (fun b=>[yB b])
def zB (s:Bool):Int:=if s then 2 else 1
def bestC:Con:=con1 BkS (fun i=>[.nm 0 0,zA (zB i.side)]) (fun i=>[yB i.b]) (fun i=>i.b.cntOk) (fun i=>zYb i.b (i.b.side i.side)) (fun i=>[yB i.b])
structure Top where
 has1:Bool
 has2:Bool
 p1:Int
 p2:Int
 q1:Int
 q2:Int
 deriving DecidableEq
def z7 (t:Top):List D:=[.v (.bool t.has1),.v (.bool t.has2),.v (.int .i64 t.p1),.v (.int .i64 t.p2),.v (.int .i64 t.q1),.v (.int .i64 t.q2)]
def top0:Top:=⟨false,false,0,0,0,0⟩
def Top.buy (t:Top) (x:Lv×Bool):Top:=if x.2 then{t with has1:=true,p1:=x.1.price,q1:=x.1.qty}else t
def Top.sell (t:Top) (x:Lv×Bool):Top:=if x.2 then{t with has2:=true,p2:=x.1.price,q2:=x.1.qty}else t
def Book.top (b:Book):Top:=(top0.buy (b.best b.buys)).sell (b.best b.sells)
def MSt.tops (s:MSt):List Top:=s.books.map Book.top
@[reducible] def MSt.cntOk (s:MSt):Prop:=s.books.length≤1000000∧∀b∈s.books,b.cntOk
def topsC:Con:=con1 MSt (fun _=>[.nm 0 0]) (fun s=>[zE s]) MSt.cntOk (fun s=> .own 1) (fun s=>[zE s,.own 269 6 (s.tops.map z7)])
def xX (s:MSt) (j:Nat) (x:Top):List Top:=(s.tops.take j)++x::List.replicate (s.books.length-j-1) top0
def x5 (s:MSt) (j:Nat):List Top:=(s.tops.take j)++List.replicate (s.books.length-j) top0
def yRp (s:MSt):List SAnn:=[
 {ι:=Nat,slots:=fun j=>[(3,.own 0),(21,zA j)],rows:=fun j=>[.own 269 6 ((x5 s j).map z7)]},
 {ι:=Unit,slots:=fun _=>[],rows:=fun _=>[],un:=3}]
def ySu (s:MSt):List (Nat×SAnn):=[(15,{ι:=Nat×Top,slots:=fun x=>[(3,.own 0)],slots0:=fun x=>[(3,.own 0)],rows0:=fun x=>[.own 269 6 ((xX s x.1 x.2).map z7)],rows:=fun x=>[.own 269 6 ((xX s x.1 x.2).map z7)]})]
def yOn (s:MSt):List SAnn:=[{ι:=Nat,slots:=fun j=>[(3,.nm 0 0),(22,zA j)],rows:=fun j=>(List.range 5).map (xR ⟨s.p,s.books.take j,s.wh⟩)}]
open Go Cv Go.Proofs
def jE (a:ArN):Prop:=a.a.free=a.a.free∧List.map zR a.a.slots=List.map zR a.a.slots∧List.map zP a.a.queues=List.map zP a.a.queues∧True
def sD (a:ArN):Prop:=∃(b:Unit),(a.a.qAt a.n).total=0∧jE a
def gP (a:ArN):=(↑(List.map zP a.a.queues).length:Int)
def z4e (i:ArN):Prop:=
 cnd (decide (i.n≥0)) (cnd (!decide (i.n<(gP i))) (sD i) ((0≤i.n∧i.n<(gP i))∧∃(a:Int),zF (List.map zP i.a.queues) i.n.toNat ((0:Nat)+(2:Nat)) 1=some [dI a]∧∃(b:Unit),(i.a.qAt i.n).total=a∧jE i)) (sD i)
def rR (a:ArN):Prop:=∃(b:Unit),(a.a.qAt a.n).count=0∧jE a
def z1r (i:ArN):Prop:=
 cnd (decide (i.n≥0)) (cnd (!decide (i.n<(gP i))) (rR i) ((0≤i.n∧i.n<(gP i))∧∃(a:Int),zF (List.map zP i.a.queues) i.n.toNat ((0:Nat)+(3:Nat)) 1=some [dI a]∧∃(b:Unit),(i.a.qAt i.n).count=a∧jE i)) (rR i)
def vW (a:Int):=(decide (a=1)||decide (a=2))
def yTl (n:Int):Prop:=
 cnd (n==1) (∃(a:Unit),(vW n)=true∧True) (∃(a:Unit),(vW n)=(n==2)∧True)
def yRx (i:BkR):Prop:=
 ∃(i_1:ArN),i_1.n=i.r.queue∧AObj.adt Arena 3 zH i_1.a=AObj.adt Arena 3 zH i.b.a∧True∧∀(o:Unit),True→i.r.queue=i.r.queue∧True∧i.r.price=i.r.price∧∃(i_2:ArN),i_2.n=i.r.queue∧AObj.adt Arena 3 zH i_2.a=AObj.adt Arena 3 zH i_1.a∧True∧∀(o:Unit),True→i.r.price=i.r.price∧∃(o:Unit),i.r.price=i.r.price∧(i.b.a.qAt i.r.queue).total=(i_1.a.qAt i_1.n).total∧(i.b.a.qAt i.r.queue).count=(i_2.a.qAt i_2.n).count∧i.b.top1=i.b.top1∧i.b.top2=i.b.top2∧i.b.has1=i.b.has1∧i.b.has2=i.b.has2∧AObj.adt Arena 3 zH i.b.a=AObj.adt Arena 3 zH i_2.a∧List.map zC i.b.buys=List.map zC i.b.buys∧List.map zC i.b.sells=List.map zC i.b.sells∧atE i.b.at_=atE i.b.at_∧iE i.b.spare=iE i.b.spare∧True
def yQk (b:Book):Prop:=
 ∃(i:Int),i=1∧True∧∀(o:Unit),True→cnd (!(decide (i=1)||decide (i=2))) (∃(o:Unit),(b.best b.buys).fst.price=0∧(b.best b.buys).fst.qty=0∧(b.best b.buys).fst.count=0∧(b.best b.buys).snd=false∧b.top1=b.top1∧b.top2=b.top2∧b.has1=b.has1∧b.has2=b.has2∧AObj.adt Arena 3 zH b.a=AObj.adt Arena 3 zH b.a∧List.map zC b.buys=List.map zC b.buys∧List.map zC b.sells=List.map zC b.sells∧atE b.at_=atE b.at_∧iE b.spare=iE b.spare∧True) (cnd ((↑(List.map zC b.buys).length:Int)==0) (∃(o:Unit),(b.best b.buys).fst.price=0∧(b.best b.buys).fst.qty=0∧(b.best b.buys).fst.count=0∧(b.best b.buys).snd=false∧b.top1=b.top1∧b.top2=b.top2∧b.has1=b.has1∧b.has2=b.has2∧AObj.adt Arena 3 zH b.a=AObj.adt Arena 3 zH b.a∧List.map zC b.buys=List.map zC b.buys∧List.map zC b.sells=List.map zC b.sells∧atE b.at_=atE b.at_∧iE b.spare=iE b.spare∧True) (((0:Int)≤(0:Int)∧0<(↑(List.map zC b.buys).length:Int))∧∃(n:Int),∃(n_1:Int),zF (List.map zC b.buys) (Int.toNat 0) 0 2=some [D.v (.int .i64 n),D.v (.int .i64 n_1)]∧∃(i:BkR),i.r.price=n∧i.r.queue=n_1∧i.b.top1=b.top1∧i.b.top2=b.top2∧i.b.has1=b.has1∧i.b.has2=b.has2∧AObj.adt Arena 3 zH i.b.a=AObj.adt Arena 3 zH b.a∧List.map zC i.b.buys=List.map zC b.buys∧List.map zC i.b.sells=List.map zC b.sells∧atE i.b.at_=atE b.at_∧iE i.b.spare=iE b.spare∧(∀(q:dW),q∈i.b.a.queues→(-9223372036854775808)≤q.count∧q.count≤9223372036854775807)∧∀(o:Unit),True→∃(o:Unit),(b.best b.buys).fst.price=i.r.price∧(b.best b.buys).fst.qty=(i.b.a.qAt i.r.queue).total∧(b.best b.buys).fst.count=(i.b.a.qAt i.r.queue).count∧(b.best b.buys).snd=true∧yB b=yB i.b∧True))
def yQu (b:Book):Prop:=
 ∃(i:Int),i=2∧True∧∀(o:Unit),True→cnd (!(decide (i=1)||decide (i=2))) (∃(o:Unit),(b.best b.sells).fst.price=0∧(b.best b.sells).fst.qty=0∧(b.best b.sells).fst.count=0∧(b.best b.sells).snd=false∧b.top1=b.top1∧b.top2=b.top2∧b.has1=b.has1∧b.has2=b.has2∧AObj.adt Arena 3 zH b.a=AObj.adt Arena 3 zH b.a∧List.map zC b.buys=List.map zC b.buys∧List.map zC b.sells=List.map zC b.sells∧atE b.at_=atE b.at_∧iE b.spare=iE b.spare∧True) (cnd ((↑(List.map zC b.sells).length:Int)==0) (∃(o:Unit),(b.best b.sells).fst.price=0∧(b.best b.sells).fst.qty=0∧(b.best b.sells).fst.count=0∧(b.best b.sells).snd=false∧b.top1=b.top1∧b.top2=b.top2∧b.has1=b.has1∧b.has2=b.has2∧AObj.adt Arena 3 zH b.a=AObj.adt Arena 3 zH b.a∧List.map zC b.buys=List.map zC b.buys∧List.map zC b.sells=List.map zC b.sells∧atE b.at_=atE b.at_∧iE b.spare=iE b.spare∧True) (((0:Int)≤(0:Int)∧0<(↑(List.map zC b.sells).length:Int))∧∃(n:Int),∃(n_1:Int),zF (List.map zC b.sells) (Int.toNat 0) 0 2=some [D.v (.int .i64 n),D.v (.int .i64 n_1)]∧∃(i:BkR),i.r.price=n∧i.r.queue=n_1∧i.b.top1=b.top1∧i.b.top2=b.top2∧i.b.has1=b.has1∧i.b.has2=b.has2∧AObj.adt Arena 3 zH i.b.a=AObj.adt Arena 3 zH b.a∧List.map zC i.b.buys=List.map zC b.buys∧List.map zC i.b.sells=List.map zC b.sells∧atE i.b.at_=atE b.at_∧iE i.b.spare=iE b.spare∧(∀(q:dW),q∈i.b.a.queues→(-9223372036854775808)≤q.count∧q.count≤9223372036854775807)∧∀(o:Unit),True→∃(o:Unit),(b.best b.sells).fst.price=i.r.price∧(b.best b.sells).fst.qty=(i.b.a.qAt i.r.queue).total∧(b.best b.sells).fst.count=(i.b.a.qAt i.r.queue).count∧(b.best b.sells).snd=true∧yB b=yB i.b∧True))
def zGf (a:MSt):Prop:=Sx.AObj.map (yU a.wh)=Sx.AObj.map (yU a.wh)∧AObj.fro 1 (iE a.p.months)=AObj.fro 1 (iE a.p.months)∧AObj.fro 1 (iE a.p.settle)=AObj.fro 1 (iE a.p.settle)
def zBr (a:Nat×Top→Prop) (b:Nat×Top) (c:MSt) (d:Nat) (e:Book):Prop:=a b∧AObj.own 3 1 [[dI 1],[dI 2]]=AObj.own 3 1 [[dI 1],[dI 2]]∧Sx.AObj.cells (jT (kG 0 1 5) [sV c.p.code,V.own 3,zA c.p.tick,zA c.p.low,zA c.p.high,zA c.p.wide,zA c.p.rule,zA c.p.top,zA c.p.least,zA c.p.part,V.own 4,V.own 1,V.mp 2]) (182:TypeId)=Sx.AObj.cells (jT (kG 0 1 5) [sV c.p.code,V.own 3,zA c.p.tick,zA c.p.low,zA c.p.high,zA c.p.wide,zA c.p.rule,zA c.p.top,zA c.p.least,zA c.p.part,V.own 4,V.own 1,V.mp 2]) (182:TypeId)∧AObj.objs 184 Book 6 zS (c.books.set (↑d:Int).toNat e) none=AObj.objs 184 Book 6 zS c.books none∧zGf c
def zJp (a:MSt) (b:Nat×Top) (c:Nat×Top→Prop) (d:Nat) (e:Book):Prop:=∃(f:Nat×Top),List.map z7 (xX a f.fst f.snd)=List.map z7 (xX a b.fst b.snd)∧zBr c f a d e
def uF (a:MSt) (b:Nat×Top):=(List.map z7 (xX a b.fst b.snd))
def cX (a:MSt) (b:Nat×Top) (c:Nat):=(yE (uF a b) (↑c:Int).toNat ((0:Nat)+(0:Nat)+(nat_lit 0+nat_lit 1) % ((2:Int) ^ IntKind.i64.bits).natAbs*1) [D.v (.bool true)])
def zT (a:BkS):=(a.b.best (a.b.side a.side))
def dJ (a:BkS):=((zT a).fst.price)
def dK (a:MSt) (b:Nat×Top) (c:Nat) (d:BkS):=(yE (cX a b c) (↑c:Int).toNat ((0:Nat)+(2:Nat)+(nat_lit 0+nat_lit 1) % ((2:Int) ^ IntKind.i64.bits).natAbs*1) [dI (dJ d)])
def tF (a:Nat) (b:MSt) (c:Nat×Top) (d:BkS):Prop:=(0≤(↑a:Int)∧(↑a:Int)<(↑(dK b c a d).length:Int))∧(↑a:Int).toNat=(↑a:Int).toNat
def c9 (a:MSt) (b:Nat×Top) (c:Nat):=(yE (uF a b) (↑c:Int).toNat ((0:Nat)+(0:Nat)+nat_lit 0*1) [D.v (.bool true)])
def dC (a:MSt) (b:Nat×Top) (c:Nat) (d:BkS):=(yE (c9 a b c) (↑c:Int).toNat ((0:Nat)+(2:Nat)+nat_lit 0*1) [dI (dJ d)])
def eO (a:Nat) (b:MSt) (c:Nat×Top) (d:BkS):Prop:=(0≤(↑a:Int)∧(↑a:Int)<(↑(dC b c a d).length:Int))∧(↑a:Int).toNat=(↑a:Int).toNat
def c8 (a:Nat) (b:MSt) (c:Nat×Top):Prop:=(0≤(↑a:Int)∧(↑a:Int)<(↑(cX b c a).length:Int))∧(↑a:Int).toNat=(↑a:Int).toNat
def bF (a:Nat) (b:MSt) (c:Nat×Top):Prop:=(0≤(↑a:Int)∧(↑a:Int)<(↑(c9 b c a).length:Int))∧(↑a:Int).toNat=(↑a:Int).toNat
def eJ (a:MSt):Prop:=0≤(↑a.books.length:Int)∧(↑a.books.length:Int)≤(↑a.books.length:Int)∧(↑a.books.length:Int)≤9223372036854775807∧(↑(40:Nat):Int)*(↑a.books.length:Int)≤2 ^ (48:Nat)
def wR (a:BkS):Prop:=∀(b:dW),b∈a.b.a.queues→(-9223372036854775808)≤b.count∧b.count≤9223372036854775807
def qS (a:Nat) (b:MSt) (c:Nat×Top):Prop:=0≤(↑a:Int)∧(↑a:Int)<(↑(uF b c).length:Int)
def uL (a:BkS):=((zT a).fst.qty)
def yKo (s:MSt):Prop:=
 (eJ s)∧∃(a:Nat),(↑a:Int)=0∧List.map z7 (x5 s a)=List.replicate (↑s.books.length:Int).toNat [D.v (.bool false),D.v (.bool false),dI 0,dI 0,dI 0,dI 0]∧∃(b:Nat→Prop),∃(c:Nat→Nat),b a∧∀(d:Nat),b d→cnd (decide ((↑d:Int)<(↑s.books.length:Int))) ((0≤(↑d:Int)∧(↑d:Int)<(↑s.books.length:Int))∧(↑d:Int).toNat<s.books.length∧∃(e:Nat×Top),List.map z7 (xX s e.fst e.snd)=List.map z7 (x5 s d)∧∃(f:Nat×Top→Prop),(((0:Int)≤(0:Int)∧0<(↑(2:Nat):Int))∧∃(g:Int),zF [[dI 1],[dI 2]] (Int.toNat 0) 0 1=some [dI g]∧∃(h:Book),s.books[(↑d:Int).toNat]?=some h∧∃(j:BkS),zB j.side=g∧yB j.b=yB h∧(wR j)∧∀(k:Unit),True→∃(l:Book),yB j.b=yB l∧(↑d:Int).toNat=(↑d:Int).toNat∧(↑d:Int).toNat<s.books.length∧cnd (zT j).snd ((qS d s e)∧(qS d s e)∧(qS d s e)∧(↑d:Int).toNat<(uF s e).length∧(bF d s e)∧(bF d s e)∧(zT j).fst.qty=(zT j).fst.qty∧(zT j).fst.price=(zT j).fst.price∧(↑d:Int).toNat<(c9 s e d).length∧(eO d s e j)∧(zT j).fst.qty=(zT j).fst.qty∧(↑d:Int).toNat<(dC s e d j).length∧∃(m:Nat×Top),List.map z7 (xX s m.fst m.snd)=yE (dC s e d j) (↑d:Int).toNat ((0:Nat)+(4:Nat)+nat_lit 0*1) [dI (uL j)]∧zBr f m s d l) (zJp s e f d l))∧∀(g:Nat×Top),f g→∃(h:Nat×Top),List.map z7 (xX s h.fst h.snd)=List.map z7 (xX s g.fst g.snd)∧∃(j:Nat×Top→Prop),((0≤IntKind.i64.wrap ((0:Int)+(1:Int))∧IntKind.i64.wrap ((0:Int)+(1:Int))<(↑(2:Nat):Int))∧∃(k:Int),zF [[dI 1],[dI 2]] (IntKind.i64.wrap ((0:Int)+(1:Int))).toNat 0 1=some [dI k]∧∃(l:Book),s.books[(↑d:Int).toNat]?=some l∧∃(m:BkS),zB m.side=k∧yB m.b=yB l∧(wR m)∧∀(n:Unit),True→∃(p:Book),yB m.b=yB p∧(↑d:Int).toNat=(↑d:Int).toNat∧(↑d:Int).toNat<s.books.length∧cnd (zT m).snd ((qS d s h)∧(qS d s h)∧(qS d s h)∧(↑d:Int).toNat<(uF s h).length∧(c8 d s h)∧(c8 d s h)∧(zT m).fst.qty=(zT m).fst.qty∧(zT m).fst.price=(zT m).fst.price∧(↑d:Int).toNat<(cX s h d).length∧(tF d s h m)∧(zT m).fst.qty=(zT m).fst.qty∧(↑d:Int).toNat<(dK s h d m).length∧∃(q:Nat×Top),List.map z7 (xX s q.fst q.snd)=yE (dK s h d m) (↑d:Int).toNat ((0:Nat)+(4:Nat)+(nat_lit 0+nat_lit 1) % ((2:Int) ^ IntKind.i64.bits).natAbs*1) [dI (uL m)]∧zBr j q s d p) (zJp s h j d p))∧∀(k:Nat×Top),j k→∃(l:Nat),(↑l:Int)=IntKind.i64.wrap ((↑d:Int)+1)∧List.map z7 (x5 s l)=List.map z7 (xX s k.fst k.snd)∧b l∧c l<c d∧Sx.AObj.cells (jT (kG 0 1 5) [sV s.p.code,V.own 3,zA s.p.tick,zA s.p.low,zA s.p.high,zA s.p.wide,zA s.p.rule,zA s.p.top,zA s.p.least,zA s.p.part,V.own 4,V.own 1,V.mp 2]) (182:TypeId)=Sx.AObj.cells (jT (kG 0 1 5) [sV s.p.code,V.own 3,zA s.p.tick,zA s.p.low,zA s.p.high,zA s.p.wide,zA s.p.rule,zA s.p.top,zA s.p.least,zA s.p.part,V.own 4,V.own 1,V.mp 2]) (182:TypeId)∧AObj.objs 184 Book 6 zS s.books none=AObj.objs 184 Book 6 zS s.books none∧zGf s) (∃(e:Unit),sb s.p.code=sb s.p.code∧s.p.tick=s.p.tick∧s.p.low=s.p.low∧s.p.high=s.p.high∧s.p.wide=s.p.wide∧s.p.rule=s.p.rule∧s.p.top=s.p.top∧s.p.least=s.p.least∧s.p.part=s.p.part∧AObj.objs 184 Book 6 zS s.books none=AObj.objs 184 Book 6 zS s.books none∧yU s.wh=yU s.wh∧AObj.fro 1 (iE s.p.months)=AObj.fro 1 (iE s.p.months)∧AObj.fro 1 (iE s.p.settle)=AObj.fro 1 (iE s.p.settle)∧List.map z7 s.tops=List.map z7 (x5 s d)∧True)
def yOg (s:MSt):Prop:=
 ∃(i:List (Value×List D)),i=yU s.wh∧True∧∀(o:Unit),True→(sb s.p.code=sb s.p.code∧True∧s.p.tick=s.p.tick∧s.p.low=s.p.low∧s.p.high=s.p.high∧s.p.wide=s.p.wide∧s.p.rule=s.p.rule∧s.p.top=s.p.top∧s.p.least=s.p.least∧s.p.part=s.p.part∧True∧True)∧∃(i0:Nat),(↑i0:Int)=0∧sb s.p.code=sb s.p.code∧s.p.tick=s.p.tick∧s.p.low=s.p.low∧s.p.high=s.p.high∧s.p.wide=s.p.wide∧s.p.rule=s.p.rule∧s.p.top=s.p.top∧s.p.least=s.p.least∧s.p.part=s.p.part∧List.take i0 s.books=[]∧(none:Option Nat)=none∧yU s.wh=i∧AObj.fro 1 (iE s.p.months)=AObj.fro 1 (iE s.p.months)∧AObj.fro 1 (iE s.p.settle)=AObj.fro 1 (iE s.p.settle)∧∃(I:Nat→Prop),∃(μ:Nat→Nat),I i0∧∀(i_1:Nat),I i_1→cnd (decide ((↑i_1:Int)<(↑s.books.length:Int))) ((0≤(↑i_1:Int)∧(↑i_1:Int)<(↑s.books.length:Int))∧(↑i_1:Int).toNat<s.books.length∧∃(x:Book),s.books[(↑i_1:Int).toNat]?=some x∧∃(i_2:Book),yB i_2=yB x∧((i_2.a.slots.length≤1000000∧i_2.a.queues.length≤1000000)∧i_2.buys.length≤1000000∧i_2.sells.length≤1000000∧i_2.spare.length≤1000000)∧∀(o:Unit),True→∃(x:Book),yB i_2=yB x∧(↑i_1:Int).toNat=(↑i_1:Int).toNat∧(↑i_1:Int).toNat<s.books.length∧True∧True∧∃(l1':List Book),AObj.objs 184 Book 6 zS (List.take i_1 s.books) none=AObj.objs 184 Book 6 zS l1' none∧(l1'.length+1)*(8:Nat)≤(70368744177664:Nat)∧∃(i':Nat),(↑i':Int)=IntKind.i64.wrap ((↑i_1:Int)+1)∧sb s.p.code=sb s.p.code∧s.p.tick=s.p.tick∧s.p.low=s.p.low∧s.p.high=s.p.high∧s.p.wide=s.p.wide∧s.p.rule=s.p.rule∧s.p.top=s.p.top∧s.p.least=s.p.least∧s.p.part=s.p.part∧AObj.objs 184 Book 6 zS (List.take i' s.books) none=AObj.objs 184 Book 6 zS (l1'++[i_2]) none∧yU s.wh=yU s.wh∧AObj.fro 1 (iE s.p.months)=AObj.fro 1 (iE s.p.months)∧AObj.fro 1 (iE s.p.settle)=AObj.fro 1 (iE s.p.settle)∧I i'∧μ i'<μ i_1∧Sx.AObj.map i=Sx.AObj.map i∧Sx.AObj.cells (jT (kG 0 1 5) [sV s.p.code,V.own 3,zA s.p.tick,zA s.p.low,zA s.p.high,zA s.p.wide,zA s.p.rule,zA s.p.top,zA s.p.least,zA s.p.part,V.own 4,V.own 1,V.mp 2]) (182:TypeId)=Sx.AObj.cells (jT (kG 0 1 5) [sV s.p.code,V.own 3,zA s.p.tick,zA s.p.low,zA s.p.high,zA s.p.wide,zA s.p.rule,zA s.p.top,zA s.p.least,zA s.p.part,V.own 4,V.own 1,V.mp 2]) (182:TypeId)∧AObj.objs 184 Book 6 zS (s.books.set (↑i_1:Int).toNat x) none=AObj.objs 184 Book 6 zS s.books none∧AObj.fro 1 (iE s.p.months)=AObj.fro 1 (iE s.p.months)∧AObj.fro 1 (iE s.p.settle)=AObj.fro 1 (iE s.p.settle)) (∃(o:Unit),sb s.p.code=sb s.p.code∧s.p.tick=s.p.tick∧s.p.low=s.p.low∧s.p.high=s.p.high∧s.p.wide=s.p.wide∧s.p.rule=s.p.rule∧s.p.top=s.p.top∧s.p.least=s.p.least∧s.p.part=s.p.part∧AObj.objs 184 Book 6 zS s.books none=AObj.objs 184 Book 6 zS s.books none∧yU s.wh=i∧AObj.fro 1 (iE s.p.months)=AObj.fro 1 (iE s.p.months)∧AObj.fro 1 (iE s.p.settle)=AObj.fro 1 (iE s.p.settle)∧sb s.p.code=sb s.p.code∧s.p.tick=s.p.tick∧s.p.low=s.p.low∧s.p.high=s.p.high∧s.p.wide=s.p.wide∧s.p.rule=s.p.rule∧s.p.top=s.p.top∧s.p.least=s.p.least∧s.p.part=s.p.part∧AObj.objs 184 Book 6 zS s.books none=AObj.objs 184 Book 6 zS (List.take i_1 s.books) none∧yU s.wh=yU s.wh∧AObj.fro 1 (iE s.p.months)=AObj.fro 1 (iE s.p.months)∧AObj.fro 1 (iE s.p.settle)=AObj.fro 1 (iE s.p.settle)∧True)
open Go Cv Go.Proofs
theorem elA {α:Type} {f:α→List D} {l:List α} {i g n:Nat} {x:α} {r:List D} (h:l[i]? =some x) (hn:g+n≤(f x).length) (hr:((f x).drop g).take n=r):zF (l.map f) i g n=some r:=by
 unfold zF
 rw[yYj,h]
 simp only[yYo,Nat.ble_eq_true_of_le hn,cond_true,hr]
theorem zRz {a:Arena} {n:Int} {q:dW} (h0:0≤n) (h:a.queues[n.toNat]? =some q):a.qAt n=q:=by
 have:=(yWn.1 h).1
 rw[Arena.qAt,yWm ⟨h0,by omega⟩,yWt,h];rfl
theorem zIc {a:Arena} {n:Int} (h:¬(0≤n∧n<a.queues.length)):a.qAt n=⟨0,0,0,0⟩:=by rw[Arena.qAt,yWl h]
theorem z5p:atotalC.ok Tryz.prog 232:=okw (V:=z4e) mixed gok0 1 (fun _=>[]) (fun _=>[]) [0] Tryz.func232 fun(i:ArN) _=>by
 unfold z4e gP sD jE dI
 simp only[yWo]
 refine zJ (fun c=>Cv.cnd.mk (fun d=> ?_) (fun d=> ?_)) (fun c=> ?_)
 ·have d:¬i.n<(i.a.queues.length:Int):=by simpa using d
  rw[zIc (by omega)];exact kp
 ·have d:i.n<(i.a.queues.length:Int):=by simpa using d
  obtain⟨q,hq⟩:=yA (l:=i.a.queues) (i:=i.n.toNat) (by omega)
  rw[zRz (by omega) hq]
  refine⟨⟨by omega,by omega⟩,q.total,elA hq (by simp[zP]) rfl,?_⟩;exact kp
 ·rw[zIc (by omega)];exact kp
theorem zDo:acountC.ok Tryz.prog 229:=okw (V:=z1r) mixed gok0 1 (fun _=>[]) (fun _=>[]) [0] Tryz.func229 fun(i:ArN) _=>by
 unfold z1r gP rR jE dI
 simp only[yWo]
 refine zJ (fun c=>Cv.cnd.mk (fun d=> ?_) (fun d=> ?_)) (fun c=> ?_)
 ·have d:¬i.n<(i.a.queues.length:Int):=by simpa using d
  rw[zIc (by omega)];exact kp
 ·have d:i.n<(i.a.queues.length:Int):=by simpa using d
  obtain⟨q,hq⟩:=yA (l:=i.a.queues) (i:=i.n.toNat) (by omega)
  rw[zRz (by omega) hq]
  refine⟨⟨by omega,by omega⟩,q.count,elA hq (by simp[zP]) rfl,?_⟩;exact kp
 ·rw[zIc (by omega)];exact kp
theorem zEv:bisC.ok Tryz.prog 200:=okw (V:=yTl) mixed gok0 0 (fun _=>[]) (fun _=>[]) [] Tryz.func200 fun(n:Int) _=>by
 unfold yTl vW
 refine Cv.cnd.mk (fun c=>⟨(),?_,trivial⟩) (fun c=>⟨(),?_,trivial⟩)
 all_goals simp at c
 ·simp[c]
 ·by_cases h:n=2<;>simp[c,h]
theorem z2x:toldC.ok Tryz.prog 201:=okw (V:=yRx) mixed (gokc z5p (gokc zDo gok0)) 0 (fun _=>[]) (fun _=>[]) [0] Tryz.func201 fun(i:BkR) h=>by
 refine⟨⟨i.b.a,i.r.queue⟩,?_⟩;(repeat'(first|exact rfl|exact trivial|assumption|apply And.intro|refine fun(_:Unit) (_:True)=>?_|refine Exists.intro () ?_|omega|(dsimp only;omega)))
 refine⟨⟨i.b.a,i.r.queue⟩,?_⟩;exact kp
theorem yAq:best1C.ok Tryz.prog 163:=okw (V:=yQk) mixed (gokc zEv (gokc z2x gok0)) 0 (fun _=>[]) (fun _=>[]) [0] Tryz.func163 fun(b:Book) h=>by
 have h:b.cntOk:=h
 refine⟨1,rfl,trivial,fun _ _=>Cv.cnd.mk (fun c=>absurd c (by decide)) fun _=> ?_⟩
 simp only[yWo]
 refine Cv.cnd.mk (fun c=> ?_) (fun c=> ?_)
 ·have hl:b.buys=[]:=yXr (by have:(b.buys.length:Int)=0:=(by simpa using c);omega)
  have e:b.best b.buys=(⟨0,0,0⟩,false):=by rw[hl];rfl
  rw[e];exact kp
 ·obtain⟨r,l,hl⟩:∃r l,b.buys=r::l:=by
   cases hb:b.buys with
   |nil=>rw[hb]at c;exact absurd c (by decide)
   |cons r l=>exact⟨r,l,rfl⟩
  have e:b.best b.buys=(b.told r,true):=by rw[hl];rfl
  rw[e]
  refine⟨⟨by omega,by rw[hl,yXa];omega⟩,r.price,r.queue,elA (x:=r) (by rw[hl];rfl) (by simp[zC]) rfl,⟨b,r⟩,?_⟩
  exact kp
theorem yEa:best2C.ok Tryz.prog 163:=okw (V:=yQu) mixed (gokc zEv (gokc z2x gok0)) 0 (fun _=>[]) (fun _=>[]) [0] Tryz.func163 fun(b:Book) h=>by
 have h:b.cntOk:=h
 refine⟨2,rfl,trivial,fun _ _=>Cv.cnd.mk (fun c=>absurd c (by decide)) fun _=> ?_⟩
 simp only[yWo]
 refine Cv.cnd.mk (fun c=> ?_) (fun c=> ?_)
 ·have hl:b.sells=[]:=yXr (by have:(b.sells.length:Int)=0:=(by simpa using c);omega)
  have e:b.best b.sells=(⟨0,0,0⟩,false):=by rw[hl];rfl
  rw[e];exact kp
 ·obtain⟨r,l,hl⟩:∃r l,b.sells=r::l:=by
   cases hb:b.sells with
   |nil=>rw[hb]at c;exact absurd c (by decide)
   |cons r l=>exact⟨r,l,rfl⟩
  have e:b.best b.sells=(b.told r,true):=by rw[hl];rfl
  rw[e]
  refine⟨⟨by omega,by rw[hl,yXa];omega⟩,r.price,r.queue,elA (x:=r) (by rw[hl];rfl) (by simp[zC]) rfl,⟨b,r⟩,?_⟩
  exact kp
theorem zQt:bestC.ok Tryz.prog 163:=fun i=>match i with
 |⟨false,b⟩=>yAq b
 |⟨true,b⟩=>yEa b
theorem zJx {α:Type} (f:α→α) (x:α) (b:List α):∀a:List α,(a++x::b).modify a.length f=a++f x::b
 |[]=>rfl
 |y::a=>by
  show y::(a++x::b).modify a.length f=_
  rw[zJx f x b a];rfl
theorem zOx {els:List (List D)} {a b:List (List D)} {x y ds:List D} {j f:Nat} (h:els=a++x::b) (hl:a.length=j) (hy:x.take f++(ds++x.drop (f+ds.length))=y):yE els j f ds=a++y::b:=by
 rw[yE,h,← hl,zJx,hy]
theorem qU {s:MSt} {j:Nat} {x y:Top} {f:Nat} {ds:List D} (hj:j<s.books.length) (hy:(z7 x).take f++(ds++(z7 x).drop (f+ds.length))=z7 y):
 yE (List.map z7 (xX s j x)) j f ds=List.map z7 (xX s j y):=by
 rw[zOx (a:=(s.tops.take j).map z7) (b:=(List.replicate (s.books.length-j-1) top0).map z7) (by rw[xX,yWw,yWu]) (by
  rw[yWo,yXi,MSt.tops,yWo];omega) hy,xX,yWw,yWu]
theorem zLg {s:MSt} {j:Nat} {x:Top} (hj:j<s.books.length):(xX s j x).length=s.books.length:=by
 rw[xX,yWs,yXa,yXi,MSt.tops,yWo,yZm];omega
theorem zGw {s:MSt} {j:Nat} (hj:j<s.books.length):xX s j top0=x5 s j:=by
 rw[xX,x5]
 obtain⟨m,hm⟩:∃m,s.books.length-j=m+1:=⟨s.books.length-j-1,by omega⟩
 rw[hm,y0o];rfl
theorem zGh {s:MSt} {j:Nat} {b:Book} (hb:s.books[j]? =some b):xX s j b.top=x5 s (j+1):=by
 have hj:=(yWn.1 hb).1
 rw[xX,x5,yYm,show s.tops[j]? =some b.top by rw[MSt.tops,yYj,hb];rfl]
 simp only[y0z,yWx,yXx,yYu]
 rw[show s.books.length-j-1=s.books.length-(j+1)by omega]
theorem fH {α:Type} {l:List α} {j:Nat} {x:α} (h:l[j]? =some x):l.set j x=l:=by
 obtain⟨hj,rfl⟩:=yWn.1 h
 exact List.set_getElem_self hj
theorem yWi (s:MSt) (h:topsC.cnd s):yKo s:=by
 obtain⟨h1,h2⟩:s.cntOk:=h
 unfold yKo zJp zBr uL qS wR zGf eJ bF c8 eO dC c9 tF dK dJ zT cX uF dI
 have p48:(2:Int) ^ (48:Nat)=281474976710656:=by decide
 refine⟨⟨by omega,by omega,by omega,by rw[p48];omega⟩,0,rfl,?_,fun j=>j≤s.books.length,fun j=>s.books.length-j,by omega,fun j hj=>zJ (fun hlt=> ?_) (fun hlt=> ?_)⟩
 ·rw[x5,yWw,List.map_replicate];rfl
 ·have hj':j<s.books.length:=by omega
  obtain⟨b,hb⟩:=yA hj'
  have hc:=h2 b (yWv hb)
  simp only[yXc]
  have ha:∀x,(List.map z7 (xX s j x)).length=s.books.length:=fun x=>by rw[yWo,zLg hj']
  have w1:IntKind.i64.wrap (0+1)=1:=by decide
  have w2:(0+1) % ((2:Int) ^ IntKind.i64.bits).natAbs=1:=by decide
  refine⟨⟨by omega,by omega⟩,by omega,(j,top0),by rw[zGw hj'],fun x=>x=(j,top0.buy (b.best b.buys)),⟨⟨by decide,by decide⟩,1,rfl,b,hb,⟨false,b⟩,rfl,rfl,hc,fun _ _=>⟨b,rfl,kp,by omega,?_⟩⟩,?_⟩
  ·refine Cv.cnd.mk (fun c=> ?_) (fun c=> ?_)
   ·have c:(b.best b.buys).2=true:=c
    have e1:=qU (s:=s) hj' (x:=top0) (y:={top0 with has1:=true}) (f:=0+0+0*1) (ds:=[D.v (.bool true)]) rfl
    have e2:=qU (s:=s) hj' (x:={top0 with has1:=true}) (y:={top0 with has1:=true,p1:=(b.best b.buys).1.price}) (f:=0+2+0*1) (ds:=[D.v (.int .i64 (b.best b.buys).1.price)]) rfl
    have e3:=qU (s:=s) hj' (x:={top0 with has1:=true,p1:=(b.best b.buys).1.price}) (y:={top0 with has1:=true,p1:=(b.best b.buys).1.price,q1:=(b.best b.buys).1.qty}) (f:=0+4+0*1) (ds:=[D.v (.int .i64 (b.best b.buys).1.qty)]) rfl
    dsimp only
    simp only[show b.side false=b.buys from rfl,e1,e2,e3,ha]
    (repeat'(first|exact rfl|exact trivial|assumption|apply And.intro|refine fun(_:Unit) (_:True)=>?_|refine Exists.intro () ?_|omega|(dsimp only;omega)))
    refine⟨(j,{top0 with has1:=true,p1:=(b.best b.buys).1.price,q1:=(b.best b.buys).1.qty}),rfl,?_,?_⟩
    ·rw[Top.buy,yWm c]
    ·(repeat'(first|exact rfl|exact trivial|assumption|apply And.intro|refine fun(_:Unit) (_:True)=>?_|refine Exists.intro () ?_|omega|(dsimp only;omega)))
     rw[fH hb]
   ·have c:(b.best b.buys).2=false:=c
    refine⟨(j,top0),rfl,?_,?_⟩
    ·rw[Top.buy,yWl (by rw[c];simp)]
    ·(repeat'(first|exact rfl|exact trivial|assumption|apply And.intro|refine fun(_:Unit) (_:True)=>?_|refine Exists.intro () ?_|omega|(dsimp only;omega)))
     rw[fH hb]
  ·rintro _ rfl
   rw[w1]
   generalize hx:top0.buy (b.best b.buys)=x
   have hx2:b.top=x.sell (b.best b.sells):=by rw[Book.top,hx]
   refine⟨(j,x),rfl,fun y=>y=(j,b.top),⟨⟨by decide,by decide⟩,2,rfl,b,hb,⟨true,b⟩,rfl,rfl,hc,fun _ _=>⟨b,rfl,kp,by omega,?_⟩⟩,?_⟩
   ·refine Cv.cnd.mk (fun c=> ?_) (fun c=> ?_)
    ·have c:(b.best b.sells).2=true:=c
     have e1:=qU (s:=s) hj' (x:=x) (y:={x with has2:=true}) (f:=0+0+1*1) (ds:=[D.v (.bool true)]) rfl
     have e2:=qU (s:=s) hj' (x:={x with has2:=true}) (y:={x with has2:=true,p2:=(b.best b.sells).1.price}) (f:=0+2+1*1) (ds:=[D.v (.int .i64 (b.best b.sells).1.price)]) rfl
     have e3:=qU (s:=s) hj' (x:={x with has2:=true,p2:=(b.best b.sells).1.price}) (y:={x with has2:=true,p2:=(b.best b.sells).1.price,q2:=(b.best b.sells).1.qty}) (f:=0+4+1*1) (ds:=[D.v (.int .i64 (b.best b.sells).1.qty)]) rfl
     dsimp only
     simp only[w2,show b.side true=b.sells from rfl,e1,e2,e3,ha]
     (repeat'(first|exact rfl|exact trivial|assumption|apply And.intro|refine fun(_:Unit) (_:True)=>?_|refine Exists.intro () ?_|omega|(dsimp only;omega)))
     refine⟨(j,{x with has2:=true,p2:=(b.best b.sells).1.price,q2:=(b.best b.sells).1.qty}),rfl,?_,?_⟩
     ·rw[hx2,Top.sell,yWm c]
     ·(repeat'(first|exact rfl|exact trivial|assumption|apply And.intro|refine fun(_:Unit) (_:True)=>?_|refine Exists.intro () ?_|omega|(dsimp only;omega)))
      rw[fH hb]
    ·have c:(b.best b.sells).2=false:=c
     refine⟨(j,x),rfl,?_,?_⟩
     ·rw[hx2,Top.sell,yWl (by rw[c];simp)]
     ·(repeat'(first|exact rfl|exact trivial|assumption|apply And.intro|refine fun(_:Unit) (_:True)=>?_|refine Exists.intro () ?_|omega|(dsimp only;omega)))
      rw[fH hb]
   ·rintro _ rfl
    refine⟨j+1,by rw[w64 (by omega)];rfl,?_⟩
    refine⟨by dsimp only;rw[zGh hb],?_⟩
    exact kp
 ·have hj:j≤s.books.length:=hj
  obtain rfl:j=s.books.length:=by omega
  have e:x5 s s.books.length=s.tops:=by
   rw[x5,y2c,List.replicate_zero,yXk,yXg (by rw[MSt.tops,yWo];omega)]
  rw[e]
  exact kp
theorem zDh:copySC.ok Tryz.prog 103:=okw (V:=yOg) mixed (gokc yJh (gokc yEx gok0)) 0 (fun _=>[]) (fun s=>yOn s) [0] Tryz.func103 fun(s:MSt) h=>by
 obtain⟨h1,h2⟩:s.small:=h
 refine⟨yU s.wh,?_⟩;(repeat'(first|exact rfl|exact trivial|assumption|apply And.intro|refine fun(_:Unit) (_:True)=>?_|refine Exists.intro () ?_|omega|(dsimp only;omega)))
 refine⟨0,?_⟩;(repeat'(first|exact rfl|exact trivial|assumption|apply And.intro|refine fun(_:Unit) (_:True)=>?_|refine Exists.intro () ?_|omega|(dsimp only;omega)))
 refine⟨fun j=>j≤s.books.length,fun j=>s.books.length-j,by omega,fun j hj=>zJ (fun hlt=> ?_) (fun hlt=> ?_)⟩
 ·obtain⟨b,hb⟩:=yA (l:=s.books) (i:=j) (by omega)
  have hs:=h2 b (yWv hb)
  simp only[yXc]
  refine⟨⟨by omega,by omega⟩,by omega,b,hb,b,rfl,hs,fun _ _=>⟨b,rfl,kp,by omega,trivial,trivial,s.books.take j,rfl,?_,j+1,?_⟩⟩
  ·rw[yXi];omega
  ·rw[w64 (by omega),yYm,hb]
   (repeat'(first|exact rfl|exact trivial|assumption|apply And.intro|refine fun(_:Unit) (_:True)=>?_|refine Exists.intro () ?_|omega|(dsimp only;omega)))
   rw[fH hb]
 ·have hj:j≤s.books.length:=hj
  obtain rfl:j=s.books.length:=by omega
  rw[yXg (yXn _)]
  exact kp
open Go Cv Go.Proofs
structure Leg where
 inst:Int
 side:Int
 deriving DecidableEq
structure Quote where
 price:Int
 qty:Int
 a:Leg
 b:Leg
 deriving DecidableEq
def zL (q:Quote):List D:=[.v (.int .i64 q.price),.v (.int .i64 q.qty),.v (.int .i64 q.a.inst),.v (.int .i64 q.a.side),.v (.int .i64 q.b.inst),.v (.int .i64 q.b.side)]
@[reducible] def zYo (q:Quote):V:= .agg [zA q.price,zA q.qty,zA q.a.inst,zA q.a.side,zA q.b.inst,zA q.b.side]
def yNu:Quote:=⟨0,0,⟨0,0⟩,⟨0,0⟩⟩
structure I3' where
 side:Int
 x:Int
 y:Int
def btr (side x y:Int):Bool:=if side=1 then decide (y<x)else decide (x<y)
def iotherC:Con:=con1 Int (fun n=>[zA n]) (fun _=>[]) (fun n=>n=1∨n=2) (fun n=>zA (3-n)) (fun _=>[])
def ibetterC:Con:=con1 I3' (fun i=>[zA i.side,zA i.x,zA i.y]) (fun _=>[]) (fun _=>True) (fun i=>yL (btr i.side i.x i.y)) (fun _=>[])
def Top.has (t:Top) (s:Int):Bool:=if s=1 then t.has1 else t.has2
def Top.price (t:Top) (s:Int):Int:=if s=1 then t.p1 else t.p2
def Top.qty (t:Top) (s:Int):Int:=if s=1 then t.q1 else t.q2
def mkq (tops:List Top) (a b:Leg) (less:Bool):List Quote:=
 let x:=tops.getD a.inst.toNat top0
 let y:=tops.getD b.inst.toNat top0
 let r:=if less then h9 (y.price b.side) (x.price a.side)else hZ (x.price a.side) (y.price b.side)
 if x.has a.side && y.has b.side && r.2 then[⟨r.1,min (x.qty a.side) (y.qty b.side),a,b⟩]else[]
structure MkI where
 tops:List Top
 out:List Quote
 a:Int
 b:Int
 less:Bool
@[reducible] def vP (l:List Top):Prop:=l.length≤1000000∧∀t∈l,yV t.p1∧yV t.p2
def MkU (x:List Top×List Quote):Nat→AObj
 |0=> .cells [.own 1,.own 2] 311
 |1=> .fro 6 (x.1.map z7)
 |2=> .own 257 6 (x.2.map zL)
 |_=> .gone
@[reducible] def MkR (tops:List Top) (out:List Quote):List AObj:=[MkU (tops,out) 0,MkU (tops,out) 1,MkU (tops,out) 2]
@[reducible] def MkP (tops:List Top) (out:List Quote):List AObj:=[.cells [.own 1,.own 3] 311,MkU (tops,out) 1,.gone,MkU (tops,out) 2]
def mkC (sa sb:Int):Con:=con1 MkI (fun i=>[.nm 0 0,.agg [zA i.a,zA sa],.agg [zA i.b,zA sb],yL i.less]) (fun i=>MkR i.tops i.out)
 (fun i=>0≤i.a∧i.a<i.tops.length∧0≤i.b∧i.b<i.tops.length∧vP i.tops∧i.out.length≤1000) (fun _=>zWn) (fun i=>MkP i.tops (i.out++mkq i.tops ⟨i.a,sa⟩ ⟨i.b,sb⟩ i.less))
def mk11:Con:=mkC 1 1
def mk12:Con:=mkC 1 2
def mk21:Con:=mkC 2 1
def mk22:Con:=mkC 2 2
open Go Cv Go.Proofs
def yHa (n:Int):Prop:=
 ∃(o:Unit),3-n=IntKind.i64.wrap (3-n)∧True
def z9e (i:I3'):Prop:=
 cnd (i.side==1) (∃(o:Unit),btr i.side i.x i.y=decide (i.x>i.y)∧True) (∃(o:Unit),btr i.side i.x i.y=decide (i.x<i.y)∧True)
def eI (a:MkI):=(a.out++mkq a.tops (Leg.mk a.a 1) (Leg.mk a.b 1) a.less)
def mB (a:MkI):Prop:=∃(b:Unit),AObj.fro 6 (List.map z7 a.tops)=MkU (a.tops,a.out) 1∧List.map zL (eI a)=List.map zL a.out∧True
def kY (a:I2):Prop:=((-9223372036854775808)≤a.x∧a.x≤9223372036854775807)∧(-9223372036854775808)≤a.y∧a.y≤9223372036854775807
def qT (a:MkI):=(↑(List.map z7 a.tops).length:Int)
def x6 (a:MkI):Prop:=(0≤a.b∧a.b<(qT a))∧a.b.toNat=a.b.toNat
def jA (a:MkI):Prop:=(0≤a.a∧a.a<(qT a))∧a.a.toNat=a.a.toNat
def kX (a:MkI):=((List.map zL a.out).length+1)
def zIv (a:MkI) (b:Bool) (c:Bool) (d:Int) (e:Int) (f:Int) (g:Int):Prop:=True∧(x6 a)∧a.b=a.b∧True∧True∧(jA a)∧a.a=a.a∧True∧True∧(x6 a)∧a.b=a.b∧True∧True∧(jA a)∧a.a=a.a∧True∧True∧(x6 a)∧a.b=a.b∧True∧cnd (!b) (mB a) (cnd (!c) (mB a) (∃(h:I2),h.x=d∧h.y=e∧(kY h)∧∀(j:Unit),True→cnd a.less (∃(k:I2),k.x=e∧k.y=d∧(kY k)∧∀(l:Unit),True→cnd (h9 k.x k.y).snd (True∧(kX a)*(48:Nat)≤(70368744177664:Nat)∧∃(m:Unit),AObj.fro 6 (List.map z7 a.tops)=MkU (a.tops,a.out) 1∧List.map zL (eI a)=List.map zL a.out++[[dI ((h9 k.x k.y).fst),dI (min f g),dI a.a,dI 1,dI a.b,dI 1]]∧True) (mB a)) (cnd (hZ h.x h.y).snd (True∧(kX a)*(48:Nat)≤(70368744177664:Nat)∧∃(k:Unit),AObj.fro 6 (List.map z7 a.tops)=MkU (a.tops,a.out) 1∧List.map zL (eI a)=List.map zL a.out++[[dI ((hZ h.x h.y).fst),dI (min f g),dI a.a,dI 1,dI a.b,dI 1]]∧True) (mB a))))
def yKq (i:MkI):Prop:=
 (0≤i.a∧i.a<(qT i))∧∃(a:Bool),∃(b:Bool),∃(c:Int),∃(d:Int),∃(e:Int),∃(f:Int),zF (List.map z7 i.tops) i.a.toNat 0 6=some [D.v (.bool a),D.v (.bool b),dI c,dI d,dI e,dI f]∧(0≤i.b∧i.b<(qT i))∧∃(g:Bool),∃(h:Bool),∃(j:Int),∃(k:Int),∃(l:Int),∃(m:Int),zF (List.map z7 i.tops) i.b.toNat 0 6=some [D.v (.bool g),D.v (.bool h),dI j,dI k,dI l,dI m]∧(zIv i a g c j e l)∧zIv i a g c j e l
def eE (a:MkI):=(a.out++mkq a.tops (Leg.mk a.a 1) (Leg.mk a.b 2) a.less)
def mP (a:MkI):Prop:=∃(b:Unit),AObj.fro 6 (List.map z7 a.tops)=MkU (a.tops,a.out) 1∧List.map zL (eE a)=List.map zL a.out∧True
def zKi (a:MkI) (b:Bool) (c:Bool) (d:Int) (e:Int) (f:Int) (g:Int):Prop:=True∧(x6 a)∧a.b=a.b∧True∧True∧(jA a)∧a.a=a.a∧True∧True∧(x6 a)∧a.b=a.b∧True∧True∧(jA a)∧a.a=a.a∧True∧True∧(x6 a)∧a.b=a.b∧True∧cnd (!b) (mP a) (cnd (!c) (mP a) (∃(h:I2),h.x=d∧h.y=e∧(kY h)∧∀(j:Unit),True→cnd a.less (∃(k:I2),k.x=e∧k.y=d∧(kY k)∧∀(l:Unit),True→cnd (h9 k.x k.y).snd (True∧(kX a)*(48:Nat)≤(70368744177664:Nat)∧∃(m:Unit),AObj.fro 6 (List.map z7 a.tops)=MkU (a.tops,a.out) 1∧List.map zL (eE a)=List.map zL a.out++[[dI ((h9 k.x k.y).fst),dI (min f g),dI a.a,dI 1,dI a.b,dI 2]]∧True) (mP a)) (cnd (hZ h.x h.y).snd (True∧(kX a)*(48:Nat)≤(70368744177664:Nat)∧∃(k:Unit),AObj.fro 6 (List.map z7 a.tops)=MkU (a.tops,a.out) 1∧List.map zL (eE a)=List.map zL a.out++[[dI ((hZ h.x h.y).fst),dI (min f g),dI a.a,dI 1,dI a.b,dI 2]]∧True) (mP a))))
def yLl (i:MkI):Prop:=
 (0≤i.a∧i.a<(qT i))∧∃(a:Bool),∃(b:Bool),∃(c:Int),∃(d:Int),∃(e:Int),∃(f:Int),zF (List.map z7 i.tops) i.a.toNat 0 6=some [D.v (.bool a),D.v (.bool b),dI c,dI d,dI e,dI f]∧(0≤i.b∧i.b<(qT i))∧∃(g:Bool),∃(h:Bool),∃(j:Int),∃(k:Int),∃(l:Int),∃(m:Int),zF (List.map z7 i.tops) i.b.toNat 0 6=some [D.v (.bool g),D.v (.bool h),dI j,dI k,dI l,dI m]∧(zKi i a h c k e m)∧zKi i a h c k e m
def tK (a:MkI):=(a.out++mkq a.tops (Leg.mk a.a 2) (Leg.mk a.b 1) a.less)
def a9 (a:MkI):Prop:=∃(b:Unit),AObj.fro 6 (List.map z7 a.tops)=MkU (a.tops,a.out) 1∧List.map zL (tK a)=List.map zL a.out∧True
def zKa (a:MkI) (b:Bool) (c:Bool) (d:Int) (e:Int) (f:Int) (g:Int):Prop:=True∧(x6 a)∧a.b=a.b∧True∧True∧(jA a)∧a.a=a.a∧True∧True∧(x6 a)∧a.b=a.b∧True∧True∧(jA a)∧a.a=a.a∧True∧True∧(x6 a)∧a.b=a.b∧True∧cnd (!b) (a9 a) (cnd (!c) (a9 a) (∃(h:I2),h.x=d∧h.y=e∧(kY h)∧∀(j:Unit),True→cnd a.less (∃(k:I2),k.x=e∧k.y=d∧(kY k)∧∀(l:Unit),True→cnd (h9 k.x k.y).snd (True∧(kX a)*(48:Nat)≤(70368744177664:Nat)∧∃(m:Unit),AObj.fro 6 (List.map z7 a.tops)=MkU (a.tops,a.out) 1∧List.map zL (tK a)=List.map zL a.out++[[dI ((h9 k.x k.y).fst),dI (min f g),dI a.a,dI 2,dI a.b,dI 1]]∧True) (a9 a)) (cnd (hZ h.x h.y).snd (True∧(kX a)*(48:Nat)≤(70368744177664:Nat)∧∃(k:Unit),AObj.fro 6 (List.map z7 a.tops)=MkU (a.tops,a.out) 1∧List.map zL (tK a)=List.map zL a.out++[[dI ((hZ h.x h.y).fst),dI (min f g),dI a.a,dI 2,dI a.b,dI 1]]∧True) (a9 a))))
def yKs (i:MkI):Prop:=
 (0≤i.a∧i.a<(qT i))∧∃(a:Bool),∃(b:Bool),∃(c:Int),∃(d:Int),∃(e:Int),∃(f:Int),zF (List.map z7 i.tops) i.a.toNat 0 6=some [D.v (.bool a),D.v (.bool b),dI c,dI d,dI e,dI f]∧(0≤i.b∧i.b<(qT i))∧∃(g:Bool),∃(h:Bool),∃(j:Int),∃(k:Int),∃(l:Int),∃(m:Int),zF (List.map z7 i.tops) i.b.toNat 0 6=some [D.v (.bool g),D.v (.bool h),dI j,dI k,dI l,dI m]∧(zKa i b g d j f l)∧zKa i b g d j f l
def tM (a:MkI):=(a.out++mkq a.tops (Leg.mk a.a 2) (Leg.mk a.b 2) a.less)
def mI (a:MkI):Prop:=∃(b:Unit),AObj.fro 6 (List.map z7 a.tops)=MkU (a.tops,a.out) 1∧List.map zL (tM a)=List.map zL a.out∧True
def zJn (a:MkI) (b:Bool) (c:Bool) (d:Int) (e:Int) (f:Int) (g:Int):Prop:=True∧(x6 a)∧a.b=a.b∧True∧True∧(jA a)∧a.a=a.a∧True∧True∧(x6 a)∧a.b=a.b∧True∧True∧(jA a)∧a.a=a.a∧True∧True∧(x6 a)∧a.b=a.b∧True∧cnd (!b) (mI a) (cnd (!c) (mI a) (∃(h:I2),h.x=d∧h.y=e∧(kY h)∧∀(j:Unit),True→cnd a.less (∃(k:I2),k.x=e∧k.y=d∧(kY k)∧∀(l:Unit),True→cnd (h9 k.x k.y).snd (True∧(kX a)*(48:Nat)≤(70368744177664:Nat)∧∃(m:Unit),AObj.fro 6 (List.map z7 a.tops)=MkU (a.tops,a.out) 1∧List.map zL (tM a)=List.map zL a.out++[[dI ((h9 k.x k.y).fst),dI (min f g),dI a.a,dI 2,dI a.b,dI 2]]∧True) (mI a)) (cnd (hZ h.x h.y).snd (True∧(kX a)*(48:Nat)≤(70368744177664:Nat)∧∃(k:Unit),AObj.fro 6 (List.map z7 a.tops)=MkU (a.tops,a.out) 1∧List.map zL (tM a)=List.map zL a.out++[[dI ((hZ h.x h.y).fst),dI (min f g),dI a.a,dI 2,dI a.b,dI 2]]∧True) (mI a))))
def yKz (i:MkI):Prop:=
 (0≤i.a∧i.a<(qT i))∧∃(a:Bool),∃(b:Bool),∃(c:Int),∃(d:Int),∃(e:Int),∃(f:Int),zF (List.map z7 i.tops) i.a.toNat 0 6=some [D.v (.bool a),D.v (.bool b),dI c,dI d,dI e,dI f]∧(0≤i.b∧i.b<(qT i))∧∃(g:Bool),∃(h:Bool),∃(j:Int),∃(k:Int),∃(l:Int),∃(m:Int),zF (List.map z7 i.tops) i.b.toNat 0 6=some [D.v (.bool g),D.v (.bool h),dI j,dI k,dI l,dI m]∧(zJn i b h d k f m)∧zJn i b h d k f m
open Go Cv Go.Proofs
theorem zOc:iotherC.ok Tryz.prog 187:=okw (V:=yHa) mixed gok0 0 (fun _=>[]) (fun _=>[]) [] Tryz.func187 fun(n:Int) h=>by
 have h:n=1∨n=2:=h
 refine⟨(),?_,trivial⟩
 rw[w64 (by omega)]
theorem z0v:ibetterC.ok Tryz.prog 202:=okw (V:=z9e) mixed gok0 0 (fun _=>[]) (fun _=>[]) [] Tryz.func202 fun(i:I3') _=>by
 refine Cv.cnd.mk (fun e=>⟨(),?_,trivial⟩) (fun e=>⟨(),?_,trivial⟩)
 ·have e:i.side=1:=by simpa using e
  simp[btr,e]
 ·have e:i.side≠1:=by simpa using e
  simp[btr,e]
theorem yHw (a b:Int):(if b<a then b else a)=min a b:=by split<;>omega
theorem yTe (i:MkI) (h:mk11.cnd i):yKq i:=by
 obtain⟨a0,a1,b0,b1,⟨ht,hp⟩,ho⟩:0≤i.a∧i.a<i.tops.length∧0≤i.b∧i.b<i.tops.length∧vP i.tops∧i.out.length≤1000:=h
 obtain⟨x,hx⟩:=yA (l:=i.tops) (i:=i.a.toNat) (by omega)
 obtain⟨y,hy⟩:=yA (l:=i.tops) (i:=i.b.toNat) (by omega)
 obtain⟨⟨px1,px2⟩,px3,px4⟩:=hp x (yWv hx)
 obtain⟨⟨py1,py2⟩,py3,py4⟩:=hp y (yWv hy)
 have e0:mkq i.tops ⟨i.a,1⟩ ⟨i.b,1⟩ i.less=if x.has1 && y.has1 && (if i.less then h9 y.p1 x.p1 else hZ x.p1 y.p1).2 then[⟨(if i.less then h9 y.p1 x.p1 else hZ x.p1 y.p1).1,min x.q1 y.q1,⟨i.a,1⟩,⟨i.b,1⟩⟩]else[]:=by
  simp only[mkq,yWt,hx,hy,yYs];rfl
 unfold yKq zIv kX jA x6 qT kY mB eI dI
 simp only[yWo]
 refine⟨⟨by omega,by omega⟩,x.has1,x.has2,x.p1,x.p2,x.q1,x.q2,elA hx (by simp[z7]) rfl,⟨by omega,by omega⟩,y.has1,y.has2,y.p1,y.p2,y.q1,y.q2,elA hy (by simp[z7]) rfl,?_⟩
 rw[e0]
 (repeat'(first|exact rfl|exact trivial|assumption|apply And.intro|refine fun(_:Unit) (_:True)=>?_|refine Exists.intro () ?_|omega|(dsimp only;omega)))
 all_goals
  refine Cv.cnd.mk (fun c1=> ?_) (fun c1=>Cv.cnd.mk (fun c2=> ?_) (fun c2=> ?_))
  ·have c1:x.has1=false:=by simpa using c1
   simp only[c1,yZq,yXe,if_false,yXk];exact kp
  ·have c2:y.has1=false:=by simpa using c2
   simp only[c2,y1s,yZq,yXe,if_false,yXk];exact kp
  ·have c1:x.has1=true:=by simpa using c1
   have c2:y.has1=true:=by simpa using c2
   simp only[c1,c2,yZd,yHw]
   refine⟨⟨x.p1,y.p1⟩,?_⟩
   (repeat'(first|exact rfl|exact trivial|assumption|apply And.intro|refine fun(_:Unit) (_:True)=>?_|refine Exists.intro () ?_|omega|(dsimp only;omega)))
   refine Cv.cnd.mk (fun c3=> ?_) (fun c3=> ?_)
   ·have c3:i.less=true:=c3
    simp only[c3,if_true]
    refine⟨⟨y.p1,x.p1⟩,?_⟩
    (repeat'(first|exact rfl|exact trivial|assumption|apply And.intro|refine fun(_:Unit) (_:True)=>?_|refine Exists.intro () ?_|omega|(dsimp only;omega)))
    refine Cv.cnd.mk (fun c4=> ?_) (fun c4=> ?_)
    ·have c4:(h9 y.p1 x.p1).2=true:=c4
     simp only[c4,if_true,yWw];exact kp
    ·have c4:(h9 y.p1 x.p1).2=false:=c4
     simp only[c4,yXe,if_false,yXk];exact kp
   ·have c3:i.less=false:=c3
    simp only[c3,yXe,if_false]
    refine Cv.cnd.mk (fun c4=> ?_) (fun c4=> ?_)
    ·have c4:(hZ x.p1 y.p1).2=true:=c4
     simp only[c4,if_true,yWw];exact kp
    ·have c4:(hZ x.p1 y.p1).2=false:=c4
     simp only[c4,yXe,if_false,yXk];exact kp
theorem yHu:mk11.ok Tryz.prog 188:=okw mixed (gokc zRi (gokc zRc gok0)) 0 (fun _=>[]) (fun _=>[]) [] Tryz.func188 yTe
theorem ySl (i:MkI) (h:mk12.cnd i):yLl i:=by
 obtain⟨a0,a1,b0,b1,⟨ht,hp⟩,ho⟩:0≤i.a∧i.a<i.tops.length∧0≤i.b∧i.b<i.tops.length∧vP i.tops∧i.out.length≤1000:=h
 obtain⟨x,hx⟩:=yA (l:=i.tops) (i:=i.a.toNat) (by omega)
 obtain⟨y,hy⟩:=yA (l:=i.tops) (i:=i.b.toNat) (by omega)
 obtain⟨⟨px1,px2⟩,px3,px4⟩:=hp x (yWv hx)
 obtain⟨⟨py1,py2⟩,py3,py4⟩:=hp y (yWv hy)
 have e0:mkq i.tops ⟨i.a,1⟩ ⟨i.b,2⟩ i.less=if x.has1 && y.has2 && (if i.less then h9 y.p2 x.p1 else hZ x.p1 y.p2).2 then[⟨(if i.less then h9 y.p2 x.p1 else hZ x.p1 y.p2).1,min x.q1 y.q2,⟨i.a,1⟩,⟨i.b,2⟩⟩]else[]:=by
  simp only[mkq,yWt,hx,hy,yYs];rfl
 unfold yLl zKi mP eE kX jA x6 kY qT dI
 simp only[yWo]
 refine⟨⟨by omega,by omega⟩,x.has1,x.has2,x.p1,x.p2,x.q1,x.q2,elA hx (by simp[z7]) rfl,⟨by omega,by omega⟩,y.has1,y.has2,y.p1,y.p2,y.q1,y.q2,elA hy (by simp[z7]) rfl,?_⟩
 rw[e0]
 (repeat'(first|exact rfl|exact trivial|assumption|apply And.intro|refine fun(_:Unit) (_:True)=>?_|refine Exists.intro () ?_|omega|(dsimp only;omega)))
 all_goals
  refine Cv.cnd.mk (fun c1=> ?_) (fun c1=>Cv.cnd.mk (fun c2=> ?_) (fun c2=> ?_))
  ·have c1:x.has1=false:=by simpa using c1
   simp only[c1,yZq,yXe,if_false,yXk];exact kp
  ·have c2:y.has2=false:=by simpa using c2
   simp only[c2,y1s,yZq,yXe,if_false,yXk];exact kp
  ·have c1:x.has1=true:=by simpa using c1
   have c2:y.has2=true:=by simpa using c2
   simp only[c1,c2,yZd,yHw]
   refine⟨⟨x.p1,y.p2⟩,?_⟩
   (repeat'(first|exact rfl|exact trivial|assumption|apply And.intro|refine fun(_:Unit) (_:True)=>?_|refine Exists.intro () ?_|omega|(dsimp only;omega)))
   refine Cv.cnd.mk (fun c3=> ?_) (fun c3=> ?_)
   ·have c3:i.less=true:=c3
    simp only[c3,if_true]
    refine⟨⟨y.p2,x.p1⟩,?_⟩
    (repeat'(first|exact rfl|exact trivial|assumption|apply And.intro|refine fun(_:Unit) (_:True)=>?_|refine Exists.intro () ?_|omega|(dsimp only;omega)))
    refine Cv.cnd.mk (fun c4=> ?_) (fun c4=> ?_)
    ·have c4:(h9 y.p2 x.p1).2=true:=c4
     simp only[c4,if_true,yWw];exact kp
    ·have c4:(h9 y.p2 x.p1).2=false:=c4
     simp only[c4,yXe,if_false,yXk];exact kp
   ·have c3:i.less=false:=c3
    simp only[c3,yXe,if_false]
    refine Cv.cnd.mk (fun c4=> ?_) (fun c4=> ?_)
    ·have c4:(hZ x.p1 y.p2).2=true:=c4
     simp only[c4,if_true,yWw];exact kp
    ·have c4:(hZ x.p1 y.p2).2=false:=c4
     simp only[c4,yXe,if_false,yXk];exact kp
theorem yJo:mk12.ok Tryz.prog 188:=okw mixed (gokc zRi (gokc zRc gok0)) 0 (fun _=>[]) (fun _=>[]) [] Tryz.func188 ySl
theorem yTr (i:MkI) (h:mk21.cnd i):yKs i:=by
 obtain⟨a0,a1,b0,b1,⟨ht,hp⟩,ho⟩:0≤i.a∧i.a<i.tops.length∧0≤i.b∧i.b<i.tops.length∧vP i.tops∧i.out.length≤1000:=h
 obtain⟨x,hx⟩:=yA (l:=i.tops) (i:=i.a.toNat) (by omega)
 obtain⟨y,hy⟩:=yA (l:=i.tops) (i:=i.b.toNat) (by omega)
 obtain⟨⟨px1,px2⟩,px3,px4⟩:=hp x (yWv hx)
 obtain⟨⟨py1,py2⟩,py3,py4⟩:=hp y (yWv hy)
 have e0:mkq i.tops ⟨i.a,2⟩ ⟨i.b,1⟩ i.less=if x.has2 && y.has1 && (if i.less then h9 y.p1 x.p2 else hZ x.p2 y.p1).2 then[⟨(if i.less then h9 y.p1 x.p2 else hZ x.p2 y.p1).1,min x.q2 y.q1,⟨i.a,2⟩,⟨i.b,1⟩⟩]else[]:=by
  simp only[mkq,yWt,hx,hy,yYs];rfl
 unfold yKs zKa a9 tK kX jA x6 kY qT dI
 simp only[yWo]
 refine⟨⟨by omega,by omega⟩,x.has1,x.has2,x.p1,x.p2,x.q1,x.q2,elA hx (by simp[z7]) rfl,⟨by omega,by omega⟩,y.has1,y.has2,y.p1,y.p2,y.q1,y.q2,elA hy (by simp[z7]) rfl,?_⟩
 rw[e0]
 (repeat'(first|exact rfl|exact trivial|assumption|apply And.intro|refine fun(_:Unit) (_:True)=>?_|refine Exists.intro () ?_|omega|(dsimp only;omega)))
 all_goals
  refine Cv.cnd.mk (fun c1=> ?_) (fun c1=>Cv.cnd.mk (fun c2=> ?_) (fun c2=> ?_))
  ·have c1:x.has2=false:=by simpa using c1
   simp only[c1,yZq,yXe,if_false,yXk];exact kp
  ·have c2:y.has1=false:=by simpa using c2
   simp only[c2,y1s,yZq,yXe,if_false,yXk];exact kp
  ·have c1:x.has2=true:=by simpa using c1
   have c2:y.has1=true:=by simpa using c2
   simp only[c1,c2,yZd,yHw]
   refine⟨⟨x.p2,y.p1⟩,?_⟩
   (repeat'(first|exact rfl|exact trivial|assumption|apply And.intro|refine fun(_:Unit) (_:True)=>?_|refine Exists.intro () ?_|omega|(dsimp only;omega)))
   refine Cv.cnd.mk (fun c3=> ?_) (fun c3=> ?_)
   ·have c3:i.less=true:=c3
    simp only[c3,if_true]
    refine⟨⟨y.p1,x.p2⟩,?_⟩
    (repeat'(first|exact rfl|exact trivial|assumption|apply And.intro|refine fun(_:Unit) (_:True)=>?_|refine Exists.intro () ?_|omega|(dsimp only;omega)))
    refine Cv.cnd.mk (fun c4=> ?_) (fun c4=> ?_)
    ·have c4:(h9 y.p1 x.p2).2=true:=c4
     simp only[c4,if_true,yWw];exact kp
    ·have c4:(h9 y.p1 x.p2).2=false:=c4
     simp only[c4,yXe,if_false,yXk];exact kp
   ·have c3:i.less=false:=c3
    simp only[c3,yXe,if_false]
    refine Cv.cnd.mk (fun c4=> ?_) (fun c4=> ?_)
    ·have c4:(hZ x.p2 y.p1).2=true:=c4
     simp only[c4,if_true,yWw];exact kp
    ·have c4:(hZ x.p2 y.p1).2=false:=c4
     simp only[c4,yXe,if_false,yXk];exact kp
theorem yJq:mk21.ok Tryz.prog 188:=okw mixed (gokc zRi (gokc zRc gok0)) 0 (fun _=>[]) (fun _=>[]) [] Tryz.func188 yTr
theorem ySv (i:MkI) (h:mk22.cnd i):yKz i:=by
 obtain⟨a0,a1,b0,b1,⟨ht,hp⟩,ho⟩:0≤i.a∧i.a<i.tops.length∧0≤i.b∧i.b<i.tops.length∧vP i.tops∧i.out.length≤1000:=h
 obtain⟨x,hx⟩:=yA (l:=i.tops) (i:=i.a.toNat) (by omega)
 obtain⟨y,hy⟩:=yA (l:=i.tops) (i:=i.b.toNat) (by omega)
 obtain⟨⟨px1,px2⟩,px3,px4⟩:=hp x (yWv hx)
 obtain⟨⟨py1,py2⟩,py3,py4⟩:=hp y (yWv hy)
 have e0:mkq i.tops ⟨i.a,2⟩ ⟨i.b,2⟩ i.less=if x.has2 && y.has2 && (if i.less then h9 y.p2 x.p2 else hZ x.p2 y.p2).2 then[⟨(if i.less then h9 y.p2 x.p2 else hZ x.p2 y.p2).1,min x.q2 y.q2,⟨i.a,2⟩,⟨i.b,2⟩⟩]else[]:=by
  simp only[mkq,yWt,hx,hy,yYs];rfl
 unfold yKz zJn mI tM kX jA x6 kY qT dI
 simp only[yWo]
 refine⟨⟨by omega,by omega⟩,x.has1,x.has2,x.p1,x.p2,x.q1,x.q2,elA hx (by simp[z7]) rfl,⟨by omega,by omega⟩,y.has1,y.has2,y.p1,y.p2,y.q1,y.q2,elA hy (by simp[z7]) rfl,?_⟩
 rw[e0]
 (repeat'(first|exact rfl|exact trivial|assumption|apply And.intro|refine fun(_:Unit) (_:True)=>?_|refine Exists.intro () ?_|omega|(dsimp only;omega)))
 all_goals
  refine Cv.cnd.mk (fun c1=> ?_) (fun c1=>Cv.cnd.mk (fun c2=> ?_) (fun c2=> ?_))
  ·have c1:x.has2=false:=by simpa using c1
   simp only[c1,yZq,yXe,if_false,yXk];exact kp
  ·have c2:y.has2=false:=by simpa using c2
   simp only[c2,y1s,yZq,yXe,if_false,yXk];exact kp
  ·have c1:x.has2=true:=by simpa using c1
   have c2:y.has2=true:=by simpa using c2
   simp only[c1,c2,yZd,yHw]
   refine⟨⟨x.p2,y.p2⟩,?_⟩
   (repeat'(first|exact rfl|exact trivial|assumption|apply And.intro|refine fun(_:Unit) (_:True)=>?_|refine Exists.intro () ?_|omega|(dsimp only;omega)))
   refine Cv.cnd.mk (fun c3=> ?_) (fun c3=> ?_)
   ·have c3:i.less=true:=c3
    simp only[c3,if_true]
    refine⟨⟨y.p2,x.p2⟩,?_⟩
    (repeat'(first|exact rfl|exact trivial|assumption|apply And.intro|refine fun(_:Unit) (_:True)=>?_|refine Exists.intro () ?_|omega|(dsimp only;omega)))
    refine Cv.cnd.mk (fun c4=> ?_) (fun c4=> ?_)
    ·have c4:(h9 y.p2 x.p2).2=true:=c4
     simp only[c4,if_true,yWw];exact kp
    ·have c4:(h9 y.p2 x.p2).2=false:=c4
     simp only[c4,yXe,if_false,yXk];exact kp
   ·have c3:i.less=false:=c3
    simp only[c3,yXe,if_false]
    refine Cv.cnd.mk (fun c4=> ?_) (fun c4=> ?_)
    ·have c4:(hZ x.p2 y.p2).2=true:=c4
     simp only[c4,if_true,yWw];exact kp
    ·have c4:(hZ x.p2 y.p2).2=false:=c4
     simp only[c4,yXe,if_false,yXk];exact kp
theorem yHk:mk22.ok Tryz.prog 188:=okw mixed (gokc zRi (gokc zRc gok0)) 0 (fun _=>[]) (fun _=>[]) [] Tryz.func188 ySv
open Go Cv Go.Proofs
structure MkJ where
 i:MkI
 sa:Bool
 sb:Bool
def mkAnyC:Con:=con1 MkJ (fun j=>[.nm 0 0,.agg [zA j.i.a,zA (zB j.sa)],.agg [zA j.i.b,zA (zB j.sb)],yL j.i.less]) (fun j=>MkR j.i.tops j.i.out)
 (fun j=>0≤j.i.a∧j.i.a<j.i.tops.length∧0≤j.i.b∧j.i.b<j.i.tops.length∧vP j.i.tops∧j.i.out.length≤1000) (fun _=>zWn) (fun j=>MkP j.i.tops (j.i.out++mkq j.i.tops ⟨j.i.a,zB j.sa⟩ ⟨j.i.b,zB j.sb⟩ j.i.less))
theorem zVf:mkAnyC.ok Tryz.prog 188:=fun j=>match j with
 |⟨i,false,false⟩=>yHu i
 |⟨i,false,true⟩=>yJo i
 |⟨i,true,false⟩=>yJq i
 |⟨i,true,true⟩=>yHk i
structure dV where
 p:Prd
 tops:List Top
 inst:Int
def kW (i:dV) (s:Int) (k:Nat):List Quote:=(List.range k).flatMap fun(k:Nat)=>mkq i.tops ⟨(i.p.spread i.inst (i.inst+1+k)).1,s⟩ ⟨i.inst+1+k,s⟩ false
def j7 (i:dV) (s:Int) (k:Nat):List Quote:=(List.range k).flatMap fun(k:Nat)=>mkq i.tops ⟨(i.p.spread k i.inst).1,3-s⟩ ⟨k,s⟩ true
def yR (i:dV) (s:Int):List Quote:=mkq i.tops ⟨(i.p.legs i.inst).2.1,3-s⟩ ⟨(i.p.legs i.inst).1,s⟩ true
def dQ (i:dV) (s:Int) (q:Quote):Quote:={q with a:=⟨(i.p.legs i.inst).1,s⟩,b:=⟨(i.p.legs i.inst).2.1,3-s⟩}
def qW (i:dV) (s:Int):List Quote:=
 if i.p.count=0∨(i.tops.length:Int)≠i.p.count∨i.inst<0∨(i.p.count:Int)≤i.inst then[]
 else if(i.p.legs i.inst).2.2 then(yR i s).map (dQ i s)
 else kW i s (i.p.months.length-(i.inst.toNat+1))++j7 i s i.inst.toNat
def yLi (s:Int):Con:=con1 dV (fun i=>[prdV i.p,roV 6 (i.tops.map z7),zA i.inst,zA s]) (fun _=>[]) (fun i=>i.p.small∧vP i.tops) (fun _=> .own 0) (fun i=>[.own 257 6 ((qW i s).map zL)])
def all1C:Con:=yLi 1
def all2C:Con:=yLi 2
def ySq (i:dV) (s:Int):List SAnn:=[
 {ι:=Nat,slots:=fun k=>[(10,.nm 0 0),(77,zA k)],rows:=fun k=>(List.range 3).map (MkU (i.tops,((yR i s).take k).map (dQ i s)++(yR i s).drop k))},
 {ι:=Nat,slots:=fun k=>[(10,.nm 0 0),(17,zA (i.inst+1+k))],rows:=fun k=>MkR i.tops (kW i s k)},
 {ι:=Nat,slots:=fun k=>[(10,.nm 0 0),(120,zA k)],rows:=fun k=>MkR i.tops (kW i s (i.p.months.length-(i.inst.toNat+1))++j7 i s k)}]
structure lG where
 i:dV
 s:Bool
def allC:Con:=con1 lG (fun j=>[prdV j.i.p,roV 6 (j.i.tops.map z7),zA j.i.inst,zA (zB j.s)]) (fun _=>[]) (fun j=>j.i.p.small∧vP j.i.tops) (fun _=> .own 0) (fun j=>[.own 257 6 ((qW j.i (zB j.s)).map zL)])
def vD (i:dV) (s:Int):List Quote:=(qW i s).filter fun q=>decide (i.p.price i.inst q.price=0)
def quotesC:Con:=con1 lG (fun j=>[prdV j.i.p,roV 6 (j.i.tops.map z7),zA j.i.inst,zA (zB j.s)]) (fun _=>[]) (fun j=>j.i.p.small∧vP j.i.tops) (fun _=> .own 0) (fun j=>[.own 257 6 ((vD j.i (zB j.s)).map zL)])
def yGm (j:lG):List SAnn:=[{ι:=Nat,slots:=fun k=>[(9,.own 0),(18,zA k)],rows:=fun k=>[.own 257 6 ((((qW j.i (zB j.s)).take k).filter fun q=>decide (j.i.p.price j.i.inst q.price=0)).map zL)]}]
structure BsI where
 l:List Quote
 s:Int
def y9 (l:List Quote) (s:Int):Quote×Bool:=match l with
 |[]=>(yNu,false)
 |q::r=>(r.foldl (fun b q=>if btr s q.price b.price then q else b) q,true)
def bestQC:Con:=con1 BsI (fun i=>[roV 6 (i.l.map zL),zA i.s]) (fun _=>[]) (fun i=>(i.s=1∨i.s=2)∧i.l.length≤1000000) (fun i=> .tup [zYo (y9 i.l i.s).1,yL (y9 i.l i.s).2]) (fun _=>[])
def yRc (i:BsI):List SAnn:=[{ι:=Nat,slots:=fun k=>[(6,.nm 0 0),(26,zA k)],rows:=fun k=>[.cells (zYo (y9 (i.l.take (max k 1)) i.s).1).cl 257]}]
open Go Cv Go.Proofs
def mV (a:dV):Prop:=AObj.fro 6 (List.map z7 a.tops)=AObj.fro 6 (List.map z7 a.tops)∧Sx.AObj.cells [V.d (D.v (Value.string (sb a.p.code))),V.own 0,V.d (dI a.p.tick),V.d (dI a.p.low),V.d (dI a.p.high),V.d (dI a.p.wide),V.d (dI a.p.rule),V.d (dI a.p.top),V.d (dI a.p.least),V.d (dI a.p.part),V.own ((0:Nat)+(1:Nat))] 26=Sx.AObj.cells [V.d (D.v (Value.string (sb a.p.code))),V.own 0,V.d (dI a.p.tick),V.d (dI a.p.low),V.d (dI a.p.high),V.d (dI a.p.wide),V.d (dI a.p.rule),V.d (dI a.p.top),V.d (dI a.p.least),V.d (dI a.p.part),V.own ((0:Nat)+(1:Nat))] 26∧AObj.fro 1 (iE a.p.settle)=AObj.fro 1 (iE a.p.settle)∧AObj.fro 1 (iE a.p.months)=AObj.fro 1 (iE a.p.months)
def zCd (a:Nat→Prop) (b:Nat) (c:Nat→Nat) (d:Nat) (e:dV):Prop:=a b∧c b<c d∧AObj.fro 6 (List.map z7 e.tops)=AObj.fro 6 (List.map z7 e.tops)∧mV e
def zCw (a:Nat→Prop) (b:Nat) (c:Nat→Nat) (d:Nat) (e:dV):Prop:=a b∧c b<c d∧mV e
def fZ (a:Top):Prop:=((-9223372036854775808)≤a.p1∧a.p1≤9223372036854775807)∧(-9223372036854775808)≤a.p2∧a.p2≤9223372036854775807
def gR (a:MkJ):Prop:=0≤a.i.a∧a.i.a<(↑a.i.tops.length:Int)∧0≤a.i.b∧a.i.b<(↑a.i.tops.length:Int)∧(a.i.tops.length≤1000000∧∀(b:Top),b∈a.i.tops→fZ b)∧a.i.out.length≤1000
def v8 (a:MkJ):=(a.i.out++mkq a.i.tops (Leg.mk a.i.a (zB a.sa)) (Leg.mk a.i.b (zB a.sb)) a.i.less)
def eA (a:Nat) (b:MkJ):=(decide ((↑a:Int)<(↑(List.map zL (v8 b)).length:Int)))
def x7 (a:rJ):Prop:=a.p.code.length≤1099511627776∧a.p.months.length≤1099511627776∧a.p.settle.length≤1099511627776
def kZ (a:dZ):Prop:=a.p.code.length≤1099511627776∧a.p.months.length≤1099511627776∧a.p.settle.length≤1099511627776
def mC (a:dV) (b:Nat):=(List.map (dQ a 1) (List.take b (yR a 1))++List.drop b (yR a 1))
def tJ (a:dV) (b:Nat):=(List.map zL (mC a b))
def mM (a:dV) (b:Nat):=(kW a 1 (a.p.months.length-(a.inst.toNat+1))++j7 a 1 b)
def wW (a:dZ):=((a.p.legs a.n).snd.fst)
def yKm (i:dV):Prop:=
 ∃(a:Prd),sb a.code=sb i.p.code∧iE a.months=iE i.p.months∧a.tick=i.p.tick∧a.low=i.p.low∧a.high=i.p.high∧a.wide=i.p.wide∧a.rule=i.p.rule∧a.top=i.p.top∧a.least=i.p.least∧a.part=i.p.part∧iE a.settle=iE i.p.settle∧(z8 a)∧∀(b:Unit),True→cnd ((↑a.count:Int)==0) (∃(c:Unit),List.map zL (qW i 1)=[]∧True) (cnd ((↑(List.map z7 i.tops).length:Int) !=(↑a.count:Int)) (∃(c:Unit),List.map zL (qW i 1)=[]∧True) (cnd (decide (i.inst<0)) (∃(c:Unit),List.map zL (qW i 1)=[]∧True) (cnd (decide (i.inst≥(↑a.count:Int))) (∃(c:Unit),List.map zL (qW i 1)=[]∧True) (∃(c:dZ),sb c.p.code=sb i.p.code∧iE c.p.months=iE i.p.months∧c.p.tick=i.p.tick∧c.p.low=i.p.low∧c.p.high=i.p.high∧c.p.wide=i.p.wide∧c.p.rule=i.p.rule∧c.p.top=i.p.top∧c.p.least=i.p.least∧c.p.part=i.p.part∧iE c.p.settle=iE i.p.settle∧c.n=i.inst∧(kZ c)∧∀(d:Unit),True→cnd (c.p.legs c.n).snd.snd (∃(e:Int),e=1∧(e=1∨e=2)∧∀(f:Unit),True→∃(g:MkJ),g.i.a=(c.p.legs c.n).snd.fst∧zB g.sa=3-e∧g.i.b=(c.p.legs c.n).fst∧zB g.sb=1∧g.i.less=true∧AObj.fro 6 (List.map z7 g.i.tops)=AObj.fro 6 (List.map z7 i.tops)∧List.map zL g.i.out=[]∧(gR g)∧∀(h:Unit),True→∃(j:Nat),(↑j:Int)=0∧AObj.fro 6 (List.map z7 i.tops)=AObj.fro 6 (List.map z7 g.i.tops)∧List.map zL (mC i j)=List.map zL (v8 g)∧∃(k:Nat→Prop),∃(l:Nat→Nat),k j∧∀(m:Nat),k m→cnd (eA m g) ((0≤(↑m:Int)∧(↑m:Int)<(↑(tJ i m).length:Int))∧(↑m:Int).toNat<(tJ i m).length∧∃(n:Nat),(↑n:Int)=IntKind.i64.wrap ((↑m:Int)+1)∧AObj.fro 6 (List.map z7 i.tops)=AObj.fro 6 (List.map z7 i.tops)∧List.map zL (mC i n)=yE (tJ i m) (↑m:Int).toNat ((0:Nat)+(2:Nat)) [dI ((c.p.legs c.n).fst),dI 1,dI (wW c),dI (3-e)]∧k n∧l n<l m∧AObj.fro 6 (List.map z7 g.i.tops)=AObj.fro 6 (List.map z7 g.i.tops)∧Sx.AObj.cells [V.d (dI (wW c)),V.d (dI (3-e))] 254=Sx.AObj.cells [V.d (dI (wW c)),V.d (dI (3-e))] 254∧Sx.AObj.cells [V.d (dI ((c.p.legs c.n).fst)),V.d (dI 1)] 254=Sx.AObj.cells [V.d (dI ((c.p.legs c.n).fst)),V.d (dI 1)] 254∧mV i) (∃(n:Unit),List.map zL (qW i 1)=List.map zL (mC i m)∧True)) (∃(e:Nat),i.inst+1+(↑e:Int)=IntKind.i64.wrap (i.inst+1)∧AObj.fro 6 (List.map z7 i.tops)=AObj.fro 6 (List.map z7 i.tops)∧List.map zL (kW i 1 e)=[]∧∃(f:Nat→Prop),∃(g:Nat→Nat),f e∧∀(h:Nat),f h→cnd (decide (i.inst+1+(↑h:Int)<(↑(iE i.p.months).length:Int))) (∃(j:rJ),sb j.p.code=sb i.p.code∧iE j.p.months=iE i.p.months∧j.p.tick=i.p.tick∧j.p.low=i.p.low∧j.p.high=i.p.high∧j.p.wide=i.p.wide∧j.p.rule=i.p.rule∧j.p.top=i.p.top∧j.p.least=i.p.least∧j.p.part=i.p.part∧iE j.p.settle=iE i.p.settle∧j.a=i.inst∧j.b=i.inst+1+(↑h:Int)∧(x7 j)∧∀(k:Unit),True→∃(l:MkJ),l.i.a=(j.p.spread j.a j.b).fst∧zB l.sa=1∧l.i.b=i.inst+1+(↑h:Int)∧zB l.sb=1∧l.i.less=false∧AObj.fro 6 (List.map z7 l.i.tops)=AObj.fro 6 (List.map z7 i.tops)∧List.map zL l.i.out=List.map zL (kW i 1 h)∧(gR l)∧∀(m:Unit),True→∃(n:Nat),i.inst+1+(↑n:Int)=IntKind.i64.wrap (i.inst+1+(↑h:Int)+1)∧AObj.fro 6 (List.map z7 i.tops)=AObj.fro 6 (List.map z7 l.i.tops)∧List.map zL (kW i 1 n)=List.map zL (v8 l)∧zCw f n g h i) (∃(j:Nat),(↑j:Int)=0∧AObj.fro 6 (List.map z7 i.tops)=AObj.fro 6 (List.map z7 i.tops)∧List.map zL (mM i j)=List.map zL (kW i 1 h)∧∃(k:Nat→Prop),∃(l:Nat→Nat),k j∧∀(m:Nat),k m→cnd (decide ((↑m:Int)<i.inst)) (∃(n:rJ),sb n.p.code=sb i.p.code∧iE n.p.months=iE i.p.months∧n.p.tick=i.p.tick∧n.p.low=i.p.low∧n.p.high=i.p.high∧n.p.wide=i.p.wide∧n.p.rule=i.p.rule∧n.p.top=i.p.top∧n.p.least=i.p.least∧n.p.part=i.p.part∧iE n.p.settle=iE i.p.settle∧n.a=(↑m:Int)∧n.b=i.inst∧(x7 n)∧∀(p:Unit),True→∃(q:Int),q=1∧(q=1∨q=2)∧∀(r:Unit),True→∃(s:MkJ),s.i.a=(n.p.spread n.a n.b).fst∧zB s.sa=3-q∧s.i.b=(↑m:Int)∧zB s.sb=1∧s.i.less=true∧AObj.fro 6 (List.map z7 s.i.tops)=AObj.fro 6 (List.map z7 i.tops)∧List.map zL s.i.out=List.map zL (mM i m)∧(gR s)∧∀(t:Unit),True→∃(u:Nat),(↑u:Int)=IntKind.i64.wrap ((↑m:Int)+1)∧AObj.fro 6 (List.map z7 i.tops)=AObj.fro 6 (List.map z7 s.i.tops)∧List.map zL (mM i u)=List.map zL (v8 s)∧zCd k u l m i) (∃(n:Unit),List.map zL (qW i 1)=List.map zL (mM i m)∧True)))))))
def m8 (a:dV) (b:Nat):=(List.map (dQ a 2) (List.take b (yR a 2))++List.drop b (yR a 2))
def eL (a:dV) (b:Nat):=(List.map zL (m8 a b))
def mL (a:dV) (b:Nat):=(kW a 2 (a.p.months.length-(a.inst.toNat+1))++j7 a 2 b)
def yLf (i:dV):Prop:=
 ∃(a:Prd),sb a.code=sb i.p.code∧iE a.months=iE i.p.months∧a.tick=i.p.tick∧a.low=i.p.low∧a.high=i.p.high∧a.wide=i.p.wide∧a.rule=i.p.rule∧a.top=i.p.top∧a.least=i.p.least∧a.part=i.p.part∧iE a.settle=iE i.p.settle∧(z8 a)∧∀(b:Unit),True→cnd ((↑a.count:Int)==0) (∃(c:Unit),List.map zL (qW i 2)=[]∧True) (cnd ((↑(List.map z7 i.tops).length:Int) !=(↑a.count:Int)) (∃(c:Unit),List.map zL (qW i 2)=[]∧True) (cnd (decide (i.inst<0)) (∃(c:Unit),List.map zL (qW i 2)=[]∧True) (cnd (decide (i.inst≥(↑a.count:Int))) (∃(c:Unit),List.map zL (qW i 2)=[]∧True) (∃(c:dZ),sb c.p.code=sb i.p.code∧iE c.p.months=iE i.p.months∧c.p.tick=i.p.tick∧c.p.low=i.p.low∧c.p.high=i.p.high∧c.p.wide=i.p.wide∧c.p.rule=i.p.rule∧c.p.top=i.p.top∧c.p.least=i.p.least∧c.p.part=i.p.part∧iE c.p.settle=iE i.p.settle∧c.n=i.inst∧(kZ c)∧∀(d:Unit),True→cnd (c.p.legs c.n).snd.snd (∃(e:Int),e=2∧(e=1∨e=2)∧∀(f:Unit),True→∃(g:MkJ),g.i.a=(c.p.legs c.n).snd.fst∧zB g.sa=3-e∧g.i.b=(c.p.legs c.n).fst∧zB g.sb=2∧g.i.less=true∧AObj.fro 6 (List.map z7 g.i.tops)=AObj.fro 6 (List.map z7 i.tops)∧List.map zL g.i.out=[]∧(gR g)∧∀(h:Unit),True→∃(j:Nat),(↑j:Int)=0∧AObj.fro 6 (List.map z7 i.tops)=AObj.fro 6 (List.map z7 g.i.tops)∧List.map zL (m8 i j)=List.map zL (v8 g)∧∃(k:Nat→Prop),∃(l:Nat→Nat),k j∧∀(m:Nat),k m→cnd (eA m g) ((0≤(↑m:Int)∧(↑m:Int)<(↑(eL i m).length:Int))∧(↑m:Int).toNat<(eL i m).length∧∃(n:Nat),(↑n:Int)=IntKind.i64.wrap ((↑m:Int)+1)∧AObj.fro 6 (List.map z7 i.tops)=AObj.fro 6 (List.map z7 i.tops)∧List.map zL (m8 i n)=yE (eL i m) (↑m:Int).toNat ((0:Nat)+(2:Nat)) [dI ((c.p.legs c.n).fst),dI 2,dI (wW c),dI (3-e)]∧k n∧l n<l m∧AObj.fro 6 (List.map z7 g.i.tops)=AObj.fro 6 (List.map z7 g.i.tops)∧Sx.AObj.cells [V.d (dI (wW c)),V.d (dI (3-e))] 254=Sx.AObj.cells [V.d (dI (wW c)),V.d (dI (3-e))] 254∧Sx.AObj.cells [V.d (dI ((c.p.legs c.n).fst)),V.d (dI 2)] 254=Sx.AObj.cells [V.d (dI ((c.p.legs c.n).fst)),V.d (dI 2)] 254∧mV i) (∃(n:Unit),List.map zL (qW i 2)=List.map zL (m8 i m)∧True)) (∃(e:Nat),i.inst+1+(↑e:Int)=IntKind.i64.wrap (i.inst+1)∧AObj.fro 6 (List.map z7 i.tops)=AObj.fro 6 (List.map z7 i.tops)∧List.map zL (kW i 2 e)=[]∧∃(f:Nat→Prop),∃(g:Nat→Nat),f e∧∀(h:Nat),f h→cnd (decide (i.inst+1+(↑h:Int)<(↑(iE i.p.months).length:Int))) (∃(j:rJ),sb j.p.code=sb i.p.code∧iE j.p.months=iE i.p.months∧j.p.tick=i.p.tick∧j.p.low=i.p.low∧j.p.high=i.p.high∧j.p.wide=i.p.wide∧j.p.rule=i.p.rule∧j.p.top=i.p.top∧j.p.least=i.p.least∧j.p.part=i.p.part∧iE j.p.settle=iE i.p.settle∧j.a=i.inst∧j.b=i.inst+1+(↑h:Int)∧(x7 j)∧∀(k:Unit),True→∃(l:MkJ),l.i.a=(j.p.spread j.a j.b).fst∧zB l.sa=2∧l.i.b=i.inst+1+(↑h:Int)∧zB l.sb=2∧l.i.less=false∧AObj.fro 6 (List.map z7 l.i.tops)=AObj.fro 6 (List.map z7 i.tops)∧List.map zL l.i.out=List.map zL (kW i 2 h)∧(gR l)∧∀(m:Unit),True→∃(n:Nat),i.inst+1+(↑n:Int)=IntKind.i64.wrap (i.inst+1+(↑h:Int)+1)∧AObj.fro 6 (List.map z7 i.tops)=AObj.fro 6 (List.map z7 l.i.tops)∧List.map zL (kW i 2 n)=List.map zL (v8 l)∧zCw f n g h i) (∃(j:Nat),(↑j:Int)=0∧AObj.fro 6 (List.map z7 i.tops)=AObj.fro 6 (List.map z7 i.tops)∧List.map zL (mL i j)=List.map zL (kW i 2 h)∧∃(k:Nat→Prop),∃(l:Nat→Nat),k j∧∀(m:Nat),k m→cnd (decide ((↑m:Int)<i.inst)) (∃(n:rJ),sb n.p.code=sb i.p.code∧iE n.p.months=iE i.p.months∧n.p.tick=i.p.tick∧n.p.low=i.p.low∧n.p.high=i.p.high∧n.p.wide=i.p.wide∧n.p.rule=i.p.rule∧n.p.top=i.p.top∧n.p.least=i.p.least∧n.p.part=i.p.part∧iE n.p.settle=iE i.p.settle∧n.a=(↑m:Int)∧n.b=i.inst∧(x7 n)∧∀(p:Unit),True→∃(q:Int),q=2∧(q=1∨q=2)∧∀(r:Unit),True→∃(s:MkJ),s.i.a=(n.p.spread n.a n.b).fst∧zB s.sa=3-q∧s.i.b=(↑m:Int)∧zB s.sb=2∧s.i.less=true∧AObj.fro 6 (List.map z7 s.i.tops)=AObj.fro 6 (List.map z7 i.tops)∧List.map zL s.i.out=List.map zL (mL i m)∧(gR s)∧∀(t:Unit),True→∃(u:Nat),(↑u:Int)=IntKind.i64.wrap ((↑m:Int)+1)∧AObj.fro 6 (List.map z7 i.tops)=AObj.fro 6 (List.map z7 s.i.tops)∧List.map zL (mL i u)=List.map zL (v8 s)∧zCd k u l m i) (∃(n:Unit),List.map zL (qW i 2)=List.map zL (mL i m)∧True)))))))
def jN (a:lG):=(List.map zL (qW a.i (zB a.s)))
def l7 (a:Nat→Prop) (b:Nat) (c:Nat→Nat) (d:Nat) (e:lG) (f:lG):Prop:=a b∧c b<c d∧AObj.own 257 6 (jN e)=AObj.own 257 6 (jN e)∧Sx.AObj.cells [V.d (D.v (Value.string (sb f.i.p.code))),V.own 0,V.d (dI f.i.p.tick),V.d (dI f.i.p.low),V.d (dI f.i.p.high),V.d (dI f.i.p.wide),V.d (dI f.i.p.rule),V.d (dI f.i.p.top),V.d (dI f.i.p.least),V.d (dI f.i.p.part),V.own ((0:Nat)+(1:Nat))] 26=Sx.AObj.cells [V.d (D.v (Value.string (sb f.i.p.code))),V.own 0,V.d (dI f.i.p.tick),V.d (dI f.i.p.low),V.d (dI f.i.p.high),V.d (dI f.i.p.wide),V.d (dI f.i.p.rule),V.d (dI f.i.p.top),V.d (dI f.i.p.least),V.d (dI f.i.p.part),V.own ((0:Nat)+(1:Nat))] 26∧AObj.fro 1 (iE f.i.p.settle)=AObj.fro 1 (iE f.i.p.settle)∧AObj.fro 1 (iE f.i.p.months)=AObj.fro 1 (iE f.i.p.months)
def vX (a:lG):Prop:=(a.i.p.code.length≤1099511627776∧a.i.p.months.length≤1099511627776∧a.i.p.settle.length≤1099511627776)∧a.i.tops.length≤1000000∧∀(b:Top),b∈a.i.tops→fZ b
def gY (a:lG):=(↑(jN a).length:Int)
def z2q (j:lG):Prop:=
 ∃(a:lG),sb a.i.p.code=sb j.i.p.code∧iE a.i.p.months=iE j.i.p.months∧a.i.p.tick=j.i.p.tick∧a.i.p.low=j.i.p.low∧a.i.p.high=j.i.p.high∧a.i.p.wide=j.i.p.wide∧a.i.p.rule=j.i.p.rule∧a.i.p.top=j.i.p.top∧a.i.p.least=j.i.p.least∧a.i.p.part=j.i.p.part∧iE a.i.p.settle=iE j.i.p.settle∧List.map z7 a.i.tops=List.map z7 j.i.tops∧a.i.inst=j.i.inst∧zB a.s=zB j.s∧(vX a)∧∀(b:Unit),True→∃(c:Nat),(↑c:Int)=0∧List.map zL (List.filter (fun(q:Sx.Quote) ↦ decide (j.i.p.price j.i.inst q.price=0)) (List.take c (qW j.i (zB j.s))))=[]∧∃(d:Nat→Prop),∃(e:Nat→Nat),d c∧∀(f:Nat),d f→cnd (decide ((↑f:Int)<(gY a))) ((0≤(↑f:Int)∧(↑f:Int)<(gY a))∧∃(g:Int),∃(h:Int),∃(k:Int),∃(l:Int),∃(m:Int),∃(n:Int),zF (jN a) (↑f:Int).toNat 0 6=some [dI g,dI h,dI k,dI l,dI m,dI n]∧∃(p:rJ),sb p.p.code=sb j.i.p.code∧iE p.p.months=iE j.i.p.months∧p.p.tick=j.i.p.tick∧p.p.low=j.i.p.low∧p.p.high=j.i.p.high∧p.p.wide=j.i.p.wide∧p.p.rule=j.i.p.rule∧p.p.top=j.i.p.top∧p.p.least=j.i.p.least∧p.p.part=j.i.p.part∧iE p.p.settle=iE j.i.p.settle∧p.a=j.i.inst∧p.b=g∧(x7 p)∧∀(q:Unit),True→cnd (p.p.price p.a p.b==0) (((List.map zL (List.filter (fun(q:Sx.Quote) ↦ decide (j.i.p.price j.i.inst q.price=0)) (List.take f (qW j.i (zB j.s))))).length+1)*(48:Nat)≤(70368744177664:Nat)∧∃(r:Nat),(↑r:Int)=IntKind.i64.wrap ((↑f:Int)+1)∧List.map zL (List.filter (fun(q:Sx.Quote) ↦ decide (j.i.p.price j.i.inst q.price=0)) (List.take r (qW j.i (zB j.s))))=List.map zL (List.filter (fun(q:Sx.Quote) ↦ decide (j.i.p.price j.i.inst q.price=0)) (List.take f (qW j.i (zB j.s))))++[[dI g,dI h,dI k,dI l,dI m,dI n]]∧l7 d r e f a j) (∃(r:Nat),(↑r:Int)=IntKind.i64.wrap ((↑f:Int)+1)∧List.map zL (List.filter (fun(q:Sx.Quote) ↦ decide (j.i.p.price j.i.inst q.price=0)) (List.take r (qW j.i (zB j.s))))=List.map zL (List.filter (fun(q:Sx.Quote) ↦ decide (j.i.p.price j.i.inst q.price=0)) (List.take f (qW j.i (zB j.s))))∧l7 d r e f a j)) (∃(g:Unit),List.map zL (vD j.i (zB j.s))=List.map zL (List.filter (fun(q:Sx.Quote) ↦ decide (j.i.p.price j.i.inst q.price=0)) (List.take f (qW j.i (zB j.s))))∧True)
def zAr (a:Nat→Prop) (b:Nat) (c:Nat→Nat) (d:Nat):Prop:=a b∧c b<c d∧Sx.AObj.cells (Sx.V.agg [V.d (dI 0),V.d (dI 0),V.d (dI 0),V.d (dI 0),V.d (dI 0),V.d (dI 0)]).cl 257=Sx.AObj.cells (Sx.V.agg [V.d (dI 0),V.d (dI 0),V.d (dI 0),V.d (dI 0),V.d (dI 0),V.d (dI 0)]).cl 257
def z6 (a:Nat) (b:BsI):=(y9 (List.take (max a 1) b.l) b.s)
def bK (a:BsI):=(↑(List.map zL a.l).length:Int)
def zFi (a:BsI):Prop:=((0:Int)≤(0:Int)∧0<(bK a))∧∃(b:Int),∃(c:Int),∃(d:Int),∃(e:Int),∃(f:Int),∃(g:Int),zF (List.map zL a.l) (Int.toNat 0) 0 6=some [dI b,dI c,dI d,dI e,dI f,dI g]∧∃(h:Nat),(↑h:Int)=0∧(z6 h a).fst.price=b∧(z6 h a).fst.qty=c∧(z6 h a).fst.a.inst=d∧(z6 h a).fst.a.side=e∧(z6 h a).fst.b.inst=f∧(z6 h a).fst.b.side=g∧∃(j:Nat→Prop),∃(k:Nat→Nat),j h∧∀(l:Nat),j l→cnd (decide ((↑l:Int)<(bK a))) ((0≤(↑l:Int)∧(↑l:Int)<(bK a))∧∃(m:Int),∃(n:Int),∃(p:Int),∃(q:Int),∃(r:Int),∃(s:Int),zF (List.map zL a.l) (↑l:Int).toNat 0 6=some [dI m,dI n,dI p,dI q,dI r,dI s]∧∃(t:I3'),t.side=a.s∧t.x=m∧t.y=(z6 l a).fst.price∧True∧∀(u:Unit),True→cnd (btr t.side t.x t.y) (∃(v:Nat),(↑v:Int)=IntKind.i64.wrap ((↑l:Int)+1)∧(z6 v a).fst.price=m∧(z6 v a).fst.qty=n∧(z6 v a).fst.a.inst=p∧(z6 v a).fst.a.side=q∧(z6 v a).fst.b.inst=r∧(z6 v a).fst.b.side=s∧zAr j v k l) (∃(v:Nat),(↑v:Int)=IntKind.i64.wrap ((↑l:Int)+1)∧(z6 v a).fst.price=(z6 l a).fst.price∧(z6 v a).fst.qty=(z6 l a).fst.qty∧(z6 v a).fst.a.inst=(z6 l a).fst.a.inst∧(z6 v a).fst.a.side=(z6 l a).fst.a.side∧(z6 v a).fst.b.inst=(z6 l a).fst.b.inst∧(z6 v a).fst.b.side=(z6 l a).fst.b.side∧zAr j v k l)) (∃(m:Unit),(y9 a.l a.s).fst.price=(z6 l a).fst.price∧(y9 a.l a.s).fst.qty=(z6 l a).fst.qty∧(y9 a.l a.s).fst.a.inst=(z6 l a).fst.a.inst∧(y9 a.l a.s).fst.a.side=(z6 l a).fst.a.side∧(y9 a.l a.s).fst.b.inst=(z6 l a).fst.b.inst∧(y9 a.l a.s).fst.b.side=(z6 l a).fst.b.side∧(y9 a.l a.s).snd=true∧True)
def lH (a:BsI):Prop:=∃(b:Unit),(y9 a.l a.s).fst.price=0∧(y9 a.l a.s).fst.qty=0∧(y9 a.l a.s).fst.a.inst=0∧(y9 a.l a.s).fst.a.side=0∧(y9 a.l a.s).fst.b.inst=0∧(y9 a.l a.s).fst.b.side=0∧(y9 a.l a.s).snd=false∧True
def yBq (i:BsI):Prop:=
 cnd ((bK i)==0) (lH i) (cnd (i.s !=1) (cnd (i.s !=2) (lH i) (zFi i)) (zFi i))
open Go Cv Go.Proofs
theorem zZo {l:List Quote} {q:Quote} (s:Int) (h:l[0]? =some q):(y9 (l.take (max 0 1)) s).1=q:=by
 cases l with
 |nil=>simp at h
 |cons a l=>simp at h;subst h;rfl
theorem z0c {l:List Quote} {j:Nat} {q:Quote} (s:Int) (h:l[j]? =some q):
 (y9 (l.take (max (j+1) 1)) s).1=if btr s q.price (y9 (l.take (max j 1)) s).1.price then q else(y9 (l.take (max j 1)) s).1:=by
 cases l with
 |nil=>simp at h
 |cons a l=>
  cases j with
  |zero=>simp at h;subst h;simp[y9]
  |succ m=>
   simp only[yYf]at h
   rw[show max (m+1+1) 1=(m+1)+1 by omega,show max (m+1) 1=m+1 by omega,yYb,yYb,yYm,h]
   simp only[y9,y0z,y2m]
   rfl
theorem z6f {l:List Quote} (s:Int) (h:l≠[]):(y9 l s).2=true:=by
 cases l with
 |nil=>exact absurd rfl h
 |cons a l=>rfl
theorem yQa (i:BsI) (h:bestQC.cnd i):yBq i:=by
 obtain⟨hs,hl⟩:(i.s=1∨i.s=2)∧i.l.length≤1000000:=h
 unfold yBq lH zFi bK z6 zAr dI
 simp only[yWo]
 refine Cv.cnd.mk (fun c=> ?_) (fun c=> ?_)
 ·have e:i.l=[]:=yXr (by have:(i.l.length:Int)=0:=(by simpa using c);omega)
  rw[e];exact kp
 have h0:0<i.l.length:=by
  rcases Nat.eq_zero_or_pos i.l.length with h|h
  ·rw[h]at c;exact absurd c (by decide)
  ·exact h
 have hne:i.l≠[]:=by intro e;rw[e]at h0;simp at h0
 have two:=z6f i.s hne
 obtain⟨q,hq⟩:=yA h0
 have b0:=zZo i.s hq
 have fin:(y9 (i.l.take (max i.l.length 1)) i.s).1=(y9 i.l i.s).1:=by
  rw[yXg (by omega)]
 have step:∀j:Nat,j<i.l.length→∀x:Quote,i.l[j]? =some x→(btr i.s x.price (y9 (i.l.take (max j 1)) i.s).1.price=true→(y9 (i.l.take (max (j+1) 1)) i.s).1=x)∧(btr i.s x.price (y9 (i.l.take (max j 1)) i.s).1.price=false→(y9 (i.l.take (max (j+1) 1)) i.s).1=(y9 (i.l.take (max j 1)) i.s).1):=fun j hj x hx=>by
  have:=z0c i.s hx
  constructor
  ·intro e;rw[this,yWm e]
  ·intro e;rw[this,yWl (by rw[e];simp)]
 refine Cv.cnd.mk (fun c1=>Cv.cnd.mk (fun c2=> ?_) (fun c2=> ?_)) (fun c1=> ?_)
 ·exfalso
  have c1:i.s≠1:=by simpa using c1
  have c2:i.s≠2:=by simpa using c2
  omega
 all_goals
  refine⟨⟨by omega,by omega⟩,q.price,q.qty,q.a.inst,q.a.side,q.b.inst,q.b.side,elA hq (by simp[zL]) rfl,0,?_⟩
  rw[b0]
  (repeat'(first|exact rfl|exact trivial|assumption|apply And.intro|refine fun(_:Unit) (_:True)=>?_|refine Exists.intro () ?_|omega|(dsimp only;omega)))
  refine⟨fun j=>j≤i.l.length,fun j=>i.l.length-j,by omega,fun j hj=>zJ (fun hlt=> ?_) (fun hlt=> ?_)⟩
  ·have hj':j<i.l.length:=by omega
   obtain⟨x,hx⟩:=yA hj'
   obtain⟨st,sf⟩:=step j hj' x hx
   refine⟨⟨by omega,by omega⟩,x.price,x.qty,x.a.inst,x.a.side,x.b.inst,x.b.side,elA hx (by simp[zL]) rfl,⟨i.s,x.price,_⟩,rfl,rfl,rfl,trivial,fun _ _=>Cv.cnd.mk (fun e=>⟨j+1,by rw[w64 (by omega)];rfl,?_⟩) (fun e=>⟨j+1,by rw[w64 (by omega)];rfl,?_⟩)⟩
   ·rw[st e];exact kp
   ·rw[sf e];exact kp
  ·have hj:j≤i.l.length:=hj
   obtain rfl:j=i.l.length:=by omega
   rw[fin,two];exact kp
theorem yBg:bestQC.ok Tryz.prog 166:=okw mixed (gokc z0v gok0) 0 (fun _=>[]) (fun i=>yRc i) [] Tryz.func166 yQa
theorem zBb (tops:List Top) (a b:Leg) (less:Bool):(mkq tops a b less).length≤1:=by
 unfold mkq
 dsimp only
 split<;>split<;>simp
theorem zRn {α:Type} {f:Nat→List α} (h:∀k,(f k).length≤1):∀n,((List.range n).flatMap f).length≤n
 |0=>by simp
 |n+1=>by
  rw[y1j,yYh,yWs]
  have:=zRn h n
  have:=h n
  simp only[yYc,y1t,yXk]
  omega
theorem lK (i:dV) (s:Int) (k:Nat):(kW i s k).length≤k:=zRn (fun _=>zBb _ _ _ _) k
theorem nK (i:dV) (s:Int) (k:Nat):(j7 i s k).length≤k:=zRn (fun _=>zBb _ _ _ _) k
theorem zLz (i:dV) (s:Int):(qW i s).length≤100:=by
 unfold qW
 split
 ·simp
 ·rename_i h
  have hc:=xV i.p
  have m6:=(kP (sI (p:=i.p) (by omega))).m6
  split
  ·rw[yWo]
   have:=zBb i.tops ⟨(i.p.legs i.inst).2.1,3-s⟩ ⟨(i.p.legs i.inst).1,s⟩ true
   have e:(yR i s).length≤1:=this
   omega
  ·rw[yWs]
   have h1:=lK i s (i.p.months.length-(i.inst.toNat+1))
   have h2:=nK i s i.inst.toNat
   omega
theorem yIq (j:lG) (h:quotesC.cnd j):z2q j:=by
 unfold z2q l7 gY jN vX fZ x7 dI
 obtain⟨hp,ht,hr⟩:j.i.p.small∧vP j.i.tops:=h
 obtain⟨h1,h2,h3⟩:=hp
 have hl:=zLz j.i (zB j.s)
 refine⟨j,?_⟩
 simp only[yWo]
 (repeat'(first|exact rfl|exact trivial|assumption|apply And.intro|refine fun(_:Unit) (_:True)=>?_|refine Exists.intro () ?_|omega|(dsimp only;omega)))
 refine⟨0,rfl,rfl,fun k=>k≤(qW j.i (zB j.s)).length,fun k=>(qW j.i (zB j.s)).length-k,by omega,fun k hk=>zJ (fun hlt=> ?_) (fun hlt=> ?_)⟩
 ·have hk':k<(qW j.i (zB j.s)).length:=by omega
  obtain⟨q,hq⟩:=yA hk'
  have hf:(List.filter (fun q=>decide (j.i.p.price j.i.inst q.price=0)) (List.take k (qW j.i (zB j.s)))).length≤100:=by
   have:=yZy (fun q:Quote=>decide (j.i.p.price j.i.inst q.price=0)) (List.take k (qW j.i (zB j.s)))
   rw[yXi]at this
   omega
  refine⟨⟨by omega,by omega⟩,q.price,q.qty,q.a.inst,q.a.side,q.b.inst,q.b.side,elA hq (by simp[zL]) rfl,⟨j.i.p,j.i.inst,q.price⟩,?_⟩
  (repeat'(first|exact rfl|exact trivial|assumption|apply And.intro|refine fun(_:Unit) (_:True)=>?_|refine Exists.intro () ?_|omega|(dsimp only;omega)))
  refine Cv.cnd.mk (fun c=>⟨by omega,k+1,by rw[w64 (by omega)];rfl,?_⟩) (fun c=>⟨k+1,by rw[w64 (by omega)];rfl,?_⟩)
  ·have c:j.i.p.price j.i.inst q.price=0:=by simpa using c
   rw[yYm,hq,y0z,y0i,yZs (by simpa using c),yWw]
   exact kp
  ·have c:¬j.i.p.price j.i.inst q.price=0:=by simpa using c
   rw[yYm,hq,y0z,y0i,yZt (by simpa using c),List.filter_nil,yXk]
   exact kp
 ·have hk:k≤(qW j.i (zB j.s)).length:=hk
  obtain rfl:k=(qW j.i (zB j.s)).length:=by omega
  rw[yXg (yXn _)]
  exact kp
open Go Cv Go.Proofs
theorem z6r:∀n≤6,∀a<n,∀b<n,a<b→0≤(yH n a:Int)+b-a-1∧(yH n a:Int)+b-a-1<((n+n*(n-1) / 2:Nat):Int):=by decide
theorem gV {p:Prd} (hc:p.check=0) {a b:Nat} (hab:a<b) (hb:b<p.months.length):0≤(p.spread a b).1∧(p.spread a b).1<p.count:=by
 have m6:=(kP hc).m6
 have:=z6r p.months.length m6 a (by omega) b hb hab
 rw[Prd.spread,yWl (by omega),Prd.count,yWm hc]
 simpa using this
theorem yGo:∀n≤6,∀k<n+n*(n-1) / 2,n≤k→(kI n k n 0).2.2=true∧0≤(kI n k n 0).1∧(kI n k n 0).1<n∧0≤(kI n k n 0).2.1∧(kI n k n 0).2.1<n:=by decide
theorem wC {p:Prd} (hc:p.check=0) {k:Nat} (hk:k<p.count):((p.legs k).2.2=true∧0≤(p.legs k).1∧(p.legs k).1<p.months.length∧0≤(p.legs k).2.1∧(p.legs k).2.1<p.months.length)∨((p.legs k).2.2=false∧k<p.months.length):=by
 have m6:=(kP hc).m6
 have hk':=hk
 rw[Prd.count,yWm hc]at hk'
 by_cases h:k<p.months.length
 ·right
  rw[Prd.legs,yWl (by omega),yWm (by omega)]
  exact⟨rfl,h⟩
 ·left
  rw[Prd.legs,yWl (by omega),yWl (by omega)]
  exact yGo p.months.length m6 k hk' (by omega)
theorem sW {p:Prd} (hc:p.check=0):p.months.length≤p.count:=by
 rw[Prd.count,yWm hc];omega
theorem zVc {i:dV} {s:Int} {k:Nat} (hk:k<(yR i s).length):List.map zL (List.map (dQ i s) (List.take (k+1) (yR i s))++List.drop (k+1) (yR i s))=
 yE (List.map zL (List.map (dQ i s) (List.take k (yR i s))++List.drop k (yR i s))) k (0+2) [D.v (.int .i64 (i.p.legs i.inst).1),D.v (.int .i64 s),D.v (.int .i64 (i.p.legs i.inst).2.1),D.v (.int .i64 (3-s))]:=by
 obtain⟨q,hq⟩:=yA hk
 rw[zOx (a:=List.map zL (List.map (dQ i s) (List.take k (yR i s)))) (b:=List.map zL (List.drop (k+1) (yR i s))) (x:=zL q) (y:=zL (dQ i s q)) (by
  rw[yWw,yZb hk,(yWn.1 hq).2,yWu]) (by simp;omega) rfl]
 rw[yYm,hq,y0z,yWw,yWw,yWw,yWu,y0g,yWu,y0g,yWx]
 rfl
theorem yTx (i:dV) (h:all1C.cnd i):yKm i:=by
 unfold yKm z8 zCw zCd mV wW mM tJ mC kZ x7 eA v8 gR fZ dI
 obtain⟨⟨h1,h2,h3⟩,ht,hr⟩:i.p.small∧vP i.tops:=h
 have hto:vP i.tops:=⟨ht,hr⟩
 refine⟨i.p,?_⟩
 simp only[yWo,y5]
 (repeat'(first|exact rfl|exact trivial|assumption|apply And.intro|refine fun(_:Unit) (_:True)=>?_|refine Exists.intro () ?_|omega|(dsimp only;omega)))
 have bad (hb:i.p.count=0∨(i.tops.length:Int)≠i.p.count∨i.inst<0∨(i.p.count:Int)≤i.inst):∃(o:Unit),List.map zL (qW i 1)=[]∧True:=⟨(),by rw[qW,yWm hb];rfl,trivial⟩
 refine Cv.cnd.mk (fun c1=>bad (.inl (by have c1:(i.p.count:Int)=0:=(by simpa using c1);omega))) fun c1=>Cv.cnd.mk (fun c2=>bad (.inr (.inl (by simpa using c2)))) fun c2=>zJ (fun c3=>bad (by omega)) fun c3=>zJ (fun c4=>bad (by omega)) fun c4=>⟨⟨i.p,i.inst⟩,?_⟩
 have c1:i.p.count≠0:=by
  have c1:¬(i.p.count:Int)=0:=(by simpa using c1)
  omega
 have c2:(i.tops.length:Int)=i.p.count:=by simpa using c2
 have c4:i.inst<(i.p.count:Int):=by
  have c4:¬i.inst≥(i.p.count:Int):=c4
  omega
 have hc:=sI c1
 have hm:=sW hc
 have e0:qW i 1=if(i.p.legs i.inst).2.2 then(yR i 1).map (dQ i 1)else kW i 1 (i.p.months.length-(i.inst.toNat+1))++j7 i 1 i.inst.toNat:=by
  rw[qW,yWl (by omega)]
 obtain⟨k,hk⟩:∃k:Nat,i.inst=k:=⟨i.inst.toNat,by omega⟩
 have hl:=wC hc (k:=k) (by omega)
 rw[← hk]at hl
 (repeat'(first|exact rfl|exact trivial|assumption|apply And.intro|refine fun(_:Unit) (_:True)=>?_|refine Exists.intro () ?_|omega|(dsimp only;omega)))
 refine Cv.cnd.mk (fun c5=> ?_) (fun c5=> ?_)
 ·have c5:(i.p.legs i.inst).2.2=true:=c5
  rw[e0,yWm c5]
  rcases hl with⟨_,l1,l2,l3,l4⟩|⟨l1,_⟩
  ·have hsl:(yR i 1).length≤1:=zBb _ _ _ _
   refine⟨1,rfl,by omega,fun _ _=>⟨⟨⟨i.tops,[],(i.p.legs i.inst).2.1,(i.p.legs i.inst).1,true⟩,true,false⟩,rfl,rfl,rfl,rfl,rfl,rfl,rfl,⟨l3,by dsimp only;omega,l1,by dsimp only;omega,hto,by simp⟩,fun _ _=>⟨0,rfl,rfl,rfl,fun j=>j≤(yR i 1).length,fun j=>(yR i 1).length-j,by omega,?_⟩⟩⟩
   intro j hj
   have hj:j≤(yR i 1).length:=hj
   have hL:(List.map (dQ i 1) (List.take j (yR i 1))++List.drop j (yR i 1)).length=(yR i 1).length:=by simp;omega
   refine zJ (fun hlt=> ?_) (fun hlt=> ?_)
   ·have hlt:(j:Int)<((yR i 1).length:Int):=hlt
    refine⟨⟨by omega,by rw[hL];omega⟩,by rw[hL];omega,j+1,by rw[w64 (by omega)];rfl,kp,?_,?_⟩
    ·exact zVc (i:=i) (s:=1) (by omega)
    ·exact kp
   ·have hlt:¬(j:Int)<((yR i 1).length:Int):=hlt
    obtain rfl:j=(yR i 1).length:=by omega
    rw[yXg (yXn _),List.drop_length,yXk]
    exact kp
  ·rw[c5]at l1;cases l1
 ·have c5:(i.p.legs i.inst).2.2=false:=c5
  rw[e0,yWl (by rw[c5];simp)]
  rcases hl with⟨l1,_⟩|⟨_,l2⟩
  ·rw[c5]at l1;cases l1
  have m6:=(kP hc).m6
  have e1:i.inst.toNat=k:=by omega
  rw[e1]
  refine⟨0,by rw[w64 (by omega)];omega,kp,rfl,fun j=>j≤i.p.months.length-(k+1),fun j=>i.p.months.length-(k+1)-j,by omega,?_⟩
  intro j hj
  have hj:j≤i.p.months.length-(k+1):=hj
  have hq:=lK i 1 j
  refine zJ (fun hlt=> ?_) (fun hlt=> ?_)
  ·obtain⟨b1,b2⟩:=gV hc (a:=k) (b:=k+1+j) (by omega) (by omega)
   have eb:((k+1+j:Nat):Int)=i.inst+1+j:=by omega
   rw[eb,← hk]at b1 b2
   refine⟨⟨i.p,i.inst,i.inst+1+j⟩,?_⟩
   (repeat'(first|exact rfl|exact trivial|assumption|apply And.intro|refine fun(_:Unit) (_:True)=>?_|refine Exists.intro () ?_|omega|(dsimp only;omega)))
   refine⟨⟨⟨i.tops,kW i 1 j,(i.p.spread i.inst (i.inst+1+j)).1,i.inst+1+j,false⟩,false,false⟩,rfl,rfl,rfl,rfl,rfl,kp,rfl,⟨b1,by dsimp only;omega,by dsimp only;omega,by dsimp only;omega,hto,by dsimp only;omega⟩,fun _ _=>⟨j+1,by rw[w64 (by omega)];omega,kp,?_,?_⟩⟩
   ·rw[kW,y1j,yYh]
    simp only[yYc,y1t,yXk]
    rfl
   ·exact kp
  ·obtain rfl:j=i.p.months.length-(k+1):=by omega
   refine⟨0,rfl,kp,by rw[j7];simp,fun j=>j≤k,fun j=>k-j,by omega,?_⟩
   intro j hj
   have hj:j≤k:=hj
   have hq2:=nK i 1 j
   refine zJ (fun hlt2=> ?_) (fun hlt2=> ?_)
   ·obtain⟨b1,b2⟩:=gV hc (a:=j) (b:=k) (by omega) (by omega)
    rw[← hk]at b1 b2
    refine⟨⟨i.p,j,i.inst⟩,?_⟩
    (repeat'(first|exact rfl|exact trivial|assumption|apply And.intro|refine fun(_:Unit) (_:True)=>?_|refine Exists.intro () ?_|omega|(dsimp only;omega)))
    refine⟨1,rfl,by omega,fun _ _=>⟨⟨⟨i.tops,kW i 1 (i.p.months.length-(k+1))++j7 i 1 j,(i.p.spread j i.inst).1,j,true⟩,true,false⟩,rfl,rfl,rfl,rfl,rfl,kp,rfl,⟨b1,by dsimp only;omega,by dsimp only;omega,by dsimp only;omega,hto,by dsimp only;rw[yWs];omega⟩,fun _ _=>⟨j+1,by rw[w64 (by omega)];omega,kp,?_,?_⟩⟩⟩
    ·rw[j7,y1j,yYh]
     simp only[yYc,y1t,yXk,yWx]
     rfl
    ·exact kp
   ·obtain rfl:j=k:=by omega
    exact kp
theorem yIr:all1C.ok Tryz.prog 152:=okw mixed (gokc aZ (gokc tU (gokc zOp (gokc zOc (gokc zVf gok0))))) 0 (fun _=>[]) (fun i=>ySq i 1) [] Tryz.func152 yTx
theorem yTu (i:dV) (h:all2C.cnd i):yLf i:=by
 unfold yLf z8 mL eL m8 zCw zCd mV wW kZ x7 eA v8 gR fZ dI
 obtain⟨⟨h1,h2,h3⟩,ht,hr⟩:i.p.small∧vP i.tops:=h
 have hto:vP i.tops:=⟨ht,hr⟩
 refine⟨i.p,?_⟩
 simp only[yWo,y5]
 (repeat'(first|exact rfl|exact trivial|assumption|apply And.intro|refine fun(_:Unit) (_:True)=>?_|refine Exists.intro () ?_|omega|(dsimp only;omega)))
 have bad (hb:i.p.count=0∨(i.tops.length:Int)≠i.p.count∨i.inst<0∨(i.p.count:Int)≤i.inst):∃(o:Unit),List.map zL (qW i 2)=[]∧True:=⟨(),by rw[qW,yWm hb];rfl,trivial⟩
 refine Cv.cnd.mk (fun c1=>bad (.inl (by have c1:(i.p.count:Int)=0:=(by simpa using c1);omega))) fun c1=>Cv.cnd.mk (fun c2=>bad (.inr (.inl (by simpa using c2)))) fun c2=>zJ (fun c3=>bad (by omega)) fun c3=>zJ (fun c4=>bad (by omega)) fun c4=>⟨⟨i.p,i.inst⟩,?_⟩
 have c1:i.p.count≠0:=by
  have c1:¬(i.p.count:Int)=0:=(by simpa using c1)
  omega
 have c2:(i.tops.length:Int)=i.p.count:=by simpa using c2
 have c4:i.inst<(i.p.count:Int):=by
  have c4:¬i.inst≥(i.p.count:Int):=c4
  omega
 have hc:=sI c1
 have hm:=sW hc
 have e0:qW i 2=if(i.p.legs i.inst).2.2 then(yR i 2).map (dQ i 2)else kW i 2 (i.p.months.length-(i.inst.toNat+1))++j7 i 2 i.inst.toNat:=by
  rw[qW,yWl (by omega)]
 obtain⟨k,hk⟩:∃k:Nat,i.inst=k:=⟨i.inst.toNat,by omega⟩
 have hl:=wC hc (k:=k) (by omega)
 rw[← hk]at hl
 (repeat'(first|exact rfl|exact trivial|assumption|apply And.intro|refine fun(_:Unit) (_:True)=>?_|refine Exists.intro () ?_|omega|(dsimp only;omega)))
 refine Cv.cnd.mk (fun c5=> ?_) (fun c5=> ?_)
 ·have c5:(i.p.legs i.inst).2.2=true:=c5
  rw[e0,yWm c5]
  rcases hl with⟨_,l1,l2,l3,l4⟩|⟨l1,_⟩
  ·have hsl:(yR i 2).length≤1:=zBb _ _ _ _
   refine⟨2,rfl,by omega,fun _ _=>⟨⟨⟨i.tops,[],(i.p.legs i.inst).2.1,(i.p.legs i.inst).1,true⟩,false,true⟩,rfl,rfl,rfl,rfl,rfl,rfl,rfl,⟨l3,by dsimp only;omega,l1,by dsimp only;omega,hto,by simp⟩,fun _ _=>⟨0,rfl,rfl,rfl,fun j=>j≤(yR i 2).length,fun j=>(yR i 2).length-j,by omega,?_⟩⟩⟩
   intro j hj
   have hj:j≤(yR i 2).length:=hj
   have hL:(List.map (dQ i 2) (List.take j (yR i 2))++List.drop j (yR i 2)).length=(yR i 2).length:=by simp;omega
   refine zJ (fun hlt=> ?_) (fun hlt=> ?_)
   ·have hlt:(j:Int)<((yR i 2).length:Int):=hlt
    refine⟨⟨by omega,by rw[hL];omega⟩,by rw[hL];omega,j+1,by rw[w64 (by omega)];rfl,kp,?_,?_⟩
    ·exact zVc (i:=i) (s:=2) (by omega)
    ·exact kp
   ·have hlt:¬(j:Int)<((yR i 2).length:Int):=hlt
    obtain rfl:j=(yR i 2).length:=by omega
    rw[yXg (yXn _),List.drop_length,yXk]
    exact kp
  ·rw[c5]at l1;cases l1
 ·have c5:(i.p.legs i.inst).2.2=false:=c5
  rw[e0,yWl (by rw[c5];simp)]
  rcases hl with⟨l1,_⟩|⟨_,l2⟩
  ·rw[c5]at l1;cases l1
  have m6:=(kP hc).m6
  have e1:i.inst.toNat=k:=by omega
  rw[e1]
  refine⟨0,by rw[w64 (by omega)];omega,kp,rfl,fun j=>j≤i.p.months.length-(k+1),fun j=>i.p.months.length-(k+1)-j,by omega,?_⟩
  intro j hj
  have hj:j≤i.p.months.length-(k+1):=hj
  have hq:=lK i 2 j
  refine zJ (fun hlt=> ?_) (fun hlt=> ?_)
  ·obtain⟨b1,b2⟩:=gV hc (a:=k) (b:=k+1+j) (by omega) (by omega)
   have eb:((k+1+j:Nat):Int)=i.inst+1+j:=by omega
   rw[eb,← hk]at b1 b2
   refine⟨⟨i.p,i.inst,i.inst+1+j⟩,?_⟩
   (repeat'(first|exact rfl|exact trivial|assumption|apply And.intro|refine fun(_:Unit) (_:True)=>?_|refine Exists.intro () ?_|omega|(dsimp only;omega)))
   refine⟨⟨⟨i.tops,kW i 2 j,(i.p.spread i.inst (i.inst+1+j)).1,i.inst+1+j,false⟩,true,true⟩,rfl,rfl,rfl,rfl,rfl,kp,rfl,⟨b1,by dsimp only;omega,by dsimp only;omega,by dsimp only;omega,hto,by dsimp only;omega⟩,fun _ _=>⟨j+1,by rw[w64 (by omega)];omega,kp,?_,?_⟩⟩
   ·rw[kW,y1j,yYh]
    simp only[yYc,y1t,yXk]
    rfl
   ·exact kp
  ·obtain rfl:j=i.p.months.length-(k+1):=by omega
   refine⟨0,rfl,kp,by rw[j7];simp,fun j=>j≤k,fun j=>k-j,by omega,?_⟩
   intro j hj
   have hj:j≤k:=hj
   have hq2:=nK i 2 j
   refine zJ (fun hlt2=> ?_) (fun hlt2=> ?_)
   ·obtain⟨b1,b2⟩:=gV hc (a:=j) (b:=k) (by omega) (by omega)
    rw[← hk]at b1 b2
    refine⟨⟨i.p,j,i.inst⟩,?_⟩
    (repeat'(first|exact rfl|exact trivial|assumption|apply And.intro|refine fun(_:Unit) (_:True)=>?_|refine Exists.intro () ?_|omega|(dsimp only;omega)))
    refine⟨2,rfl,by omega,fun _ _=>⟨⟨⟨i.tops,kW i 2 (i.p.months.length-(k+1))++j7 i 2 j,(i.p.spread j i.inst).1,j,true⟩,false,true⟩,rfl,rfl,rfl,rfl,rfl,kp,rfl,⟨b1,by dsimp only;omega,by dsimp only;omega,by dsimp only;omega,hto,by dsimp only;rw[yWs];omega⟩,fun _ _=>⟨j+1,by rw[w64 (by omega)];omega,kp,?_,?_⟩⟩⟩
    ·rw[j7,y1j,yYh]
     simp only[yYc,y1t,yXk,yWx]
     rfl
    ·exact kp
   ·obtain rfl:j=k:=by omega
    exact kp
theorem yJf:all2C.ok Tryz.prog 152:=okw mixed (gokc aZ (gokc tU (gokc zOp (gokc zOc (gokc zVf gok0))))) 0 (fun _=>[]) (fun i=>ySq i 2) [] Tryz.func152 yTu
theorem yCb:allC.ok Tryz.prog 152:=fun j=>match j with
 |⟨i,false⟩=>yIr i
 |⟨i,true⟩=>yJf i
theorem z6b:quotesC.ok Tryz.prog 119:=okw mixed (gokc yCb (gokc sR gok0)) 0 (fun _=>[]) (fun j=>yGm j) [] Tryz.func119 yIq
open Go Cv Go.Proofs
open Go Cv Go.Proofs
open Go Cv Go.Proofs
open Go Cv Go.Proofs
structure Mkt where
 p:Prd
 s:MSt
 used:List Int
def zX (l:List Int):List (Value×List D):=l.map fun x=>(.int .i64 x,[.v (.bool true)])
def yP (m:Mkt):Nat→AObj
 |0=> .cells [sV m.p.code,.own 3,zA m.p.tick,zA m.p.low,zA m.p.high,zA m.p.wide,zA m.p.rule,zA m.p.top,zA m.p.least,zA m.p.part,.own 4,.nm 1 0,.mp 2] 121
 |1=>zE m.s
 |2=> .map (zX m.used)
 |3=> .fro 1 (iE m.p.months)
 |4=> .fro 1 (iE m.p.settle)
 |_=> .gone
def qC (m:Mkt):AObj:= .adt Mkt 5 yP m
def newMC:Con where
 ι:=Prd
 pat:=fun p=>[prdV p]
 pre:=fun _=>[]
 cnd:=fun p=>p.small
 alts:=fun p=>[{o:=Unit,res:=fun _=> .tup [.nm 0 0,zA 0],post:=fun _=>[qC ⟨p,cD p,[]⟩],rel:=fun _=>p.check=0},{o:=Unit,res:=fun _=> .tup [.d (.v (.pointer none)),zA p.check],post:=fun _=>[],rel:=fun _=>p.check≠0}]
open Go Cv Go.Proofs
def zFg (a:Prd) (b:Prd) (c:Unit):Prop:=True∧(0+(iE a.settle).length)*(8:Nat)≤(70368744177664:Nat)∧((∃(d:Unit),(0:Int)=(0:Int)∧sb a.code=sb a.code∧a.tick=a.tick∧a.low=a.low∧a.high=a.high∧a.wide=a.wide∧a.rule=a.rule∧a.top=a.top∧a.least=a.least∧a.part=a.part∧zE (cD a)=zE (cD b)∧zX []=[]∧iE a.months=[]++iE a.months∧iE a.settle=[]++iE a.settle∧a.check=0)∨∃(c:Unit),False)
def zLm (a:Prd) (b:Prd) (c:Unit):Prop:=True∧True∧(0+(iE a.months).length)*(8:Nat)≤(70368744177664:Nat)∧zFg a b c
def zFq (a:Prd) (b:Unit):Prop:=True∧(0+(iE a.settle).length)*(8:Nat)≤(70368744177664:Nat)∧((∃(c:Unit),(0:Int)=(0:Int)∧sb a.code=sb a.code∧a.tick=a.tick∧a.low=a.low∧a.high=a.high∧a.wide=a.wide∧a.rule=a.rule∧a.top=a.top∧a.least=a.least∧a.part=a.part∧False)∨∃(b:Unit),False)
def zEe (a:Prd) (b:Unit):Prop:=True∧True∧(0+(iE a.months).length)*(8:Nat)≤(70368744177664:Nat)∧zFq a b
def yLm (p:Prd):Prop:=
 ∃(a:Prd),sb a.code=sb p.code∧iE a.months=iE p.months∧a.tick=p.tick∧a.low=p.low∧a.high=p.high∧a.wide=p.wide∧a.rule=p.rule∧a.top=p.top∧a.least=p.least∧a.part=p.part∧iE a.settle=iE p.settle∧(z8 a)∧(∀(b:Unit),a.check=0→(True∧True∧((0+(iE p.months).length)*(8:Nat)≤(70368744177664:Nat)∧True∧zFg p a b)∧zLm p a b)∧True∧True∧zLm p a b)∧∀(b:Unit),a.check≠0→cnd (a.check !=0) ((∃(c:Unit),False)∨∃(b:Unit),True∧p.check=a.check∧(p.check=0→False)) ((True∧True∧((0+(iE p.months).length)*(8:Nat)≤(70368744177664:Nat)∧True∧zFq p b)∧zEe p b)∧True∧True∧zEe p b)
open Go Cv Go.Proofs
theorem ySt (p:Prd) (h:newMC.cnd p):yLm p:=by
 unfold yLm zLm zEe zFq zFg z8
 obtain⟨h1,h2,h3⟩:p.small:=h
 refine⟨p,?_⟩
 simp only[y5]
 (repeat'(first|exact rfl|exact trivial|assumption|apply And.intro|refine fun(_:Unit) (_:True)=>?_|refine Exists.intro () ?_|omega|(dsimp only;omega)))
 ·intro _ c
  (repeat'(first|exact rfl|exact trivial|assumption|apply And.intro|refine fun(_:Unit) (_:True)=>?_|refine Exists.intro () ?_|omega|(dsimp only;omega)))
  all_goals(refine .inl ⟨(),?_⟩;(repeat'(first|exact rfl|exact trivial|assumption|apply And.intro|refine fun(_:Unit) (_:True)=>?_|refine Exists.intro () ?_|omega|(dsimp only;omega))))
 ·intro _ c
  refine Cv.cnd.mk (fun e=> .inr ⟨(),trivial,kp,c⟩) (fun e=>absurd (by simpa using e) c)
theorem yIi:newMC.ok Tryz.prog 44:=okw mixed (gokc yHi gok0) 0 (fun _=>[]) (fun _=>[]) [] Tryz.func44 ySt
open Go Cv Go.Proofs
structure WiI where
 n:Int
 lo:Int
 hi:Int
def zG (n lo hi:Int):Int:=lo+n % (hi-lo+1)
def withinC:Con:=con1 WiI (fun i=>[zA i.n,zA i.lo,zA i.hi]) (fun _=>[]) (fun i=>yV i.n∧-1000000≤i.lo∧i.lo≤i.hi∧i.hi≤1000000) (fun i=>zA (zG i.n i.lo i.hi)) (fun _=>[])
def cI (rule:Int):Prd:=⟨[67,76],[320,321,323],5,0,1000,200,rule,4,2,40,[500,505,490]⟩
def threeC:Con:=con1 Int (fun n=>[zA n]) (fun _=>[]) (fun _=>True) (fun n=>prdV (cI n)) (fun _=>[])
open Go Cv Go.Proofs
def aL (a:WiI):=(IntKind.i64.wrap (IntKind.i64.wrap (a.hi-a.lo)+1))
def z2c (i:WiI):Prop:=
 IntKind.i64=IntKind.i64∧IntKind.i64.wrap (IntKind.i64.wrap (i.hi-i.lo)+1)≠0∧cnd (decide (i.n.tmod (aL i)<0)) (∃(a:Unit),zG i.n i.lo i.hi=IntKind.i64.wrap (i.lo+IntKind.i64.wrap (IntKind.i64.wrap (IntKind.i64.wrap (i.n.tmod (aL i)+i.hi)-i.lo)+1))∧True) (∃(a:Unit),zG i.n i.lo i.hi=IntKind.i64.wrap (i.lo+i.n.tmod (aL i))∧True)
def z9j (n:Int):Prop:=
 ∃(a:Unit),sb [(67:UInt8),(76:UInt8)]=ByteArray.mk #[(67:UInt8),(76:UInt8)]∧iE [(320:Int),(321:Int),(323:Int)]=[[dI 320],[dI 321],[dI 323]]∧(5:Int)=(5:Int)∧(0:Int)=(0:Int)∧(1000:Int)=(1000:Int)∧(200:Int)=(200:Int)∧n=n∧(4:Int)=(4:Int)∧(2:Int)=(2:Int)∧(40:Int)=(40:Int)∧iE [(500:Int),(505:Int),(490:Int)]=[[dI 500],[dI 505],[dI 490]]∧True
open Go Cv Go.Proofs
theorem yDv:threeC.ok Tryz.prog 13:=okw (V:=z9j) mixed gok0 0 (fun _=>[]) (fun _=>[]) [] Tryz.func13 fun(n:Int) _=>by
 unfold z9j dI;exact kp
theorem yGe (i:WiI) (h:withinC.cnd i):z2c i:=by
 obtain⟨⟨a1,a2⟩,a3,a4,a5⟩:yV i.n∧-1000000≤i.lo∧i.lo≤i.hi∧i.hi≤1000000:=h
 unfold z2c aL
 rw[w64 (x:=i.hi-i.lo) (by omega),w64 (x:=i.hi-i.lo+1) (by omega)]
 obtain⟨d,hd⟩:∃d:Int,i.hi-i.lo+1=d:=⟨_,rfl⟩
 rw[hd]
 have h1:i.n.tmod d=if 0≤i.n then i.n % d else-((-i.n) % d):=by
  split
  ·rename_i h;rw[Int.tmod_eq_emod_of_nonneg h]
  ·rename_i h
   have:i.n= -(-i.n):=by omega
   conv=>lhs;rw[this]
   rw[Int.neg_tmod,Int.tmod_eq_emod_of_nonneg (by omega)]
 have hb1:=Int.emod_nonneg i.n (show d≠0 by omega)
 have hb2:=Int.emod_lt_of_pos i.n (show 0<d by omega)
 have hb3:=Int.emod_nonneg (-i.n) (show d≠0 by omega)
 have hb4:=Int.emod_lt_of_pos (-i.n) (show 0<d by omega)
 have key:i.n.tmod d<0→i.n % d=i.n.tmod d+d:=fun hneg=>by
  have:=Int.emod_eq_of_lt (a:=i.n.tmod d+d) (b:=d) (by rw[h1]at hneg ⊢;split at hneg<;>split<;>omega) (by omega)
  rw[← this,Int.add_emod_right]
  have e:=Int.tmod_add_mul_tdiv i.n d
  conv=>lhs;rw[← e]
  rw[Int.add_mul_emod_self_left]
 have key2:¬i.n.tmod d<0→i.n % d=i.n.tmod d:=fun hneg=>by
  have hlt:i.n.tmod d<d:=by rw[h1];split<;>omega
  have:=Int.emod_eq_of_lt (a:=i.n.tmod d) (b:=d) (by omega) hlt
  rw[← this]
  have e:=Int.tmod_add_mul_tdiv i.n d
  conv=>lhs;rw[← e]
  rw[Int.add_mul_emod_self_left]
 refine⟨rfl,by omega,zJ (fun c=>⟨(),?_,trivial⟩) (fun c=>⟨(),?_,trivial⟩)⟩
 ·have k:=key c
  rw[zG,hd,k]
  rw[w64 (x:=i.n.tmod d+i.hi) (by omega),w64 (x:=i.n.tmod d+i.hi-i.lo) (by omega),w64 (x:=i.n.tmod d+i.hi-i.lo+1) (by omega),w64 (by omega)]
  omega
 ·have k:=key2 c
  rw[zG,hd,k,w64 (by omega)]
theorem within_ok:withinC.ok Tryz.prog 17:=okw mixed gok0 0 (fun _=>[]) (fun _=>[]) [] Tryz.func17 yGe
open Go Cv Go.Proofs
def lT (l:List (Int×Int)) (k:Int):Option Int:=(l.find? fun x=>decide (x.1=k)).map (·.2)
open Go Cv Go.Proofs
open Go Cv Go.Proofs
theorem yCd (l:List (Int×Int)) (k:Int):∀p∈yU l,like (Value.int IntKind.i64 k) p.1=true:=by
 intro p hp
 obtain⟨x,_,rfl⟩:=yXl.1 hp
 rfl
theorem mA (k:Int):∀l:List (Int×Int),qY (Value.int IntKind.i64 k) (yU l)=(lT l k).map fun v=>[D.v (.int .i64 v)]
 |[]=>rfl
 |(a,v)::l=>by
  have ih:=mA k l
  show(bif (keq .i64 .i64 && decide (k=a))then _ else qY _ (yU l))=_
  by_cases h:k=a
  ·subst h;simp[lT,keq]
  ·have h':¬a=k:=fun e=>h e.symm
   rw[show(keq .i64 .i64 && decide (k=a))=false by simp[h],cond_false,ih]
   simp[lT,y2k,h']
open Go Cv Go.Proofs
structure Rep where
 kind:Int
 id:Int
 inst:Int
 side:Int
 price:Int
 qty:Int
 left:Int
 why:Int
 deriving DecidableEq
@[reducible] def yWd (r:Rep):V:= .agg [zA r.kind,zA r.id,zA r.inst,zA r.side,zA r.price,zA r.qty,zA r.left,zA r.why]
def xN (r:Rep):List D:=[.v (.int .i64 r.kind),.v (.int .i64 r.id),.v (.int .i64 r.inst),.v (.int .i64 r.side),.v (.int .i64 r.price),.v (.int .i64 r.qty),.v (.int .i64 r.left),.v (.int .i64 r.why)]
def zUu (k v:Int):List (Int×Int)→List (Int×Int)
 |[]=>[(k,v)]
 |(a,b)::l=>if k=a then(a,v)::l else(a,b)::zUu k v l
def zZr (k:Int):List (Int×Int)→List (Int×Int)
 |[]=>[]
 |(a,b)::l=>if k=a then l else(a,b)::zZr k l
def bj (t:Nat):SAnn:={ι:=Bool,slots:=fun b=>[(t,yL b)],rows:=fun _=>[]}
def ij (t:Nat):SAnn:={ι:=Int,slots:=fun n=>[(t,zA n)],rows:=fun _=>[]}
open Go Cv Go.Proofs
open Go Cv Go.Proofs
theorem dD (l:List (Int×Int)) (k:Int):∀(p:Value×List D),p∈yU l→like (Value.int IntKind.i64 k) p.1=true:=fun p hp=>yCd l k p hp
theorem zUj (k v:Int):∀l,uC (Value.int IntKind.i64 k) [D.v (.int .i64 v)] (yU l)=yU (zUu k v l)
 |[]=>rfl
 |(a,b)::l=>by
  have ih:=zUj k v l
  show(bif (keq .i64 .i64 && decide (k=a))then _ else _::uC _ _ (yU l))=_
  rw[ih,zUu]
  by_cases h:k=a
  ·subst h;simp[keq,yU]
  ·simp[h,yU]
theorem zWq (k:Int):∀l,eV (Value.int IntKind.i64 k) (yU l)=yU (zZr k l)
 |[]=>rfl
 |(a,b)::l=>by
  have ih:=zWq k l
  show(bif (keq .i64 .i64 && decide (k=a))then yU l else _::eV _ (yU l))=_
  rw[ih,zZr]
  by_cases h:k=a
  ·subst h;simp[keq]
  ·simp[h,yU]
theorem yNk (l:List (Int×Int)) (k:Int):qY (Value.int IntKind.i64 k) (yU l)=some [D.v (.int .i64 ((lT l k).getD 0))]∧(lT l k).isSome=true∨qY (Value.int IntKind.i64 k) (yU l)=none∧[D.v (.int .i64 ((lT l k).getD 0))]=[D.v (.int .i64 0)]∧(lT l k).isSome=false:=by
 rw[mA]
 cases lT l k with
 |none=>exact .inr ⟨rfl,rfl,rfl⟩
 |some v=>exact .inl ⟨rfl,rfl⟩
theorem zVe (a b:Int):(a==b)=decide (a=b):=by
 by_cases h:a=b
 ·subst h;simp
 ·simp[h]
open Go Cv Go.Proofs
theorem yS {n lo hi:Int} (h:lo≤hi):lo≤zG n lo hi∧zG n lo hi≤hi:=by
 rw[zG]
 have h1:=Int.emod_nonneg n (show hi-lo+1≠0 by omega)
 have h2:=Int.emod_lt_of_pos n (show 0<hi-lo+1 by omega)
 omega
open Go Go.RowKit Cv
theorem tX {P:Program} {dT sT ty e sz by_:Nat} {z:Array Value} (hi:uZ P dT=some (e,sz,by_,z)) {w:World} {g o dLen dCap b so sLen sCap n:Nat} {cur src:List Value} {T T':TypeId} {fr:Nat×Nat}
 (hg:w.heap[g]? =some (.cells cur.toArray T (0,0))) (hs:w.heap[b]? =some (.cells src.toArray T' fr)) (hn:Nat.min sLen dLen=n) (h1:so+n*sz≤src.length) (h2:o+n*sz≤cur.length)
 (hone:∀v∈(src.drop so).take (n*sz),v.oneC=true):
 u6 P (Builtin.copy_ #[dT,sT] ty #[.slice (some ⟨g,o,none⟩) dLen dCap,.slice (some ⟨b,so,none⟩) sLen sCap]) w (.int .i64 n) (World.setB w g (.cells (spl cur o ((src.drop so).take (n*sz))).toArray T (0,0))):=by
 obtain⟨i,zv,q1,q2,rfl,rfl,q5,rfl⟩:=jF hi
 have hl:((src.drop so).take (n*i.size)).length=n*i.size:=by rw[yXi,yXp];omega
 have hst:=j8 (P:=P) ((src.drop so).take (n*i.size)) 0 o cur w hg (by rw[hl];omega) hone
 simp only[y0q]at hst
 unfold u6 Builtin.copy_
 simp only[yYk,yYr,yYf,bind,pure,run_bind,Sem.bind,Sem.run,Cv.run_underlying q1,Cv.run_sizeOf q2,Builtin.lenOf,hn,Builtin.firstCells,hU hs h1,hst]
 rfl
theorem Hp.apart {k:Ko} {w:World} {b c:Nat} {o o':Obj} {L:List HP} (H:Hp k w (pt b o::pt c o'::L)):b≠c:=by
 obtain⟨hk,hs,hh⟩:=H
 cases hh with
 |cons ha hsub hd hr=>
  cases hr with
  |cons hb hsub2 hd2 hr2=>
   intro e
   subst e
   have:=hd _ yWq b
   rw[show _=one b o from ha,show _=one b o' from hb]at this
   simp[one]at this
def yNo (P:Program) (tS tI sz fO fR:Nat) (s:Option Addr) (sn sk:Nat) (i:Int) (v:Option Addr) (vn vk:Nat) (w:World) (R:Ending→World→Prop):Prop:=
slN s sn sk (some i) none sz fun a1 na1 ka1=>
cnd (((vn:Int):Int)==0) (
R (.returned (.slice s sn sk)) w) (
cnd ((i:Int)==(sn:Int)) (
∃(a2:Option Addr) (na2 ka2:Nat),∃w3:World,u6 P (Builtin.append_ #[tS,tS] tS #[.slice s sn sk,.slice v vn vk]) w (.slice a2 na2 ka2) w3∧
R (.returned (.slice a2 na2 ka2)) w3) (
cnd (decide ((IntKind.i64.wrap ((sn:Int)+(vn:Int)):Int)>(sk:Int))) (
slN s sn sk none (some i) sz fun a4 na4 ka4=>
∃(a5:Option Addr) (na5 ka5:Nat),∃w6:World,u6 P (Builtin.append_ #[tS,tI] tS #[.slice a4 na4 ka4,.int .i64 (IntKind.i64.wrap (IntKind.i64.wrap ((sn:Int)+(vn:Int))-i))]) w (.slice a5 na5 ka5) w6∧
slN a5 na5 ka5 (some i) none sz fun a7 na7 ka7=>
∃x8:Int,∃w9:World,u6 P (Builtin.copy_ #[tS,tS] tI #[.slice a7 na7 ka7,.slice v vn vk]) w6 (.int .i64 x8) w9∧
z3e w9 fun w10=>
slN a5 na5 ka5 (some (IntKind.i64.wrap (i+(vn:Int)))) none sz fun a11 na11 ka11=>
slN s sn sk (some i) none sz fun a12 na12 ka12=>
∃x13:Int,∃w14:World,u6 P (Builtin.copy_ #[tS,tS] tI #[.slice a11 na11 ka11,.slice a12 na12 ka12]) w10 (.int .i64 x13) w14∧
R (.returned (.slice a5 na5 ka5)) w14) (
slN s sn sk none (some (IntKind.i64.wrap ((sn:Int)+(vn:Int)))) sz fun a15 na15 ka15=>
slN a15 na15 ka15 (some (IntKind.i64.wrap (i+(vn:Int)))) none sz fun a16 na16 ka16=>
∃c17:Bool,∃w18:World,Cv.Ext P fO #[.slice v vn vk,.slice a16 na16 ka16] w (.bool c17) w18∧
cnd (!c17) (
z3e w18 fun w19=>
slN a15 na15 ka15 (some (IntKind.i64.wrap (i+(vn:Int)))) none sz fun a20 na20 ka20=>
slN a15 na15 ka15 (some i) none sz fun a21 na21 ka21=>
∃x22:Int,∃w23:World,u6 P (Builtin.copy_ #[tS,tS] tI #[.slice a20 na20 ka20,.slice a21 na21 ka21]) w19 (.int .i64 x22) w23∧
slN a15 na15 ka15 (some i) none sz fun a24 na24 ka24=>
∃x25:Int,∃w26:World,u6 P (Builtin.copy_ #[tS,tS] tI #[.slice a24 na24 ka24,.slice v vn vk]) w23 (.int .i64 x25) w26∧
R (.returned (.slice a15 na15 ka15)) w26) (
slN a15 na15 ka15 (some (sn:Int)) none sz fun a27 na27 ka27=>
∃x28:Int,∃w29:World,u6 P (Builtin.copy_ #[tS,tS] tI #[.slice a27 na27 ka27,.slice v vn vk]) w18 (.int .i64 x28) w29∧
slN a15 na15 ka15 (some i) none sz fun a30 na30 ka30=>
Calls P fR #[.slice a30 na30 ka30,.int .i64 (vn:Int)] w29 fun e32 w31=>e32= .returned (.tuple #[])∧
R (.returned (.slice a15 na15 ka15)) w31))))
theorem z7y {α:Type} {l m:Nat} {xs r ys:List α} (hl:l≤xs.length) (hy:ys.length=m) (hr:m≤r.length):
 ((xs++r).take (l+m)++xs.drop l++(xs++r).drop (l+m+(xs.drop l).length)).take l++ys++((xs++r).take (l+m)++xs.drop l++(xs++r).drop (l+m+(xs.drop l).length)).drop (l+ys.length)=(xs.take l++ys++xs.drop l)++r.drop m:=by
 have e1:(xs++r).drop (l+m+(xs.drop l).length)=r.drop m:=by
  rw[yXp,show l+m+(xs.length-l)=xs.length+m by omega,y1r]
  simp
 have e2:((xs++r).take (l+m)++xs.drop l++r.drop m).take l=xs.take l:=by
  rw[yWx,yXs (by rw[yXi,yWs];omega),List.take_take,y1h (by omega),yXs hl]
 have e3:((xs++r).take (l+m)++xs.drop l++r.drop m).drop (l+ys.length)=xs.drop l++r.drop m:=by
  have:((xs++r).take (l+m)).length=l+m:=by rw[yXi,yWs];omega
  rw[yWx,hy,y1r,this,y2c,yZw,yZu (by omega),yYu]
 rw[e1,e2,e3]
 simp
theorem zRs (A Z Y:List Value):spl (A++Z) A.length Y=A++Y++Z.drop Y.length:=by
 simp only[spl]
 rw[List.take_left,y1r]
 simp
theorem zFr {b o n c i:Nat} (h:c≠i):(if c=i then(some ⟨b,o,none⟩:Option Addr)else(some ⟨b,o,none⟩:Option Addr).map (·.add n))=some ⟨b,o+n,none⟩:=by
 rw[yWl h,yYo,uU]
def zQa (P:Program) (fO:Nat):Prop:=∀(w:World) (va sb so la ca lb cb:Nat) (c c':Array Value) (T T':TypeId),va≠sb→w.heap[va]?=some (.cells c T (0,0))→w.heap[sb]?=some (.cells c' T' (0,0))→c'.size≠0→
 Cv.Ext P fO #[.slice (some ⟨va,0,none⟩) la ca,.slice (some ⟨sb,so,none⟩) lb cb] w (.bool false) w
theorem yIp {P : Program} {fO tS tB e sz by_ : Nat} {z : Array Value} {fn : Func} (hf : P.funcs[fO]? = some fn) (hname : (fn.name == "runtime.NumGoroutine") = false) (hb : fn.body.isNone = true) (hn : Extern.findNext fn = none) (he : Extern.find fn = some (Extern.SlicesOverlaps.overlaps #[tS, tS] #[tB]))
 (hi:uZ P tS=some (e,sz,by_,z)):zQa P fO:=by
 obtain⟨i,zv,q1,q2,rfl,rfl,q5,rfl⟩:=jF hi
 intro w va sb so la ca lb cb c c' T T' hne h1 h2 h3
 unfold Cv.Ext
 rw[run_callFunc_extern hf hname hb hn he,Lib.run_overlaps_apart w tS tB e q1 i.size (fun w=>Cv.run_sizeOf q2 w) ⟨va,0,none⟩ ⟨sb,so,none⟩ la ca lb cb hne T T' c.size c'.size (by simp[World.shape?,h1]) (by simp[World.shape?,h2]) h3 (by simp[World.frozen?,h1]) (by simp[World.frozen?,h1])]
 rfl
theorem yUz {P:Program} {tS tI e sz by_ fO fR:Nat} {z:Array Value} (hi:uZ P tS=some (e,sz,by_,z)) (hz:z.size=sz) (hby:0<by_) (hsz:0<sz) (h2:zZq P tS=true) (hti:P.underlying tI=some (.int .i64)) (hov:zQa P fO)
 {k:Ko} {w:World} {L:List HP} {s v:Option Addr} {sn sk vn vk i:Nat} {xs ys:List Value} (H:Hp k w (slO e sz s sn sk xs::slO e sz v vn vk ys::L)) (h1:∀u∈xs,u.oneC=true) (hy:∀u∈ys,u.oneC=true) (hin:i≤sn) (hv:0<vn)
 (hb:(sn+vn)*by_≤70368744177664):
 yNo P tS tI sz fO fR s sn sk i v vn vk w fun en w'=>∃a kk,en= .returned (.slice a (sn+vn) kk)∧Hp k w' (slO e sz a (sn+vn) kk (xs.take (i*sz)++ys++xs.drop (i*sz))::slO e sz v vn vk ys::L):=by
 obtain⟨hxl,hnk⟩:=H.len
 obtain⟨hyl,hvk⟩:=H.swap.len
 have hnm:sn+vn≤70368744177664:=yYw (Nat.le_mul_of_pos_right _ hby) hb
 have w1:IntKind.i64.wrap ((sn:Int)+(vn:Int))=((sn+vn:Nat):Int):=by rw[Cv.wrap_i64 (by omega) (by omega)];simp
 have w2:IntKind.i64.wrap ((i:Int)+(vn:Int))=((i+vn:Nat):Int):=by rw[Cv.wrap_i64 (by omega) (by omega)];simp
 have w3:IntKind.i64.wrap (((sn+vn:Nat):Int)-(i:Int))=((sn+vn-i:Nat):Int):=by rw[Cv.wrap_i64 (by omega) (by omega)];omega
 have hle:i*sz≤xs.length:=by rw[hxl];exact yYp _ hin
 have htl:(xs.take (i*sz)).length=i*sz:=by rw[yXi];omega
 have hdl:(xs.drop (i*sz)).length=(sn-i)*sz:=by rw[yXp,hxl,Nat.sub_mul]
 have hsum:(i+vn)*sz=i*sz+vn*sz:=yZj _ _ _
 have hsum2:(sn+vn)*sz=i*sz+vn*sz+(sn-i)*sz:=by rw[← yZj,← yZj];congr 1;omega
 have hfin:(xs.take (i*sz)++ys++xs.drop (i*sz)).length=(sn+vn)*sz:=by
  rw[yWs,yWs,htl,hyl,hdl,hsum2]
 unfold yNo
 simp only[slN,w1,w2,w3,yXc]
 refine⟨⟨by omega,by omega,hnk⟩,Cv.cnd.mk (fun c=>absurd c (by simp;omega)) fun _=>Cv.cnd.mk (fun c=> ?_) fun c=>Cv.cnd.mk (fun hc=> ?_) fun hc=> ?_⟩
 ·have c:i=sn:=by have:(i:Int)=(sn:Int):=by simpa using c
                  omega
  subst c
  obtain⟨a',c',w',r1,r2⟩:=H.append (rt:=tS) hi h2 (x:= .slice v vn vk) (m:=vn) (ys:=ys) (.inl ⟨v,vk,rfl,H.swap.satR⟩) hy hz hby hb
  refine⟨a',_,c',w',r1,a',c',rfl,?_⟩
  rw[yXg (by omega),yZu (by omega),yXk]
  exact r2
 ·have c:i<sn:=by have:¬(i:Int)=(sn:Int):=by simpa using c
                  omega
  have hc:sk<sn+vn:=by have:=yZh hc;omega
  obtain⟨inf,zv,q1,q2,q3,q4,q5,q6⟩:=jF hi
  subst q3 q4 q6
  rcases H.slcases with⟨_,e0,_⟩|⟨b,r,rfl,g1,g2,g3,H0⟩
  ·omega
  rcases H0.swap.slcases with⟨_,e0,_⟩|⟨vb,rv,rfl,g4,g5,g6,H1⟩
  ·omega
  have hold:(Builtin.firstCells inf.size i (.slice (some ⟨b,0,none⟩) i sk)).run P w.drew= .ok (xs.take (i*inf.size)).toArray w.drew:=by
   have hbk:=(H1.drew).swap.get
   have:=hU (P:=P) (o:=0) (n:=i*inf.size) hbk (by rw[yWs];omega)
   unfold Builtin.firstCells
   rw[this,yZw,yXs hle]
  have hfit2:=zLe (need:=sn+vn) (cap:=sk) (by omega)
  have hfit3:=yYp inf.bytes hfit2
  have e2:2*(sn+vn)*inf.bytes=2*((sn+vn)*inf.bytes):=by rw[Nat.mul_assoc]
  have hkb:(sn+vn-i)*inf.bytes≤(sn+vn)*inf.bytes:=yYp _ (by omega)
  have hgr:=Lib.run_append_grow_zeros (P:=P) w tS tI tS e inf zv .i64 .i64 q1 hti q2 q5 (some ⟨b,0,none⟩) i sk (xs.take (i*inf.size)) hold (sn+vn-i) (by omega) hsz (by omega) (by omega) (by omega) (by rw[show i+(sn+vn-i)=sn+vn by omega];omega)
  rw[show i+(sn+vn-i)=sn+vn by omega]at hgr
  have hG:sn+vn≤grownCap w (sn+vn) sk e:=grownCap_ge w (sn+vn) sk e
  generalize grownCap w (sn+vn) sk e=G at hgr hG
  have harr:(xs.take (i*inf.size)).toArray++Builtin.zeroCells zv.cells (sn+vn-i)++Builtin.zeroCells zv.cells (G-(sn+vn))=(xs.take (i*inf.size)++((Builtin.zeroCells zv.cells (sn+vn-i)).toList++(Builtin.zeroCells zv.cells (G-(sn+vn))).toList)).toArray:=by
   apply Array.ext';simp
  rw[harr]at hgr
  have hZl:((Builtin.zeroCells zv.cells (sn+vn-i)).toList++(Builtin.zeroCells zv.cells (G-(sn+vn))).toList).length=(sn+vn-i)*inf.size+(G-(sn+vn))*inf.size:=by
   rw[yWs,y1n,y1n,size_zeroCells,size_zeroCells,hz]
  generalize (Builtin.zeroCells zv.cells (sn+vn-i)).toList++(Builtin.zeroCells zv.cells (G-(sn+vn))).toList=Z at hgr hZl
  have hZ2:(sn+vn-i)*inf.size=vn*inf.size+(sn-i)*inf.size:=by rw[← yZj];congr 1;omega
  have H2:=(H1.drew).new (.cells (xs.take (i*inf.size)++Z).toArray e)
  have hB:w.drew.heap.size=w.heap.size:=rfl
  rw[hB]at H2
  have hc1:=tX (P:=P) (sT:=tS) (ty:=tI) hi (g:=w.heap.size) (o:=0+i*inf.size) (dLen:=sn+vn-i) (dCap:=G-i) (b:=vb) (so:=0) (sLen:=vn) (sCap:=vk) (n:=vn) H2.get H2.swap.get (y1h (by omega)) (by rw[yWs];omega) (by rw[yWs,htl,hZl];omega) (by
   rw[yZw,yXs (by omega),yXg (by omega)];exact hy)
  rw[yZw,yXs (by omega),yXg (show ys.length≤vn*inf.size by omega),yXq]at hc1
  have es1:spl (xs.take (i*inf.size)++Z) (i*inf.size) ys=xs.take (i*inf.size)++ys++Z.drop ys.length:=by
   have:=zRs (xs.take (i*inf.size)) Z ys
   rwa [htl]at this
  rw[es1]at hc1
  have H3:=(H2.upd (.cells (xs.take (i*inf.size)++ys++Z.drop ys.length).toArray e)).drew
  have hg4:(xs++r).drop (i*inf.size)=xs.drop (i*inf.size)++r:=yZf hle
  have hc2:=tX (P:=P) (sT:=tS) (ty:=tI) hi (g:=w.heap.size) (o:=0+(i+vn)*inf.size) (dLen:=sn+vn-(i+vn)) (dCap:=G-(i+vn)) (b:=b) (so:=0+i*inf.size) (sLen:=sn-i) (sCap:=sk-i) (n:=sn-i) H3.get H3.swap.drop.swap.get (y1h (by omega)) (by rw[yWs,hxl,yXq,← yZj];exact yYw (yYp _ (by omega)) (Nat.le_add_right _ _)) (by
   rw[yWs,yWs,htl,hyl,yXp,hZl];omega) (by
   rw[yXq,hg4,yXs (by omega),yXg (by omega)]
   exact fun u hu=>h1 u (y0b hu))
  rw[yXq,yXq,hg4,yXs (by omega),yXg (show(xs.drop (i*inf.size)).length≤(sn-i)*inf.size by omega)]at hc2
  have es2:spl (xs.take (i*inf.size)++ys++Z.drop ys.length) ((i+vn)*inf.size) (xs.drop (i*inf.size))=xs.take (i*inf.size)++ys++xs.drop (i*inf.size)++(Z.drop ys.length).drop (xs.drop (i*inf.size)).length:=by
   have:=zRs (xs.take (i*inf.size)++ys) (Z.drop ys.length) (xs.drop (i*inf.size))
   rwa [show(xs.take (i*inf.size)++ys).length=(i+vn)*inf.size by rw[yWs,htl,hyl,hsum]]at this
  rw[es2]at hc2
  refine⟨⟨by omega,by omega⟩,_,_,_,_,hgr,?_⟩
  rw[zFr (show G≠i by omega),yXq]
  refine⟨⟨by omega,by omega,hG⟩,_,_,hc1,?_⟩
  rintro _ rfl
  rw[zFr (show G≠i+vn by omega),zFr (show sk≠i by omega),yXq,yXq]
  refine⟨⟨by omega,by omega,hG⟩,⟨by omega,by omega,hnk⟩,_,_,hc2,_,_,rfl,?_⟩
  have H4:=H3.upd (.cells (xs.take (i*inf.size)++ys++xs.drop (i*inf.size)++(Z.drop ys.length).drop (xs.drop (i*inf.size)).length).toArray e)
  have H5:=H4.slmk (n:=sn+vn) (c:=G) (sz:=inf.size) hfin (by
   rw[yWs,hfin,yXp,yXp,hZl,hyl,hdl]
   have:G*inf.size=(sn+vn)*inf.size+(G-(sn+vn))*inf.size:=by rw[← yZj];congr 1;omega
   omega) hG
  have H6:=H5.swap.slmk (n:=vn) (c:=vk) (sz:=inf.size) g4 g5 g6
  exact(H6.swap.perm (List.Perm.trans ((List.Perm.swap _ _ _).cons _) (List.Perm.swap _ _ _))).drop
 ·have c:i<sn:=by have:¬(i:Int)=(sn:Int):=by simpa using c
                  omega
  have hc:sn+vn≤sk:=by have:=y0a hc;omega
  rcases H.slcases with⟨_,e0,_⟩|⟨b,r,rfl,g1,g2,g3,H0⟩
  ·omega
  rcases H0.swap.slcases with⟨_,e0,_⟩|⟨vb,rv,rfl,g4,g5,g6,H1⟩
  ·omega
  have hrl:vn*sz≤r.length:=by
   have e1:(sn+vn)*sz≤sk*sz:=yYp _ hc
   rw[yWs,g1]at g2
   rw[yZj]at e1
   omega
  have H2:=H1.swap
  have hne:vb≠b:=Hp.apart H1
  have hg4:(xs++r).drop (i*sz)=xs.drop (i*sz)++r:=yZf hle
  have hex:=hov w vb b (0+(i+vn)*sz) vn vk (sn+vn-(i+vn)) (sk-(i+vn)) (ys++rv).toArray (xs++r).toArray e e hne H1.get H2.get (by
   rw[y0m,yWs,g1]
   have:=Nat.mul_pos (show 0<sn by omega) hsz
   omega)
  have H3:=H2.drew
  have hc1:=tX (P:=P) (sT:=tS) (ty:=tI) hi (g:=b) (o:=0+(i+vn)*sz) (dLen:=sn+vn-(i+vn)) (dCap:=sk-(i+vn)) (b:=b) (so:=0+i*sz) (sLen:=sn+vn-i) (sCap:=sk-i) (n:=sn-i) H3.get H3.get (by rw[show sn+vn-(i+vn)=sn-i by omega];exact Nat.min_eq_right (by omega)) (by
   rw[yWs,g1,yXq,← yZj];exact yYw (yYp _ (by omega)) (Nat.le_add_right _ _)) (by
   rw[yWs,g1,yXq,← yZj,show i+vn+(sn-i)=sn+vn by omega,yZj];omega) (by
   rw[yXq,hg4,yXs (by omega),yXg (by omega)]
   exact fun u hu=>h1 u (y0b hu))
  rw[yXq,yXq,hg4,yXs (by omega),yXg (show(xs.drop (i*sz)).length≤(sn-i)*sz by omega)]at hc1
  have H4:=H3.upd (.cells (spl (xs++r) ((i+vn)*sz) (xs.drop (i*sz))).toArray e)
  have hcl:(spl (xs++r) ((i+vn)*sz) (xs.drop (i*sz))).length=(xs++r).length:=by
   simp only[spl,yWs,yXi,hdl]
   rw[yXp,yWs,g1,hsum]
   have:sn*sz=i*sz+(sn-i)*sz:=by rw[← yZj];congr 1;omega
   omega
  have hc2:=tX (P:=P) (sT:=tS) (ty:=tI) hi (g:=b) (o:=0+i*sz) (dLen:=sn+vn-i) (dCap:=sk-i) (b:=vb) (so:=0) (sLen:=vn) (sCap:=vk) (n:=vn) H4.get H4.swap.get (y1h (by omega)) (by rw[yWs];omega) (by
   rw[hcl,yWs,yXq];omega) (by
   rw[yZw,yXs (by omega),yXg (by omega)];exact hy)
  rw[yZw,yXs (by omega),yXg (show ys.length≤vn*sz by omega),yXq]at hc2
  have es:spl (spl (xs++r) ((i+vn)*sz) (xs.drop (i*sz))) (i*sz) ys=(xs.take (i*sz)++ys++xs.drop (i*sz))++r.drop (vn*sz):=by
   have:=z7y (l:=i*sz) (m:=vn*sz) (xs:=xs) (r:=r) (ys:=ys) hle hyl hrl
   simp only[spl,hsum]
   exact this
  rw[es]at hc2
  refine⟨⟨by omega,by omega⟩,⟨by omega,by omega,by omega⟩,false,w,?_,Cv.cnd.mk (fun _=> ?_) (fun c=>absurd c (by decide))⟩
  ·rw[zFr (show sk≠i+vn by omega)];exact hex
  rintro _ rfl
  rw[zFr (show sk≠i+vn by omega),zFr (show sk≠i by omega),yXq,yXq]
  refine⟨⟨by omega,by omega,by omega⟩,⟨by omega,by omega,by omega⟩,_,_,hc1,⟨by omega,by omega,by omega⟩,_,_,hc2,_,_,rfl,?_⟩
  have H5:=H4.upd (.cells (xs.take (i*sz)++ys++xs.drop (i*sz)++r.drop (vn*sz)).toArray e)
  have H6:=H5.slmk (n:=sn+vn) (c:=sk) (sz:=sz) hfin (by
   rw[yWs,hfin,yXp,← g2,yWs,g1,yZj]
   omega) hc
  exact(H6.swap.slmk (n:=vn) (c:=vk) (sz:=sz) g4 g5 g6).swap
structure z7d where
 els:List (List D)
 el:List D
 i:Nat
def yJr (e sz by_:Nat):Con where
 ι:=z7d
 pat:=fun i=>[.own 0,.d (.v (.int .i64 i.i)),.own 1]
 pre:=fun i=>[.own e sz i.els,.own e sz [i.el]]
 cnd:=fun i=>i.i≤i.els.length∧(i.els.length+1)*by_≤70368744177664
 alts:=fun i=>[{o:=Unit,res:=fun _=> .own 2,post:=fun _=>[.gone,.gone,.own e sz (i.els.take i.i++i.el::i.els.drop i.i)],rel:=fun _=>True}]
theorem insX_ok {P:Program} (hm:P.follows .mixedOrders=true) {tS tI e sz by_ fI fO fR:Nat} {z:Array Value} {fn:Func} {c:Code} (hf:P.funcs[fI]? =some fn) (hb:fn.body=some c) (hbd:uM P fI=true) (hok:okC fn.ntmps c=true) (hfx:okF [] c=true) (hsz3:Nat.ble 3 fn.ntmps=true)
 (hi:uZ P tS=some (e,sz,by_,z)) (hz:z.size=sz) (hby:0<by_) (hsz:0<sz) (h2:zZq P tS=true) (hti:P.underlying tI=some (.int .i64)) (hov:zQa P fO)
 (heq:∀(s:Option Addr) (sn sk:Nat) (i:Int) (v:Option Addr) (vn vk:Nat) (w:World) (R:Ending→World→Prop),yNo P tS tI sz fO fR s sn sk i v vn vk w R=cwp P [] c (zRp P fn R) (uK [.slice s sn sk,.int .i64 i,.slice v vn vk]) w):
 (yJr e sz by_).ok P fI:=by
 intro i hc k L E w ys R hv
 obtain⟨c1,c2⟩:i.i≤i.els.length∧(i.els.length+1)*by_≤70368744177664:=hc
 simp only[yJr,VRL,VR,DR]at hv
 obtain⟨y0,_,rfl,⟨l0,e0,_⟩,y1,_,rfl,⟨rfl,_⟩,y2,_,rfl,⟨l2,e2,_⟩,rfl⟩:=hv
 obtain⟨s,sk,xs,sub0,g1,hxs,hu,H⟩:=R.ownOpen (n:=0) (t:=e) (sz:=sz) (els:=i.els) rfl
 rw[e0]at g1;cases g1
 have hk2:∃v vk zs,y2= .slice v 1 vk∧DRL E.F i.el zs∧i.el.length=sz∧Hp k w (slO e sz s i.els.length sk xs::slO e sz v 1 vk zs::fz E.F::L):=by
  obtain⟨hk,hs,hh⟩:=H
  cases hh with
  |cons ha hsub hd hr=>
   simp only[yJr,uT,wZ,yWu,y0g,yXx,yYu]at hr
   cases hr with
   |cons hb2 hsub2 hd2 hr2=>
    rcases hb2 with⟨q,_⟩|⟨⟨hv2,sub2⟩,q1,q2⟩
    ·cases q
    ·simp only at q1
     rw[e2]at q1;cases q1
     simp only[rowHP]at q2
     obtain⟨a,kk,zs,rfl,q3,q4,q5⟩:=q2
     simp only[yYy,List.flatten_nil,yXk]at q3
     exact⟨a,kk,zs,rfl,q3,q4 _ yWq,hk,_,.cons ha hsub hd (.cons q5 hsub2 hd2 hr2)⟩
 obtain⟨v,vk,zs,rfl,hzs,hel,H2⟩:=hk2
 have hv:=yUz (fR:=fR) (fO:=fO) hi hz hby hsz h2 hti hov (i:=i.i) H2 hxs.one hzs.one c1 (by omega) c2
 have hcall:=zHb (args:=[.slice s i.els.length sk,.int .i64 i.i,.slice v 1 vk]) hm hf hb [] hok hfx hsz3 (heq s i.els.length sk i.i v 1 vk w _) hv
 refine pM hbd (hcall.mono ?_)
 rintro en w' ⟨a,kk,rfl,H3⟩
 have H4:Hp k w' (slO e sz a (i.els.take i.i++i.el::i.els.drop i.i).length kk (xs.take (i.i*sz)++zs++xs.drop (i.i*sz))::(([]:List (Nat×AObj)).map (rHP E)++fz E.F::L)):=by
  have:(i.els.take i.i++i.el::i.els.drop i.i).length=i.els.length+1:=by
   rw[yWs,yXa,yXi,yXp];omega
  rw[this]
  exact H3.swap.drop
 obtain⟨E',r1,r2,r3⟩:=aF (nx:=2) R.nx (by
  rw[List.flatten_append,yYy,← mS i.i hu,← mT i.i hu,← yWx]
  exact((hxs.take _).append hzs).append (hxs.drop _)) (fun x hx=>by
   rcases yXo.1 hx with hx|hx
   ·exact hu x (y2a hx)
   ·rcases yXd.1 hx with rfl|hx
    ·exact hel
    ·exact hu x (y0b hx)) H4
 have hl:(i.els.take i.i++i.el::i.els.drop i.i).length=i.els.length+1:=by
  rw[yWs,yXa,yXi,yXp];omega
 rw[hl]at r3
 refine⟨_,rfl,_,yXz.2 rfl,(),trivial,E',r1,r3,⟨r2.nx,?_⟩⟩
 have q1:=((@uE k w' True _).2 ⟨trivial,r2.hp⟩).imp (B:=rHP E' (1,.gone)) fun x hx=> .inl ⟨rfl,hx.2⟩
 have q2:=((@uE k w' True _).2 ⟨trivial,q1⟩).imp (B:=rHP E' (0,.gone)) fun x hx=> .inl ⟨rfl,hx.2⟩
 exact q2
open Go Cv Go.Proofs
def bbetterC:Con:=con1 I3' (fun i=>[zA i.side,zA i.x,zA i.y]) (fun _=>[]) (fun _=>True) (fun i=>yL (btr i.side i.x i.y)) (fun _=>[])
@[reducible] def ySc (s:Slot):V:= .agg [yL s.used,zA s.n,zA s.id,zA s.qty,yL s.top,zA s.queue,zA s.ahead,zA s.back]
def pushFC:Con:=con1 Slot (fun s=>[ySc s]) (fun _=>[]) (fun _=>True) (fun s=>yL (!s.used)) (fun _=>[])
def kK (l:List Slot):Int:=zGs (l.findIdx? fun s=> !s.used)
def idxSlotC:Con:=con1 (List Slot) (fun _=>[.own 0,.fn 259 [] []]) (fun l=>[.own 305 8 (l.map zR)]) (fun l=>l.length≤1000000) (fun l=>zA (kK l)) (fun l=>[.own 305 8 (l.map zR)])
def z9l (l:List Slot):List SAnn:=[{ι:=Nat,slots:=fun j=>[(8,zA j)],rows:=fun _=>[]}]
def bU:dW:=⟨-1,-1,0,0⟩
def Arena.openQ (a:Arena):Arena:={a with queues:=a.queues++[bU]}
def aopenC:Con:=con1 Arena (fun _=>[.nm 0 0]) (fun a=>[jO a]) (fun a=>a.queues.length≤1000000) (fun a=>zA a.queues.length) (fun a=>[jO a.openQ])
structure z7e where
 a:Arena
 n:Int
 t:Bool
def Arena.usedAt (a:Arena) (n:Int):Bool:=decide (0≤n) && (decide (n<a.slots.length) && (a.slots.getD n.toNat slot0).used)
def Arena.topF (a:Arena) (n:Int) (t:Bool):Arena:=if a.usedAt n=true then{a with slots:=a.slots.modify n.toNat fun s=>{s with top:=t}}else a
def atopC:Con:=con1 z7e (fun i=>[.nm 0 0,zA i.n,yL i.t]) (fun i=>[jO i.a]) (fun i=>i.a.slots.length≤1000000) (fun i=>zA (if i.a.usedAt i.n=true then 0 else 26)) (fun i=>[jO (i.a.topF i.n i.t)])
structure PuI where
 a:Arena
 n:Int
 id:Int
 qty:Int
 top:Bool
def Arena.put (a:Arena) (n id qty:Int) (top:Bool):Arena:=
 let q:=a.queues.getD n.toNat bU
 let k:=kK a.slots
 let sl:=a.slots.set k.toNat ⟨true,k,id,qty,top,n,q.last,-1⟩
 ⟨if q.last= -1 then sl else sl.modify q.last.toNat fun s=>{s with back:=k},a.queues.set n.toNat ⟨if q.last= -1 then k else q.first,k,IntKind.i64.wrap (q.total+qty),IntKind.i64.wrap (q.count+1)⟩,IntKind.i64.wrap (a.free-1)⟩
def Arena.push (a:Arena) (n id qty:Int) (top:Bool):Arena×Int×Int:=
 if n<0∨a.queues.length≤n then(a,0,26)else if qty<1∨1000000<qty then(a,0,24)else if a.free=0 then(a,0,13)else(a.put n id qty top,kK a.slots,0)
def Arena.fit (a:Arena):Prop:=a.slots.length≤1000000∧(a.free≠0→∃s∈a.slots,s.used=false)∧∀q∈a.queues,q.last= -1∨(0≤q.last∧q.last<a.slots.length)
def apushC:Con:=con1 PuI (fun i=>[.nm 0 0,zA i.n,zA i.id,zA i.qty,yL i.top]) (fun i=>[jO i.a]) (fun i=>i.a.fit) (fun i=> .tup [zA (i.a.push i.n i.id i.qty i.top).2.1,zA (i.a.push i.n i.id i.qty i.top).2.2]) (fun i=>[jO (i.a.push i.n i.id i.qty i.top).1])
@[reducible] def zHc (b:Book):List AObj:=[zS b 0,zS b 1,zS b 2,zS b 3,zS b 4,zS b 5]
structure BkP where
 b:Book
 price:Int
def zV (s:Int) (l:List xM) (price:Int):Nat:=(l.takeWhile fun r=>btr s r.price price).length
def kJ (s:Int) (l:List xM) (price:Int):Bool:=match l[zV s l price]? with
 |some r=>decide (r.price=price)
 |none=>false
def Book.rungs (b:Book) (s:Int):List xM:=if s=1 then b.buys else b.sells
def yAx (s:Int):Con:=con1 BkP (fun i=>[.nm 0 0,zA s,zA i.price]) (fun i=>zHc i.b) (fun i=>i.b.small) (fun i=> .tup [zA (zV s (i.b.rungs s) i.price),yL (kJ s (i.b.rungs s) i.price)]) (fun i=>zHc i.b)
def find1C:Con:=yAx 1
def find2C:Con:=yAx 2
def yKp:List SAnn:=[{ι:=Nat,slots:=fun j=>[(9,zA j)],rows:=fun _=>[]}]
def pget (l:List (Int×Place)) (k:Int):Option Place:=(l.find? fun x=>decide (x.1=k)).map (·.2)
def nT (k:Int) (v:Place):List (Int×Place)→List (Int×Place)
 |[]=>[(k,v)]
 |(a,b)::l=>if k=a then(a,v)::l else(a,b)::nT k v l
structure LdI where
 b:Book
 id:Int
def Book.hasF (b:Book) (s:Int):Bool:=if s=1 then b.has1 else b.has2
def Book.topI (b:Book) (s:Int):Int:=if s=1 then b.top1 else b.top2
def Book.untop (b:Book) (s:Int):Arena:=if b.hasF s=true then(match pget b.at_ (b.topI s)with
 |some o=>if o.side=s then b.a.topF o.slot false else b.a
 |none=>b.a)else b.a
def Book.leadF (b:Book) (id s:Int):Book:=if s=1 then{b with a:=b.untop s,top1:=id,has1:=true}else{b with a:=b.untop s,top2:=id,has2:=true}
def yFj (s:Int):Con:=con1 LdI (fun i=>[.nm 0 0,zA i.id,zA s]) (fun i=>zHc i.b) (fun i=>i.b.small) (fun _=>zWn) (fun i=>zHc (i.b.leadF i.id s))
def lead1C:Con:=yFj 1
def lead2C:Con:=yFj 2
def Book.newQ (b:Book):Int×List Int×Arena:=if b.spare.length=0 then(b.a.queues.length,b.spare,b.a.openQ)else(b.spare.getD (b.spare.length-1) 0,b.spare.take (b.spare.length-1),b.a)
def Book.ins (b:Book) (s price:Int):List xM:=(b.rungs s).take (zV s (b.rungs s) price)++⟨price,b.newQ.1⟩::(b.rungs s).drop (zV s (b.rungs s) price)
def Book.queueF (b:Book) (s price:Int):Book×Int:=
 if kJ s (b.rungs s) price=true then(b,((b.rungs s).getD (zV s (b.rungs s) price) ⟨0,0⟩).queue)
 else(if s=1 then{b with a:=b.newQ.2.2,buys:=b.ins s price,spare:=b.newQ.2.1}else{b with a:=b.newQ.2.2,sells:=b.ins s price,spare:=b.newQ.2.1},b.newQ.1)
def yJm (b:Book):AObj:= .cells [.nm 1 0,.own 6,.own 3,.mp 4,zA b.top1,zA b.top2,.own 7,yL b.has1,yL b.has2] 244
def yGw (b:Book):AObj:= .cells [.nm 1 0,.own 2,.own 6,.mp 4,zA b.top1,zA b.top2,.own 7,yL b.has1,yL b.has2] 244
@[reducible] def yPp (b:Book):List AObj:=[yJm b,zS b 1,.gone,zS b 3,zS b 4,.gone,zS b 2,zS b 5]
@[reducible] def yPf (b:Book):List AObj:=[yGw b,zS b 1,zS b 2,.gone,zS b 4,.gone,zS b 3,zS b 5]
@[reducible] def Book.fit (b:Book):Prop:=b.a.fit∧b.a.queues.length≤100000∧b.buys.length≤100000∧b.sells.length≤100000∧b.spare.length≤100000
def queue1C:Con:=con1 BkP (fun i=>[.nm 0 0,zA 1,zA i.price]) (fun i=>zHc i.b) (fun i=>i.b.fit) (fun i=>zA (i.b.queueF 1 i.price).2) (fun i=>yPp (i.b.queueF 1 i.price).1)
def queue2C:Con:=con1 BkP (fun i=>[.nm 0 0,zA 2,zA i.price]) (fun i=>zHc i.b) (fun i=>i.b.fit) (fun i=>zA (i.b.queueF 2 i.price).2) (fun i=>yPf (i.b.queueF 2 i.price).1)
def insRC:Con:=yJr 301 2 16
end Sx
