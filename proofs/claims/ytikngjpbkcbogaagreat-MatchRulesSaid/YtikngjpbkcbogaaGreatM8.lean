/- Texts of ours, one behind the other: a walk that the kernel reckons, and contracts of functions. No condition. -/
import Derived.Test.YtikngjpbkcbogaaGreatM7
namespace Sx
set_option linter.unusedVariables false
set_option linter.unusedSimpArgs false
set_option maxRecDepth 100000
open Go Cv Go.Proofs
theorem z3f (s:MSt) (h:topsOC.cnd s):zKw s:=by
 obtain⟨h1,h2⟩:s.cntOk:=h
 unfold zKw
 have p48:(2:Int) ^ (48:Nat)=281474976710656:=by decide
 refine⟨⟨by omega,by omega,by omega,by rw[p48];omega⟩,0,rfl,?_,fun j=>j≤s.books.length,fun j=>s.books.length-j,by omega,fun j hj=>zT (fun hlt=> ?_) (fun hlt=> ?_)⟩
 ·rw[kH,List.map_append,List.map_replicate];rfl
 ·have hj':j<s.books.length:=by omega
  obtain⟨b,hb⟩:=z8 hj'
  have hc:=h2 b (List.mem_of_getElem? hb)
  simp only[Int.toNat_natCast]
  have ha:∀x,(List.map zR (yL s j x)).length=s.books.length:=fun x=>by rw[List.length_map,zJd hj']
  have w1:IntKind.i64.wrap (0+1)=1:=by decide
  have w2:(0+1) % ((2:Int) ^ IntKind.i64.bits).natAbs=1:=by decide
  refine⟨⟨by omega,by omega⟩,by omega,(j,top0),by rw[zHn hj'],fun x=>x=(j,top0.buy (b.best b.buys)),⟨⟨by decide,by decide⟩,1,rfl,b,hb,⟨false,b⟩,rfl,rfl,hc,fun _ _=>⟨b,rfl,kp,by omega,?_⟩⟩,?_⟩
  ·refine Cv.cnd.mk (fun c=> ?_) (fun c=> ?_)
   ·have c:(b.best b.buys).2=true:=c
    have e1:=wJ (s:=s) hj' (x:=top0) (y:={top0 with has1:=true}) (f:=0+0+0*1) (ds:=[D.v (.bool true)]) rfl
    have e2:=wJ (s:=s) hj' (x:={top0 with has1:=true}) (y:={top0 with has1:=true,p1:=(b.best b.buys).1.price}) (f:=0+2+0*1) (ds:=[D.v (.int .i64 (b.best b.buys).1.price)]) rfl
    have e3:=wJ (s:=s) hj' (x:={top0 with has1:=true,p1:=(b.best b.buys).1.price}) (y:={top0 with has1:=true,p1:=(b.best b.buys).1.price,q1:=(b.best b.buys).1.qty}) (f:=0+4+0*1) (ds:=[D.v (.int .i64 (b.best b.buys).1.qty)]) rfl
    dsimp only
    simp only[show b.side false=b.buys from rfl,e1,e2,e3,ha]
    (repeat'(first|exact rfl|exact trivial|assumption|apply And.intro|refine fun(_:Unit) (_:True)=>?_|refine Exists.intro () ?_|omega|(dsimp only;omega)))
    refine⟨(j,{top0 with has1:=true,p1:=(b.best b.buys).1.price,q1:=(b.best b.buys).1.qty}),rfl,?_,?_⟩
    ·rw[Top.buy,if_pos c]
    ·(repeat'(first|exact rfl|exact trivial|assumption|apply And.intro|refine fun(_:Unit) (_:True)=>?_|refine Exists.intro () ?_|omega|(dsimp only;omega)))
     rw[f7 hb];rfl
   ·have c:(b.best b.buys).2=false:=c
    refine⟨(j,top0),rfl,?_,?_⟩
    ·rw[Top.buy,if_neg (by rw[c];simp)]
    ·(repeat'(first|exact rfl|exact trivial|assumption|apply And.intro|refine fun(_:Unit) (_:True)=>?_|refine Exists.intro () ?_|omega|(dsimp only;omega)))
     rw[f7 hb];rfl
  ·rintro _ rfl
   rw[w1]
   generalize hx:top0.buy (b.best b.buys)=x
   have hx2:b.top=x.sell (b.best b.sells):=by rw[Book.top,hx]
   refine⟨(j,x),rfl,fun y=>y=(j,b.top),⟨⟨by decide,by decide⟩,2,rfl,b,hb,⟨true,b⟩,rfl,rfl,hc,fun _ _=>⟨b,rfl,kp,by omega,?_⟩⟩,?_⟩
   ·refine Cv.cnd.mk (fun c=> ?_) (fun c=> ?_)
    ·have c:(b.best b.sells).2=true:=c
     have e1:=wJ (s:=s) hj' (x:=x) (y:={x with has2:=true}) (f:=0+0+1*1) (ds:=[D.v (.bool true)]) rfl
     have e2:=wJ (s:=s) hj' (x:={x with has2:=true}) (y:={x with has2:=true,p2:=(b.best b.sells).1.price}) (f:=0+2+1*1) (ds:=[D.v (.int .i64 (b.best b.sells).1.price)]) rfl
     have e3:=wJ (s:=s) hj' (x:={x with has2:=true,p2:=(b.best b.sells).1.price}) (y:={x with has2:=true,p2:=(b.best b.sells).1.price,q2:=(b.best b.sells).1.qty}) (f:=0+4+1*1) (ds:=[D.v (.int .i64 (b.best b.sells).1.qty)]) rfl
     dsimp only
     simp only[w2,show b.side true=b.sells from rfl,e1,e2,e3,ha]
     (repeat'(first|exact rfl|exact trivial|assumption|apply And.intro|refine fun(_:Unit) (_:True)=>?_|refine Exists.intro () ?_|omega|(dsimp only;omega)))
     refine⟨(j,{x with has2:=true,p2:=(b.best b.sells).1.price,q2:=(b.best b.sells).1.qty}),rfl,?_,?_⟩
     ·rw[hx2,Top.sell,if_pos c]
     ·(repeat'(first|exact rfl|exact trivial|assumption|apply And.intro|refine fun(_:Unit) (_:True)=>?_|refine Exists.intro () ?_|omega|(dsimp only;omega)))
      rw[f7 hb];rfl
    ·have c:(b.best b.sells).2=false:=c
     refine⟨(j,x),rfl,?_,?_⟩
     ·rw[hx2,Top.sell,if_neg (by rw[c];simp)]
     ·(repeat'(first|exact rfl|exact trivial|assumption|apply And.intro|refine fun(_:Unit) (_:True)=>?_|refine Exists.intro () ?_|omega|(dsimp only;omega)))
      rw[f7 hb];rfl
   ·rintro _ rfl
    refine⟨j+1,by rw[w64 (by omega)];rfl,?_⟩
    refine⟨by dsimp only;rw[zGi hb],?_⟩
    exact kp
 ·have hj:j≤s.books.length:=hj
  obtain rfl:j=s.books.length:=by omega
  have e:kH s s.books.length=s.tops:=by
   rw[kH,Nat.sub_self,List.replicate_zero,List.append_nil,List.take_of_length_le (by rw[MSt.tops,List.length_map];omega)]
  rw[e]
  exact kp
theorem zTw:topsOC.ok Tryz.prog 44:=z0q (gokc zBl gok0) z3f
theorem z6j (i:StI) (h:stakeC.cnd i):zJo i:=by
 obtain⟨hR,hB⟩:i.s.Rep i.p i.B∧i.B.length≤1000:=h
 have hat:=hR.at_ i.id
 unfold zJo
 cases hi:vY i.B i.id with
 |none=>
  rw[hi]at hat
  refine⟨uU _ _,false,0,.inr ⟨by rw[aG,hat];rfl,rfl,rfl⟩,Cv.cnd.mk (fun _=>⟨i.s,?_⟩) (fun e=>absurd e (by decide))⟩
  have ht:xN i.B i.id i.q=(i.B,26):=by rw[xN,hi]
  rw[ht]
  exact⟨rfl,rfl,rfl,rfl,rfl,rfl,rfl,rfl,rfl,rfl,rfl,rfl,rfl,rfl,hR⟩
 |some k=>
  rw[hi]at hat
  obtain⟨L,hL,hh⟩:=kZ hi
  have hk:=(List.getElem?_eq_some_iff.1 hL).1
  obtain⟨b,hb⟩:=z8 (l:=i.s.books) (i:=k) (by rw[hR.bl];exact hk)
  have hbR:=hR.bk k b L hb hL
  have hbl:=hR.bl
  have hnd:=hbR.ords.2.1
  refine⟨uU _ _,true,k,.inl ⟨by rw[aG,hat];rfl,rfl⟩,Cv.cnd.mk (fun e=>absurd e (by decide)) (fun _=> ?_)⟩
  rw[Int.toNat_natCast]
  refine⟨⟨by omega,by omega⟩,by omega,b,hb,⟨b,L,i.id,i.q⟩,rfl,rfl,rfl,hbR,fun b' hb'=> ?_⟩
  have hT:=hR.take (q:=i.q) hi hL hnd hb'
  have hk2:(xN i.B i.id i.q).2=(yZ L i.id i.q).2:=by simp only[xN,hi,zP hL]
  refine⟨b',rfl,rfl,by omega,by rw[List.length_set];omega,by rw[List.length_set];omega,b',j5 (by omega),⟨b',(yZ L i.id i.q).1,i.id,0⟩,rfl,rfl,hb',fun _ _=>⟨b',rfl,rfl,by rw[List.length_set];omega,Cv.cnd.mk (fun e=>⟨uU _ _,?_⟩) (fun e=> ?_)⟩⟩
  ·have e:qF (yZ L i.id i.q).1 i.id=false:=by simpa using e
   rw[e,if_neg (by decide)]at hT
   refine⟨{i.s with books:=i.s.books.set k b',wh:=zFa i.id i.s.wh},hk2,rfl,rfl,rfl,rfl,rfl,rfl,rfl,rfl,rfl,?_,(zFl _ _).symm,rfl,rfl,hT⟩
   rw[List.set_set]
  ·have e:qF (yZ L i.id i.q).1 i.id=true:=by simpa using e
   rw[e,if_pos rfl]at hT
   refine⟨{i.s with books:=i.s.books.set k b',wh:=i.s.wh},hk2,rfl,rfl,rfl,rfl,rfl,rfl,rfl,rfl,rfl,?_,rfl,rfl,rfl,hT⟩
   rw[List.set_set]
theorem zUs:stakeC.ok Tryz.prog 39:=zZw (gokc z0h (gokc zVf gok0)) z6j
open Go Cv Go.Proofs
structure BOk (p:Prd) (B:List (List zH)):Prop where
 pc:p.check=0
 ps:p.small
 bl:B.length=p.count
 pr:∀(k:Nat) (L:List zH),B[k]? =some L→∀o∈L,p.price k o.price=0
def motherC:Con:=con1 Bool (fun b=>[zE (zB b)]) (fun _=>[]) (fun _=>True) (fun b=>zE (zB (!b))) (fun _=>[])
def vX (s:Bool) (p x:Int):Bool:=if s then decide (p≤x)else decide (x≤p)
structure GoI where
 s:Bool
 p:Int
 x:Int
def mgoodC:Con:=con1 GoI (fun i=>[zE (zB i.s),zE i.p,zE i.x]) (fun _=>[]) (fun _=>True) (fun i=>yN (vX i.s i.p i.x)) (fun _=>[])
def zM (p:Prd) (B:List (List zH)) (inst:Int) (s:Int):Quote×Bool×Bool:=
 let bq:=zV (kE ⟨p,B.map jI,inst⟩ s) s
 let l:=bestL (B.getD inst.toNat []) s
 if(l.2 && !(bq.2 && btr s bq.1.price l.1.price))=true then(⟨l.1.price,l.1.qty,⟨0,0⟩,⟨0,0⟩⟩,false,true)else(bq.1,bq.2,bq.2)
structure NxI where
 s:MSt
 p:Prd
 B:List (List zH)
 inst:Int
 sd:Bool
def nextC:Con:=con1 NxI (fun i=>[.nm 0 0,zE i.inst,zE (zB i.sd)]) (fun i=>[zJ i.s]) (fun i=>i.s.Rep i.p i.B∧BOk i.p i.B∧0≤i.inst∧i.inst<i.B.length)
 (fun i=> .tup [zKi (zM i.p i.B i.inst (zB i.sd)).1,yN (zM i.p i.B i.inst (zB i.sd)).2.1,yN (zM i.p i.B i.inst (zB i.sd)).2.2]) (fun i=>[zJ i.s])
structure kU where
 id:Int
 inst:Int
 side:Int
 price:Int
 qty:Int
 left:Int
 deriving DecidableEq
def xY (f:kU):List D:=[.v (.int .i64 f.id),.v (.int .i64 f.inst),.v (.int .i64 f.side),.v (.int .i64 f.price),.v (.int .i64 f.qty),.v (.int .i64 f.left)]
def yD (inst s:Int):List zH→List Int→List kU
 |o::os,k::ks=>if 0<k then⟨o.id,inst,s,o.price,k,o.qty-k⟩::yD inst s os ks else yD inst s os ks
 |_,_=>[]
def yS (B:List (List zH)) (fs:List kU):List (List zH):=fs.foldl (fun B f=>(xN B f.id f.qty).1) B
def fH (B:List (List zH)) (inst s:Int):List zH:=atL (B.getD inst.toNat []) s (bestL (B.getD inst.toNat []) s).1.price
def yG (p:Prd) (B:List (List zH)) (inst s q:Int):List kU:=yD inst s (fH B inst s) (xD ⟨p,fH B inst s,q⟩)
structure TrI where
 s:MSt
 p:Prd
 B:List (List zH)
 inst:Int
 sd:Bool
 q:Int
def TrI.os (i:TrI):List zH:=fH i.B i.inst (zB i.sd)
def TrI.sh (i:TrI):List Int:=xD ⟨i.p,i.os,i.q⟩
def TrI.fs (i:TrI) (j:Nat):List kU:=yD i.inst (zB i.sd) (i.os.take j) (i.sh.take j)
def tradeC:Con where
 ι:=TrI
 pat:=fun i=>[.nm 0 0,.agg [zE i.inst,zE (zB i.sd)],zE i.q]
 pre:=fun i=>[zJ i.s]
 cnd:=fun i=>i.s.Rep i.p i.B∧BOk i.p i.B∧0≤i.inst∧i.inst<i.B.length∧yM i.q
 alts:=fun i=>[{o:=MSt,res:=fun _=> .own 1,post:=fun s=>[zJ s,.own 49 6 ((yG i.p i.B i.inst (zB i.sd) i.q).map xY)],rel:=fun s=>s.Rep i.p (yS i.B (yG i.p i.B i.inst (zB i.sd) i.q))}]
def z6k (i:TrI):List SAnn:=[{ι:=Nat×MSt,slots:=fun j=>[(0,.nm 0 0),(11,.own 1),(44,zE j.1)],rows:=fun j=>[zJ j.2,.own 49 6 ((i.fs j.1).map xY)]}]
open Go Cv Go.Proofs
def zOb (b:Bool):Prop:=
 ∃(o:Unit),(zB !b)=IntKind.i64.wrap (3-zB b)∧True
theorem zXl (hG:GOk Tryz.prog ([])) (h:∀(b:Bool),motherC.cnd b→zOb b):motherC.ok Tryz.prog 32:=okw mixed hG 0 (fun _=>[]) (fun _=>[]) [] Tryz.func32 h
def zTe (i:GoI):Prop:=
 cnd (zB i.s==1) (cnd (decide (i.x≤i.p)) (∃(o:Unit),vX i.s i.p i.x=true∧True) (cnd (zB i.s==2) (∃(o:Unit),vX i.s i.p i.x=decide (i.x≥i.p)∧True) (∃(o:Unit),vX i.s i.p i.x=false∧True))) (cnd (zB i.s==2) (∃(o:Unit),vX i.s i.p i.x=decide (i.x≥i.p)∧True) (∃(o:Unit),vX i.s i.p i.x=false∧True))
theorem zZq (hG:GOk Tryz.prog ([])) (h:∀(i:GoI),mgoodC.cnd i→zTe i):mgoodC.ok Tryz.prog 33:=okw mixed hG 0 (fun _=>[]) (fun _=>[]) [] Tryz.func33 h
@[reducible] def zBi (i:NxI) (i_1:MSt) (o:Unit):Prop:=∃(i_2:pA),sb i_2.i.p.code=sb i.s.p.code∧iE i_2.i.p.months=iE i_1.p.months∧i_2.i.p.tick=i.s.p.tick∧i_2.i.p.low=i.s.p.low∧i_2.i.p.high=i.s.p.high∧i_2.i.p.wide=i.s.p.wide∧i_2.i.p.rule=i.s.p.rule∧i_2.i.p.top=i.s.p.top∧i_2.i.p.least=i.s.p.least∧i_2.i.p.part=i.s.p.part∧iE i_2.i.p.settle=iE i_1.p.settle∧List.map zR i_2.i.tops=List.map zR i_1.tops∧i_2.i.inst=i.inst∧zB i_2.s=zB i.sd∧((i_2.i.p.code.length≤1099511627776∧i_2.i.p.months.length≤1099511627776∧i_2.i.p.settle.length≤1099511627776)∧i_2.i.tops.length≤1000000∧∀(t:Top),t∈i_2.i.tops→((-9223372036854775808)≤t.p1∧t.p1≤9223372036854775807)∧(-9223372036854775808)≤t.p2∧t.p2≤9223372036854775807)∧∀(o:Unit),True→∃(i_3:BsI),List.map zG i_3.l=List.map zG (kE i_2.i (zB i_2.s))∧i_3.s=zB i.sd∧((i_3.s=1∨i_3.s=2)∧i_3.l.length≤1000000)∧∀(o:Unit),True→(0≤i.inst∧i.inst<(↑i_1.books.length:Int))∧i.inst.toNat<i_1.books.length∧∃(x:Book),i_1.books[i.inst.toNat]?=some x∧∃(i_4:BkS),zB i_4.side=zB i.sd∧yA i_4.b=yA x∧(∀(q:qG),q∈i_4.b.a.queues→(-9223372036854775808)≤q.count∧q.count≤9223372036854775807)∧∀(o:Unit),True→∃(x:Book),yA i_4.b=yA x∧i.inst.toNat=i.inst.toNat∧i.inst.toNat<i_1.books.length∧cnd (i_4.b.best (i_4.b.side i_4.side)).snd (cnd (zV i_3.l i_3.s).snd (∃(i_5:I3'),i_5.side=zB i.sd∧i_5.x=(zV i_3.l i_3.s).fst.price∧i_5.y=(i_4.b.best (i_4.b.side i_4.side)).fst.price∧True∧∀(o:Unit),True→cnd (!btr i_5.side i_5.x i_5.y) (∃(o:Unit),(zM i.p i.B i.inst (zB i.sd)).fst.price=(i_4.b.best (i_4.b.side i_4.side)).fst.price∧(zM i.p i.B i.inst (zB i.sd)).fst.qty=(i_4.b.best (i_4.b.side i_4.side)).fst.qty∧(zM i.p i.B i.inst (zB i.sd)).fst.a.inst=0∧(zM i.p i.B i.inst (zB i.sd)).fst.a.side=0∧(zM i.p i.B i.inst (zB i.sd)).fst.b.inst=0∧(zM i.p i.B i.inst (zB i.sd)).fst.b.side=0∧(zM i.p i.B i.inst (zB i.sd)).snd.fst=false∧(zM i.p i.B i.inst (zB i.sd)).snd.snd=true∧sb i.s.p.code=sb i_1.p.code∧i.s.p.tick=i_1.p.tick∧i.s.p.low=i_1.p.low∧i.s.p.high=i_1.p.high∧i.s.p.wide=i_1.p.wide∧i.s.p.rule=i_1.p.rule∧i.s.p.top=i_1.p.top∧i.s.p.least=i_1.p.least∧i.s.p.part=i_1.p.part∧AObj.objs 64 Book 6 zN i.s.books none=AObj.objs 64 Book 6 zN (i_1.books.set i.inst.toNat x) none∧yE i.s.wh=yE i_1.wh∧AObj.fro 1 (iE i.s.p.months)=AObj.fro 1 (iE i_1.p.months)∧AObj.fro 1 (iE i.s.p.settle)=AObj.fro 1 (iE i_1.p.settle)∧True) (∃(o:Unit),(zM i.p i.B i.inst (zB i.sd)).fst.price=(zV i_3.l i_3.s).fst.price∧(zM i.p i.B i.inst (zB i.sd)).fst.qty=(zV i_3.l i_3.s).fst.qty∧(zM i.p i.B i.inst (zB i.sd)).fst.a.inst=(zV i_3.l i_3.s).fst.a.inst∧(zM i.p i.B i.inst (zB i.sd)).fst.a.side=(zV i_3.l i_3.s).fst.a.side∧(zM i.p i.B i.inst (zB i.sd)).fst.b.inst=(zV i_3.l i_3.s).fst.b.inst∧(zM i.p i.B i.inst (zB i.sd)).fst.b.side=(zV i_3.l i_3.s).fst.b.side∧(zM i.p i.B i.inst (zB i.sd)).snd.fst=(zV i_3.l i_3.s).snd∧(zM i.p i.B i.inst (zB i.sd)).snd.snd=(zV i_3.l i_3.s).snd∧sb i.s.p.code=sb i_1.p.code∧i.s.p.tick=i_1.p.tick∧i.s.p.low=i_1.p.low∧i.s.p.high=i_1.p.high∧i.s.p.wide=i_1.p.wide∧i.s.p.rule=i_1.p.rule∧i.s.p.top=i_1.p.top∧i.s.p.least=i_1.p.least∧i.s.p.part=i_1.p.part∧AObj.objs 64 Book 6 zN i.s.books none=AObj.objs 64 Book 6 zN (i_1.books.set i.inst.toNat x) none∧yE i.s.wh=yE i_1.wh∧AObj.fro 1 (iE i.s.p.months)=AObj.fro 1 (iE i_1.p.months)∧AObj.fro 1 (iE i.s.p.settle)=AObj.fro 1 (iE i_1.p.settle)∧True)) (∃(o:Unit),(zM i.p i.B i.inst (zB i.sd)).fst.price=(i_4.b.best (i_4.b.side i_4.side)).fst.price∧(zM i.p i.B i.inst (zB i.sd)).fst.qty=(i_4.b.best (i_4.b.side i_4.side)).fst.qty∧(zM i.p i.B i.inst (zB i.sd)).fst.a.inst=0∧(zM i.p i.B i.inst (zB i.sd)).fst.a.side=0∧(zM i.p i.B i.inst (zB i.sd)).fst.b.inst=0∧(zM i.p i.B i.inst (zB i.sd)).fst.b.side=0∧(zM i.p i.B i.inst (zB i.sd)).snd.fst=false∧(zM i.p i.B i.inst (zB i.sd)).snd.snd=true∧sb i.s.p.code=sb i_1.p.code∧i.s.p.tick=i_1.p.tick∧i.s.p.low=i_1.p.low∧i.s.p.high=i_1.p.high∧i.s.p.wide=i_1.p.wide∧i.s.p.rule=i_1.p.rule∧i.s.p.top=i_1.p.top∧i.s.p.least=i_1.p.least∧i.s.p.part=i_1.p.part∧AObj.objs 64 Book 6 zN i.s.books none=AObj.objs 64 Book 6 zN (i_1.books.set i.inst.toNat x) none∧yE i.s.wh=yE i_1.wh∧AObj.fro 1 (iE i.s.p.months)=AObj.fro 1 (iE i_1.p.months)∧AObj.fro 1 (iE i.s.p.settle)=AObj.fro 1 (iE i_1.p.settle)∧True)) (∃(o:Unit),(zM i.p i.B i.inst (zB i.sd)).fst.price=(zV i_3.l i_3.s).fst.price∧(zM i.p i.B i.inst (zB i.sd)).fst.qty=(zV i_3.l i_3.s).fst.qty∧(zM i.p i.B i.inst (zB i.sd)).fst.a.inst=(zV i_3.l i_3.s).fst.a.inst∧(zM i.p i.B i.inst (zB i.sd)).fst.a.side=(zV i_3.l i_3.s).fst.a.side∧(zM i.p i.B i.inst (zB i.sd)).fst.b.inst=(zV i_3.l i_3.s).fst.b.inst∧(zM i.p i.B i.inst (zB i.sd)).fst.b.side=(zV i_3.l i_3.s).fst.b.side∧(zM i.p i.B i.inst (zB i.sd)).snd.fst=(zV i_3.l i_3.s).snd∧(zM i.p i.B i.inst (zB i.sd)).snd.snd=(zV i_3.l i_3.s).snd∧sb i.s.p.code=sb i_1.p.code∧i.s.p.tick=i_1.p.tick∧i.s.p.low=i_1.p.low∧i.s.p.high=i_1.p.high∧i.s.p.wide=i_1.p.wide∧i.s.p.rule=i_1.p.rule∧i.s.p.top=i_1.p.top∧i.s.p.least=i_1.p.least∧i.s.p.part=i_1.p.part∧AObj.objs 64 Book 6 zN i.s.books none=AObj.objs 64 Book 6 zN (i_1.books.set i.inst.toNat x) none∧yE i.s.wh=yE i_1.wh∧AObj.fro 1 (iE i.s.p.months)=AObj.fro 1 (iE i_1.p.months)∧AObj.fro 1 (iE i.s.p.settle)=AObj.fro 1 (iE i_1.p.settle)∧True)
@[reducible] def zDi (i:NxI) (i_1:MSt) (o:Unit) (i_2:pA):Prop:=∃(i_3:BsI),List.map zG i_3.l=List.map zG (kE i_2.i (zB i_2.s))∧i_3.s=zB i.sd∧((i_3.s=1∨i_3.s=2)∧i_3.l.length≤1000000)∧∀(o:Unit),True→(0≤i.inst∧i.inst<(↑i_1.books.length:Int))∧i.inst.toNat<i_1.books.length∧∃(x:Book),i_1.books[i.inst.toNat]?=some x∧∃(i_4:BkS),zB i_4.side=zB i.sd∧yA i_4.b=yA x∧(∀(q:qG),q∈i_4.b.a.queues→(-9223372036854775808)≤q.count∧q.count≤9223372036854775807)∧∀(o:Unit),True→∃(x:Book),yA i_4.b=yA x∧i.inst.toNat=i.inst.toNat∧i.inst.toNat<i_1.books.length∧cnd (i_4.b.best (i_4.b.side i_4.side)).snd (cnd (zV i_3.l i_3.s).snd (∃(i_5:I3'),i_5.side=zB i.sd∧i_5.x=(zV i_3.l i_3.s).fst.price∧i_5.y=(i_4.b.best (i_4.b.side i_4.side)).fst.price∧True∧∀(o:Unit),True→cnd (!btr i_5.side i_5.x i_5.y) (∃(o:Unit),(zM i.p i.B i.inst (zB i.sd)).fst.price=(i_4.b.best (i_4.b.side i_4.side)).fst.price∧(zM i.p i.B i.inst (zB i.sd)).fst.qty=(i_4.b.best (i_4.b.side i_4.side)).fst.qty∧(zM i.p i.B i.inst (zB i.sd)).fst.a.inst=0∧(zM i.p i.B i.inst (zB i.sd)).fst.a.side=0∧(zM i.p i.B i.inst (zB i.sd)).fst.b.inst=0∧(zM i.p i.B i.inst (zB i.sd)).fst.b.side=0∧(zM i.p i.B i.inst (zB i.sd)).snd.fst=false∧(zM i.p i.B i.inst (zB i.sd)).snd.snd=true∧sb i.s.p.code=sb i_1.p.code∧i.s.p.tick=i_1.p.tick∧i.s.p.low=i_1.p.low∧i.s.p.high=i_1.p.high∧i.s.p.wide=i_1.p.wide∧i.s.p.rule=i_1.p.rule∧i.s.p.top=i_1.p.top∧i.s.p.least=i_1.p.least∧i.s.p.part=i_1.p.part∧AObj.objs 64 Book 6 zN i.s.books none=AObj.objs 64 Book 6 zN (i_1.books.set i.inst.toNat x) none∧yE i.s.wh=yE i_1.wh∧AObj.fro 1 (iE i.s.p.months)=AObj.fro 1 (iE i_1.p.months)∧AObj.fro 1 (iE i.s.p.settle)=AObj.fro 1 (iE i_1.p.settle)∧True) (∃(o:Unit),(zM i.p i.B i.inst (zB i.sd)).fst.price=(zV i_3.l i_3.s).fst.price∧(zM i.p i.B i.inst (zB i.sd)).fst.qty=(zV i_3.l i_3.s).fst.qty∧(zM i.p i.B i.inst (zB i.sd)).fst.a.inst=(zV i_3.l i_3.s).fst.a.inst∧(zM i.p i.B i.inst (zB i.sd)).fst.a.side=(zV i_3.l i_3.s).fst.a.side∧(zM i.p i.B i.inst (zB i.sd)).fst.b.inst=(zV i_3.l i_3.s).fst.b.inst∧(zM i.p i.B i.inst (zB i.sd)).fst.b.side=(zV i_3.l i_3.s).fst.b.side∧(zM i.p i.B i.inst (zB i.sd)).snd.fst=(zV i_3.l i_3.s).snd∧(zM i.p i.B i.inst (zB i.sd)).snd.snd=(zV i_3.l i_3.s).snd∧sb i.s.p.code=sb i_1.p.code∧i.s.p.tick=i_1.p.tick∧i.s.p.low=i_1.p.low∧i.s.p.high=i_1.p.high∧i.s.p.wide=i_1.p.wide∧i.s.p.rule=i_1.p.rule∧i.s.p.top=i_1.p.top∧i.s.p.least=i_1.p.least∧i.s.p.part=i_1.p.part∧AObj.objs 64 Book 6 zN i.s.books none=AObj.objs 64 Book 6 zN (i_1.books.set i.inst.toNat x) none∧yE i.s.wh=yE i_1.wh∧AObj.fro 1 (iE i.s.p.months)=AObj.fro 1 (iE i_1.p.months)∧AObj.fro 1 (iE i.s.p.settle)=AObj.fro 1 (iE i_1.p.settle)∧True)) (∃(o:Unit),(zM i.p i.B i.inst (zB i.sd)).fst.price=(i_4.b.best (i_4.b.side i_4.side)).fst.price∧(zM i.p i.B i.inst (zB i.sd)).fst.qty=(i_4.b.best (i_4.b.side i_4.side)).fst.qty∧(zM i.p i.B i.inst (zB i.sd)).fst.a.inst=0∧(zM i.p i.B i.inst (zB i.sd)).fst.a.side=0∧(zM i.p i.B i.inst (zB i.sd)).fst.b.inst=0∧(zM i.p i.B i.inst (zB i.sd)).fst.b.side=0∧(zM i.p i.B i.inst (zB i.sd)).snd.fst=false∧(zM i.p i.B i.inst (zB i.sd)).snd.snd=true∧sb i.s.p.code=sb i_1.p.code∧i.s.p.tick=i_1.p.tick∧i.s.p.low=i_1.p.low∧i.s.p.high=i_1.p.high∧i.s.p.wide=i_1.p.wide∧i.s.p.rule=i_1.p.rule∧i.s.p.top=i_1.p.top∧i.s.p.least=i_1.p.least∧i.s.p.part=i_1.p.part∧AObj.objs 64 Book 6 zN i.s.books none=AObj.objs 64 Book 6 zN (i_1.books.set i.inst.toNat x) none∧yE i.s.wh=yE i_1.wh∧AObj.fro 1 (iE i.s.p.months)=AObj.fro 1 (iE i_1.p.months)∧AObj.fro 1 (iE i.s.p.settle)=AObj.fro 1 (iE i_1.p.settle)∧True)) (∃(o:Unit),(zM i.p i.B i.inst (zB i.sd)).fst.price=(zV i_3.l i_3.s).fst.price∧(zM i.p i.B i.inst (zB i.sd)).fst.qty=(zV i_3.l i_3.s).fst.qty∧(zM i.p i.B i.inst (zB i.sd)).fst.a.inst=(zV i_3.l i_3.s).fst.a.inst∧(zM i.p i.B i.inst (zB i.sd)).fst.a.side=(zV i_3.l i_3.s).fst.a.side∧(zM i.p i.B i.inst (zB i.sd)).fst.b.inst=(zV i_3.l i_3.s).fst.b.inst∧(zM i.p i.B i.inst (zB i.sd)).fst.b.side=(zV i_3.l i_3.s).fst.b.side∧(zM i.p i.B i.inst (zB i.sd)).snd.fst=(zV i_3.l i_3.s).snd∧(zM i.p i.B i.inst (zB i.sd)).snd.snd=(zV i_3.l i_3.s).snd∧sb i.s.p.code=sb i_1.p.code∧i.s.p.tick=i_1.p.tick∧i.s.p.low=i_1.p.low∧i.s.p.high=i_1.p.high∧i.s.p.wide=i_1.p.wide∧i.s.p.rule=i_1.p.rule∧i.s.p.top=i_1.p.top∧i.s.p.least=i_1.p.least∧i.s.p.part=i_1.p.part∧AObj.objs 64 Book 6 zN i.s.books none=AObj.objs 64 Book 6 zN (i_1.books.set i.inst.toNat x) none∧yE i.s.wh=yE i_1.wh∧AObj.fro 1 (iE i.s.p.months)=AObj.fro 1 (iE i_1.p.months)∧AObj.fro 1 (iE i.s.p.settle)=AObj.fro 1 (iE i_1.p.settle)∧True)
def zTc (i:NxI):Prop:=
 (∃(i_1:MSt),sb i_1.p.code=sb i.s.p.code∧i_1.p.tick=i.s.p.tick∧i_1.p.low=i.s.p.low∧i_1.p.high=i.s.p.high∧i_1.p.wide=i.s.p.wide∧i_1.p.rule=i.s.p.rule∧i_1.p.top=i.s.p.top∧i_1.p.least=i.s.p.least∧i_1.p.part=i.s.p.part∧AObj.objs 64 Book 6 zN i_1.books none=AObj.objs 64 Book 6 zN i.s.books none∧yE i_1.wh=yE i.s.wh∧AObj.fro 1 (iE i_1.p.months)=AObj.fro 1 (iE i.s.p.months)∧AObj.fro 1 (iE i_1.p.settle)=AObj.fro 1 (iE i.s.p.settle)∧(i_1.books.length≤1000000∧∀(b:Book),b∈i_1.books→∀(q:qG),q∈b.a.queues→(-9223372036854775808)≤q.count∧q.count≤9223372036854775807)∧∀(o:Unit),True→(sb i_1.p.code=sb i.s.p.code∧True∧i_1.p.tick=i.s.p.tick∧i_1.p.low=i.s.p.low∧i_1.p.high=i.s.p.high∧i_1.p.wide=i.s.p.wide∧i_1.p.rule=i.s.p.rule∧i_1.p.top=i.s.p.top∧i_1.p.least=i.s.p.least∧i_1.p.part=i.s.p.part∧True∧True)∧(∃(i_2:pA),sb i_2.i.p.code=sb i.s.p.code∧iE i_2.i.p.months=iE i_1.p.months∧i_2.i.p.tick=i.s.p.tick∧i_2.i.p.low=i.s.p.low∧i_2.i.p.high=i.s.p.high∧i_2.i.p.wide=i.s.p.wide∧i_2.i.p.rule=i.s.p.rule∧i_2.i.p.top=i.s.p.top∧i_2.i.p.least=i.s.p.least∧i_2.i.p.part=i.s.p.part∧iE i_2.i.p.settle=iE i_1.p.settle∧List.map zR i_2.i.tops=List.map zR i_1.tops∧i_2.i.inst=i.inst∧zB i_2.s=zB i.sd∧((i_2.i.p.code.length≤1099511627776∧i_2.i.p.months.length≤1099511627776∧i_2.i.p.settle.length≤1099511627776)∧i_2.i.tops.length≤1000000∧∀(t:Top),t∈i_2.i.tops→((-9223372036854775808)≤t.p1∧t.p1≤9223372036854775807)∧(-9223372036854775808)≤t.p2∧t.p2≤9223372036854775807)∧∀(o:Unit),True→(zDi i i_1 o i_2)∧zDi i i_1 o i_2)∧(sb i_1.p.code=sb i.s.p.code∧True∧i_1.p.tick=i.s.p.tick∧i_1.p.low=i.s.p.low∧i_1.p.high=i.s.p.high∧i_1.p.wide=i.s.p.wide∧i_1.p.rule=i.s.p.rule∧i_1.p.top=i.s.p.top∧i_1.p.least=i.s.p.least∧i_1.p.part=i.s.p.part∧True∧True)∧zBi i i_1 o)∧(sb i.s.p.code=sb i.s.p.code∧True∧i.s.p.tick=i.s.p.tick∧i.s.p.low=i.s.p.low∧i.s.p.high=i.s.p.high∧i.s.p.wide=i.s.p.wide∧i.s.p.rule=i.s.p.rule∧i.s.p.top=i.s.p.top∧i.s.p.least=i.s.p.least∧i.s.p.part=i.s.p.part∧True∧True)∧∃(i_1:MSt),sb i_1.p.code=sb i.s.p.code∧i_1.p.tick=i.s.p.tick∧i_1.p.low=i.s.p.low∧i_1.p.high=i.s.p.high∧i_1.p.wide=i.s.p.wide∧i_1.p.rule=i.s.p.rule∧i_1.p.top=i.s.p.top∧i_1.p.least=i.s.p.least∧i_1.p.part=i.s.p.part∧AObj.objs 64 Book 6 zN i_1.books none=AObj.objs 64 Book 6 zN i.s.books none∧yE i_1.wh=yE i.s.wh∧AObj.fro 1 (iE i_1.p.months)=AObj.fro 1 (iE i.s.p.months)∧AObj.fro 1 (iE i_1.p.settle)=AObj.fro 1 (iE i.s.p.settle)∧(i_1.books.length≤1000000∧∀(b:Book),b∈i_1.books→∀(q:qG),q∈b.a.queues→(-9223372036854775808)≤q.count∧q.count≤9223372036854775807)∧∀(o:Unit),True→(sb i_1.p.code=sb i.s.p.code∧True∧i_1.p.tick=i.s.p.tick∧i_1.p.low=i.s.p.low∧i_1.p.high=i.s.p.high∧i_1.p.wide=i.s.p.wide∧i_1.p.rule=i.s.p.rule∧i_1.p.top=i.s.p.top∧i_1.p.least=i.s.p.least∧i_1.p.part=i.s.p.part∧True∧True)∧zBi i i_1 o
theorem z6v (hG:GOk Tryz.prog ([(44,topsOC),(65,quotesC),(64,bestQC),(66,bestC),(60,bbetterC)])) (h:∀(i:NxI),nextC.cnd i→zTc i):nextC.ok Tryz.prog 31:=okw mixed hG 0 (fun _=>[]) (fun _=>[]) [0] Tryz.func31 h
@[reducible] def zEz (i_1:BkS) (b:Bool):AObj:=Sx.AObj.cells [V.d (D.v (.int .i64 (i_1.b.best (i_1.b.side i_1.side)).fst.price)),V.d (D.v (.int .i64 (i_1.b.best (i_1.b.side i_1.side)).fst.qty)),V.d (D.v (.int .i64 (i_1.b.best (i_1.b.side i_1.side)).fst.count))] (122:Nat)
@[reducible] def bK (i:TrI):AObj:=Sx.AObj.cells [V.d (D.v (.int .i64 i.inst)),V.d (D.v (.int .i64 (zB i.sd)))] (75:Nat)
@[reducible] def zHh (i_1:BkS):AObj:=Sx.AObj.cells [V.d (D.v (.int .i64 (i_1.b.best (i_1.b.side i_1.side)).fst.price)),V.d (D.v (.int .i64 (i_1.b.best (i_1.b.side i_1.side)).fst.qty)),V.d (D.v (.int .i64 (i_1.b.best (i_1.b.side i_1.side)).fst.count))] (122:Nat)
def zJe (i:TrI):Prop:=
 (0≤i.inst∧i.inst<(↑i.s.books.length:Int))∧i.inst.toNat<i.s.books.length∧∃(x:Book),i.s.books[i.inst.toNat]?=some x∧∃(i_1:BkS),zB i_1.side=zB i.sd∧yA i_1.b=yA x∧(∀(q:qG),q∈i_1.b.a.queues→(-9223372036854775808)≤q.count∧q.count≤9223372036854775807)∧∀(o:Unit),True→∃(x:Book),yA i_1.b=yA x∧i.inst.toNat=i.inst.toNat∧i.inst.toNat<i.s.books.length∧∃(x_1:Book),(i.s.books.set i.inst.toNat x)[i.inst.toNat]?=some x_1∧∃(i_2:AtI),zB i_2.s=zB i.sd∧i_2.price=(i_1.b.best (i_1.b.side i_1.side)).fst.price∧yA i_2.b=yA x_1∧i_2.b.Rep i_2.L∧∀(o:Unit),True→∃(x_2:Book),yA i_2.b=yA x_2∧i.inst.toNat=i.inst.toNat∧i.inst.toNat<(i.s.books.set i.inst.toNat x).length∧∃(i_3:AlI),sb i_3.p.code=sb i.s.p.code∧iE i_3.p.months=iE i.s.p.months∧i_3.p.tick=i.s.p.tick∧i_3.p.low=i.s.p.low∧i_3.p.high=i.s.p.high∧i_3.p.wide=i.s.p.wide∧i_3.p.rule=i.s.p.rule∧i_3.p.top=i.s.p.top∧i_3.p.least=i.s.p.least∧i_3.p.part=i.s.p.part∧iE i_3.p.settle=iE i.s.p.settle∧List.map qP i_3.l=List.map qP (atL i_2.L (zB i_2.s) i_2.price)∧i_3.q=i.q∧(i_3.l.length≤1000∧((-9223372036854775808)≤i_3.q∧i_3.q≤9223372036854775807)∧((-9223372036854775808)≤i_3.p.least∧i_3.p.least≤9223372036854775807)∧((-9223372036854775808)≤i_3.p.top∧i_3.p.top≤9223372036854775807)∧(-9223372036854775808)≤i_3.p.part∧i_3.p.part≤9223372036854775807)∧∀(o:Unit),True→∃(i0:Nat×MSt),(↑i0.fst:Int)=0∧sb i0.snd.p.code=sb i.s.p.code∧i0.snd.p.tick=i.s.p.tick∧i0.snd.p.low=i.s.p.low∧i0.snd.p.high=i.s.p.high∧i0.snd.p.wide=i.s.p.wide∧i0.snd.p.rule=i.s.p.rule∧i0.snd.p.top=i.s.p.top∧i0.snd.p.least=i.s.p.least∧i0.snd.p.part=i.s.p.part∧AObj.objs 64 Book 6 zN i0.snd.books none=AObj.objs 64 Book 6 zN ((i.s.books.set i.inst.toNat x).set i.inst.toNat x_2) none∧yE i0.snd.wh=yE i.s.wh∧AObj.fro 1 (iE i0.snd.p.months)=AObj.fro 1 (iE i.s.p.months)∧AObj.fro 1 (iE i0.snd.p.settle)=AObj.fro 1 (iE i.s.p.settle)∧List.map xY (i.fs i0.fst)=[]∧∃(I:Nat×MSt→Prop),∃(μ:Nat×MSt→Nat),I i0∧∀(i_4:Nat×MSt),I i_4→cnd (decide ((↑i_4.fst:Int)<(↑(iE (xD i_3)).length:Int))) ((0≤(↑i_4.fst:Int)∧(↑i_4.fst:Int)<(↑(iE (xD i_3)).length:Int))∧∃(n:Int),zI (iE (xD i_3)) (↑i_4.fst:Int).toNat 0 1=some [D.v (.int .i64 n)]∧cnd (decide (n>0)) ((0≤(↑i_4.fst:Int)∧(↑i_4.fst:Int)<(↑(List.map qP (atL i_2.L (zB i_2.s) i_2.price)).length:Int))∧∃(n_1:Int),∃(n_2:Int),∃(n_3:Int),∃(n_4:Int),∃(b:Bool),zI (List.map qP (atL i_2.L (zB i_2.s) i_2.price)) (↑i_4.fst:Int).toNat 0 5=some [D.v (.int .i64 n_1),D.v (.int .i64 n_2),D.v (.int .i64 n_3),D.v (.int .i64 n_4),D.v (.bool b)]∧∃(i_5:StI),i_5.id=n_1∧i_5.q=n∧zJ i_5.s=zJ i_4.snd∧(i_5.s.Rep i_5.p i_5.B∧i_5.B.length≤1000)∧∀(o:MSt),o.Rep i_5.p (xN i_5.B i_5.id i_5.q).fst→((List.map xY (i.fs i_4.fst)).length+1)*(48:Nat)≤(70368744177664:Nat)∧∃(i':Nat×MSt),(↑i'.fst:Int)=IntKind.i64.wrap ((↑i_4.fst:Int)+1)∧zJ i'.snd=zJ o∧List.map xY (i.fs i'.fst)=List.map xY (i.fs i_4.fst)++[[D.v (.int .i64 n_1),D.v (.int .i64 i.inst),D.v (.int .i64 (zB i.sd)),D.v (.int .i64 n_3),D.v (.int .i64 n),D.v (.int .i64 (IntKind.i64.wrap (n_4-n)))]]∧I i'∧μ i'<μ i_4∧AObj.own 2 1 (iE (xD i_3))=AObj.own 2 1 (iE (xD i_3))∧AObj.fro 5 (List.map qP (atL i_2.L (zB i_2.s) i_2.price))=AObj.fro 5 (List.map qP (atL i_2.L (zB i_2.s) i_2.price))∧zEz i_1 b=zEz i_1 b∧bK i=bK i∧AObj.fro 1 (iE i.s.p.months)=AObj.fro 1 (iE i.s.p.months)∧AObj.fro 1 (iE i.s.p.settle)=AObj.fro 1 (iE i.s.p.settle)) (∃(i':Nat×MSt),(↑i'.fst:Int)=IntKind.i64.wrap ((↑i_4.fst:Int)+1)∧zJ i'.snd=zJ i_4.snd∧List.map xY (i.fs i'.fst)=List.map xY (i.fs i_4.fst)∧I i'∧μ i'<μ i_4∧AObj.own 2 1 (iE (xD i_3))=AObj.own 2 1 (iE (xD i_3))∧AObj.fro 5 (List.map qP (atL i_2.L (zB i_2.s) i_2.price))=AObj.fro 5 (List.map qP (atL i_2.L (zB i_2.s) i_2.price))∧zHh i_1=zHh i_1∧bK i=bK i∧AObj.fro 1 (iE i.s.p.months)=AObj.fro 1 (iE i.s.p.months)∧AObj.fro 1 (iE i.s.p.settle)=AObj.fro 1 (iE i.s.p.settle))) (∃(o:MSt),zJ o=zJ i_4.snd∧List.map xY (yG i.p i.B i.inst (zB i.sd) i.q)=List.map xY (i.fs i_4.fst)∧o.Rep i.p (yS i.B (yG i.p i.B i.inst (zB i.sd) i.q)))
theorem zYb (hG:GOk Tryz.prog ([(66,bestC),(67,atC),(68,allocC),(39,stakeC)])) (h:∀(i:TrI),tradeC.cnd i→zJe i):tradeC.ok Tryz.prog 34:=okw mixed hG 0 (fun _=>[]) (fun i=>z6k i) [0] Tryz.func34 h
open Go Cv Go.Proofs
theorem zUe {p:Prd} (hc:p.check=0) {k v:Int} (h:p.price k v=0): -2000000≤v∧v≤2000000:=by
 have ok:=qB hc
 have:=ok.b1
 have:=ok.b2
 have:=ok.b3
 have:=ok.b4
 have:=ok.b5
 rw[Prd.price]at h
 by_cases c1:p.count=0
 ·rw[if_pos c1]at h;cases h
 by_cases c2:k<0∨(p.count:Int)≤k
 ·rw[if_neg c1,if_pos c2]at h;cases h
 cases c3:xO p.tick v with
 |true=>rw[if_neg c1,if_neg c2,if_pos c3]at h;cases h
 |false=>
  rw[if_neg c1,if_neg c2,if_neg (by rw[c3];decide)]at h
  by_cases c4:(p.months.length:Int)≤k
  ·simp only[if_pos c4]at h
   by_cases c5:v< -p.wide∨p.wide<v
   ·rw[if_pos c5]at h;cases h
   ·omega
  ·simp only[if_neg c4]at h
   by_cases c5:v<p.low∨p.high<v
   ·rw[if_pos c5]at h;cases h
   ·omega
theorem pD {t:Int} (k:Int):xO t (t*k)=false:=by
 simp[xO,Int.mul_tmod_right]
theorem zEq (x:Prd):(wW x).small:=by
 have:=zWq x
 refine⟨by simp[wW],?_,?_⟩
 ·show(qM _).length≤_
  rw[fC];omega
 ·show(xV _ _).length≤_
  rw[v9];omega
theorem zHf (x:Prd):(wW x).check=0:=by
 have ht:=zGl x
 have hn:=zWq x
 have hw:=yY (n:=x.wide) (lo:=0) (hi:=60) (by omega)
 have hr:=yY (n:=x.rule) (lo:=0) (hi:=2) (by omega)
 have ho:=yY (n:=x.top) (lo:=0) (hi:=9) (by omega)
 have hl:=yY (n:=x.least) (lo:=0) (hi:=4) (by omega)
 have hp:=yY (n:=x.part) (lo:=0) (hi:=100) (by omega)
 have h1:qU (wW x).code=true:=by show qU [206,169]=true;decide+kernel
 obtain⟨k,hk,hk1⟩:∃k:Nat,(kN x).toNat=k∧(2≤k∧k≤5):=⟨_,rfl,by omega⟩
 have h2:yU (wW x).months=true:=by
  show yU (qM (kN x).toNat)=true
  rw[hk]
  have:k=2∨k=3∨k=4∨k=5:=by omega
  rcases this with rfl|rfl|rfl|rfl<;>decide
 have h3:xK (wW x)=true:=by
  have a:xO (z9 x) (-20*z9 x)=false:=by rw[Int.mul_comm];exact pD _
  have b:xO (z9 x) (100*z9 x)=false:=by rw[Int.mul_comm];exact pD _
  have c:(xV (z9 x) (kN x).toNat).any (xO (z9 x))=false:=by
   rw[List.any_eq_false]
   intro y hy
   obtain⟨j,_,rfl⟩:=List.mem_map.1 hy
   rw[pD];decide
  simp only[xK,wW,a,b,c,pD,Bool.not_false,Bool.and_true,Bool.and_eq_true]
  exact⟨decide_eq_true (by omega),decide_eq_true (by omega)⟩
 have mw:=zBm (a:=z9 x) (b:=5+zD x.wide 0 60) (m:=z9 x) (n:=65) (by omega) (by omega)
 have h4:xL (wW x)=false:=by
  simp only[xL,wW,Bool.or_eq_false_iff]
  exact⟨⟨⟨⟨decide_eq_false (by omega),decide_eq_false (by omega)⟩,decide_eq_false (by omega)⟩,decide_eq_false (by omega)⟩,decide_eq_false (by omega)⟩
 have h5:yW (wW x)=false:=by
  have e:(xV (z9 x) (kN x).toNat).length=(qM (kN x).toNat).length:=by rw[v9,fC]
  have ne:xV (z9 x) (kN x).toNat≠[]:=by
   intro hc
   have:=v9 (z9 x) (kN x).toNat
   rw[hc]at this
   simp at this
   omega
  have bd:∀y∈xV (z9 x) (kN x).toNat,0≤y∧y≤z9 x*15:=by
   intro y hy
   obtain⟨j,hj,rfl⟩:=List.mem_map.1 hy
   have:=List.mem_range.1 hj
   exact zBm (by omega) (by omega)
  have m1:=bd _ (zEs ne)
  have m2:=bd _ (zEx ne)
  simp only[yW,wW,e,ne_eq,not_true_eq_false,decide_false,Bool.false_or,Bool.or_eq_false_iff]
  exact⟨decide_eq_false (by omega),decide_eq_false (by omega)⟩
 have h6:xU (wW x)=false:=by
  simp only[xU,wW,Bool.or_eq_false_iff]
  exact⟨decide_eq_false (by omega),decide_eq_false (by omega)⟩
 have h7:xE (wW x)=false:=by
  simp only[xE,wW,Bool.or_eq_false_iff]
  exact⟨⟨⟨⟨⟨decide_eq_false (by omega),decide_eq_false (by omega)⟩,decide_eq_false (by omega)⟩,decide_eq_false (by omega)⟩,decide_eq_false (by omega)⟩,decide_eq_false (by omega)⟩
 rw[Prd.check,h1,h2,h3,h4,h5,h6,h7]
 rfl
open Go Cv Go.Proofs
structure tU (qs sh:List Int) (q:Int):Prop where
 len:sh.length=qs.length
 bd:∀n,0≤sh.getD n 0∧sh.getD n 0≤qs.getD n 0
 sum:sh.sum=q
theorem tL:∀{l:List Int},(∀x∈l,0≤x)→0≤l.sum
 |[],_=>Int.le_refl 0
 |a::l,h=>by
  have:=tL (l:=l) fun x hx=>h x (List.mem_cons_of_mem _ hx)
  have:=h a List.mem_cons_self
  rw[List.sum_cons];omega
theorem zMt:∀{z:List (Int×Int)},(∀y∈z,0≤y.2∧y.2≤y.1)→(z.map (·.2)).sum≤(z.map (·.1)).sum
 |[],_=>Int.le_refl 0
 |a::l,h=>by
  have:=zMt (z:=l) fun x hx=>h x (List.mem_cons_of_mem _ hx)
  have:=h a List.mem_cons_self
  rw[List.map_cons,List.map_cons,List.sum_cons,List.sum_cons];omega
theorem dB:∀(l:List Int) (q:Int),(∀x∈l,0≤x)→0≤q→q≤l.sum→tU l (x0 l q) q
 |[],q,_,h0,h1=>⟨rfl,fun n=>by simp[x0],by simp at h1;simp[x0];omega⟩
 |n::l,q,h,h0,h1=>by
  have hn:=h n List.mem_cons_self
  rw[List.sum_cons]at h1
  have:=tL fun x hx=>h x (List.mem_cons_of_mem _ hx)
  have ih:=dB l (q-min n q) (fun x hx=>h x (List.mem_cons_of_mem _ hx)) (by omega) (by omega)
  refine⟨by rw[x0,List.length_cons,List.length_cons,ih.len],fun k=> ?_,by rw[x0,List.sum_cons,ih.sum];omega⟩
  cases k with
  |zero=>exact⟨by show 0≤min n q;omega,by show min n q≤n;omega⟩
  |succ k=>exact ih.bd k
theorem cG:∀(z:List (Int×Int)) (q:Int),(∀y∈z,0≤y.2∧y.2≤y.1)→0≤q→q≤(z.map (·.1)).sum-(z.map (·.2)).sum→(qX z q).length=z.length∧(∀n,0≤(qX z q).getD n 0∧(qX z q).getD n 0≤(z.map (·.1)).getD n 0)∧(qX z q).sum=(z.map (·.2)).sum+q
 |[],q,_,h0,h1=>⟨rfl,fun n=>by simp[qX],by simp at h1;simp[qX];omega⟩
 |(n,x)::r,q,h,h0,h1=>by
  have hn:=h (n,x) List.mem_cons_self
  simp only[List.map_cons,List.sum_cons]at h1
  have:=zMt fun y hy=>h y (List.mem_cons_of_mem _ hy)
  have ih:=cG r (q-min (n-x) q) (fun y hy=>h y (List.mem_cons_of_mem _ hy)) (by omega) (by omega)
  refine⟨by rw[qX,List.length_cons,List.length_cons,ih.1],fun k=> ?_,by rw[qX,List.sum_cons,ih.2.2,List.map_cons,List.sum_cons];omega⟩
  cases k with
  |zero=>exact⟨by show 0≤x+min (n-x) q;have:=hn.1;have:=hn.2;dsimp only at*;omega,by show x+min (n-x) q≤n;have:=hn.2;dsimp only at*;omega⟩
  |succ k=>exact ih.2.1 k
theorem zLc {l:List Int} {q:Int} (h1:l.length≤250) (h2:0≤q) (h3:∀x∈l,1≤x∧x≤1000000) (h4:q≤l.sum):yH l q=true:=by
 rw[yH,decide_eq_true h1,decide_eq_true h2,decide_eq_true h4]
 simp only[Bool.true_and,Bool.and_true,List.all_eq_true,Bool.and_eq_true,decide_eq_true_eq]
 exact h3
theorem zBw {i:PlI} (h:yH i.l i.q=true) (hl:1≤i.least):tU i.l (qC i) i.q:=by
 obtain⟨r1,r2,r3,r4⟩:=qD h
 rw[qC,if_pos ⟨h,hl⟩]
 by_cases hne:i.l.length=0
 ·have e:i.l=[]:=List.eq_nil_of_length_eq_zero hne
  have hq:i.q=0:=by rw[e]at r4;simp at r4;omega
  have e0:i.p1=[]:=by rw[PlI.p1,e];rfl
  rw[e0,e,hq]
  exact⟨rfl,fun n=>by simp,rfl⟩
 ·obtain⟨_,_,f1,f2⟩:=aV h (by omega)
  have hpl:=zIe i
  have m1:(i.l.zip i.p0).map (·.1)=i.l:=List.map_fst_zip (by omega)
  have m2:(i.l.zip i.p0).map (·.2)=i.p0:=List.map_snd_zip (by omega)
  have hp:=cG (i.l.zip i.p0) (i.q-i.p0.sum) (fun y hy=>by
   obtain⟨j,hj⟩:=List.mem_iff_getElem?.1 hy
   rw[List.getElem?_zip_eq_some]at hj
   exact f1 j _ _ hj.1 hj.2) (by omega) (by rw[m1,m2];omega)
  rw[m1,m2]at hp
  refine⟨?_,hp.2.1,?_⟩
  ·rw[PlI.p1,hp.1,List.length_zip,hpl,Nat.min_self]
  ·rw[PlI.p1,hp.2.2];omega
theorem zDv:∀{l:List Int} {k:Nat} {x:Int},k<l.length→(l.set k x).sum=l.sum+(x-l.getD k 0)
 |[],k,x,h=>absurd h (by simp)
 |a::l,0,x,_=>by
  show x+l.sum=a+l.sum+(x-a);omega
 |a::l,k+1,x,h=>by
  have:=zDv (l:=l) (k:=k) (x:=x) (by simpa using h)
  show a+(l.set k x).sum=a+l.sum+(x-l.getD k 0)
  omega
theorem eL {l:List Int} {k n:Nat} {x:Int} (h:k<l.length):(l.set k x).getD n 0=if n=k then x else l.getD n 0:=by
 rw[List.getD_eq_getElem?_getD,List.getElem?_set]
 by_cases e:k=n
 ·subst e;rw[if_pos rfl,if_pos h,if_pos rfl];rfl
 ·rw[if_neg e,if_neg (fun e2=>e e2.symm),List.getD_eq_getElem?_getD]
theorem zEn {l:List Int}:∀(z:List (Nat×Int)) (o:List Int),(z.map (·.1)).Nodup→(∀y∈z,y.1<o.length∧0≤y.2∧o.getD y.1 0+y.2≤l.getD y.1 0)→(∀n,0≤o.getD n 0∧o.getD n 0≤l.getD n 0∧l.getD n 0≤1000000)→
 (z.foldl (fun o y=>o.set y.1 (IntKind.i64.wrap (o.getD y.1 0+y.2))) o).length=o.length∧(z.foldl (fun o y=>o.set y.1 (IntKind.i64.wrap (o.getD y.1 0+y.2))) o).sum=o.sum+(z.map (·.2)).sum∧∀n,0≤(z.foldl (fun o y=>o.set y.1 (IntKind.i64.wrap (o.getD y.1 0+y.2))) o).getD n 0∧(z.foldl (fun o y=>o.set y.1 (IntKind.i64.wrap (o.getD y.1 0+y.2))) o).getD n 0≤l.getD n 0
 |[],o,_,_,h=>⟨rfl,by simp,fun n=>⟨(h n).1,(h n).2.1⟩⟩
 |y::z,o,hn,hz,h=>by
  obtain⟨h1,h2,h3⟩:=hz y List.mem_cons_self
  rw[List.map_cons,List.nodup_cons]at hn
  have hw:IntKind.i64.wrap (o.getD y.1 0+y.2)=o.getD y.1 0+y.2:=by
   have:=h y.1
   exact w64 (by omega)
  rw[List.foldl_cons,hw]
  have ih:=zEn (l:=l) z (o.set y.1 (o.getD y.1 0+y.2)) hn.2 (fun x hx=>by
   obtain⟨g1,g2,g3⟩:=hz x (List.mem_cons_of_mem _ hx)
   have hne:x.1≠y.1:=fun e=>hn.1 (e▸List.mem_map_of_mem (f:=(·.1)) hx)
   rw[List.length_set,eL h1,if_neg hne]
   exact⟨g1,g2,g3⟩) (fun n=>by
   rw[eL h1]
   split
   ·rename_i e
    rw[e]
    exact⟨by have:=h y.1;omega,h3,(h y.1).2.2⟩
   ·exact h n)
  refine⟨by rw[ih.1,List.length_set],?_,ih.2.2⟩
  rw[ih.2.1,zDv h1,List.map_cons,List.sum_cons];omega
theorem pY (l:List Int):(List.range l.length).map (fun n=>l.getD n 0)=l:=by
 apply List.ext_getElem?
 intro n
 rw[List.getElem?_map]
 by_cases h:n<l.length
 ·rw[List.getElem?_range h,List.getElem?_eq_getElem h,Option.map_some,List.getD_eq_getElem?_getD,List.getElem?_eq_getElem h];rfl
 ·rw[List.getElem?_eq_none (by simpa using h),List.getElem?_eq_none (by omega)];rfl
theorem zNu {f g:Nat→Int}:∀l:List Nat,(l.map fun n=>f n-g n).sum=(l.map f).sum-(l.map g).sum
 |[]=>rfl
 |a::l=>by rw[List.map_cons,List.map_cons,List.map_cons,List.sum_cons,List.sum_cons,List.sum_cons,zNu l];omega
theorem rS {f:Nat→Int} {p:Nat→Bool}:∀{l:List Nat},(∀n∈l,p n=false→f n=0)→((l.filter p).map f).sum=(l.map f).sum
 |[],_=>rfl
 |a::l,h=>by
  have ih:=rS (l:=l) fun n hn=>h n (List.mem_cons_of_mem _ hn)
  rw[List.map_cons,List.sum_cons]
  by_cases e:p a=true
  ·rw[List.filter_cons_of_pos e,List.map_cons,List.sum_cons,ih]
  ·rw[List.filter_cons_of_neg e,ih,h a List.mem_cons_self (by simpa using e)];omega
theorem fT {i:RsI} (hl:i.l.length≤250) (ho:i.out.length=i.l.length) (hn:∀n,0≤i.out.getD n 0∧i.out.getD n 0≤i.l.getD n 0∧i.l.getD n 0≤1000000) (hq:0≤i.q∧i.q≤i.l.sum-i.out.sum) (hle:1≤i.least):
 tU i.l (uD i) (i.out.sum+i.q):=by
 have hidx:(i.idx i.l.length).length≤250:=Nat.le_trans (List.length_filter_le _ _) (by simpa using hl)
 have hmem:∀n∈i.idx i.l.length,n<i.l.length∧i.out.getD n 0<i.l.getD n 0:=by
  intro n hn
  obtain⟨a,b⟩:=List.mem_filter.1 hn
  exact⟨List.mem_range.1 a,of_decide_eq_true b⟩
 have hls:(i.left i.l.length).sum=i.l.sum-i.out.sum:=by
  rw[RsI.left,RsI.idx,rS,zNu,pY]
  ·rw[← ho,pY]
  ·intro n _ e
   have:=of_decide_eq_false e
   have:=hn n
   omega
 have hr:yH (i.left i.l.length) i.q=true:=by
  refine zLc (by rw[RsI.left,List.length_map];exact hidx) hq.1 (fun x hx=> ?_) (by omega)
  obtain⟨n,hm,rfl⟩:=List.mem_map.1 hx
  have:=hmem n hm
  have:=hn n
  omega
 have hp:=zBw (i:=⟨i.left i.l.length,i.least,i.q⟩) hr hle
 have hpl:i.pl.length=(i.idx i.l.length).length:=by
  have:=hp.len
  rw[RsI.pl,this,RsI.left,List.length_map]
 have hnd:(i.idx i.l.length).Nodup:=List.nodup_range.sublist List.filter_sublist
 have z1:((i.idx i.l.length).zip i.pl).map (·.1)=i.idx i.l.length:=List.map_fst_zip (by omega)
 have z2:((i.idx i.l.length).zip i.pl).map (·.2)=i.pl:=List.map_snd_zip (by omega)
 have hf:=zEn (l:=i.l) ((i.idx i.l.length).zip i.pl) i.out (by rw[z1];exact hnd) (fun y hy=>by
  obtain⟨j,hj⟩:=List.mem_iff_getElem?.1 hy
  rw[List.getElem?_zip_eq_some]at hj
  have hm:=hmem y.1 (List.mem_of_getElem? hj.1)
  have hb:=hp.bd j
  have e1:(qC ⟨i.left i.l.length,i.least,i.q⟩).getD j 0=y.2:=by
   rw[List.getD_eq_getElem?_getD]
   have:(qC ⟨i.left i.l.length,i.least,i.q⟩)[j]? =some y.2:=hj.2
   rw[this];rfl
  have e2:(i.left i.l.length).getD j 0=i.l.getD y.1 0-i.out.getD y.1 0:=by
   rw[List.getD_eq_getElem?_getD,RsI.left,List.getElem?_map,hj.1];rfl
  dsimp only at hb
  rw[e1,e2]at hb
  exact⟨by omega,hb.1,by omega⟩) hn
 have hall:uD i=((i.idx i.l.length).zip i.pl).foldl (fun o y=>o.set y.1 (IntKind.i64.wrap (o.getD y.1 0+y.2))) i.out:=by
  rw[uD,RsI.add,List.take_of_length_le (by rw[List.length_zip];omega)]
 rw[hall]
 refine⟨by rw[hf.1,ho],hf.2.2,?_⟩
 rw[hf.2.1,z2]
 have:=hp.sum
 rw[RsI.pl,this]
theorem zOg {l:List Int} (h:∀x∈l,1≤x∧x≤1000000) (n:Nat):0≤l.getD n 0∧l.getD n 0≤1000000:=by
 by_cases hn:n<l.length
 ·obtain⟨x,hx⟩:=z8 hn
  have:=h x (List.mem_of_getElem? hx)
  rw[zP hx];omega
 ·rw[List.getD_eq_getElem?_getD,List.getElem?_eq_none (by omega)];decide
theorem z4x (n k:Nat):(List.replicate n (0:Int)).getD k 0=0:=by
 rw[List.getD_eq_getElem?_getD,List.getElem?_replicate]
 split<;>rfl
theorem tY (n:Nat):(List.replicate n (0:Int)).sum=0:=by
 induction n with
 |zero=>rfl
 |succ n ih=>rw[List.replicate_succ,List.sum_cons,ih];rfl
theorem z5c {q part:Int} (hq:0≤q) (h0:0≤part) (h1:part≤100):0≤q*part / 100∧q*part / 100≤q:=by
 have h2:0≤q*part:=Int.mul_nonneg hq h0
 have h3:q*part≤q*100:=Int.mul_le_mul_of_nonneg_left h1 hq
 constructor<;>omega
theorem bQ {p:Prd} (hc:p.check=0) {l:List zH} {q:Int} (hr:yH (l.map (·.qty)) q=true):tU (l.map (·.qty)) (xD ⟨p,l,q⟩) q:=by
 have ok:=qB hc
 obtain⟨r1,r2,r3,r4⟩:=qD hr
 have q1:=ok.q1
 have q3:=ok.q3
 have q5:=ok.q5
 have q6:=ok.q6
 have r5:=ok.r1
 have r6:=ok.r2
 have gb:=zOg r3
 have eqs:(AlI.qs ⟨p,l,q⟩)=l.map (·.qty):=rfl
 rw[xD]
 simp only[eqs]
 generalize l.map (·.qty)=qs at*
 by_cases c1:p.rule=1
 ·rw[if_pos c1,jS,if_pos hr]
  exact dB _ _ (fun x hx=>by have:=r3 x hx;omega) r2 r4
 by_cases c2:p.rule=2
 ·rw[if_neg c1,if_pos c2,cX,if_pos ⟨hr,q3,q1⟩]
  rw[PsI.rs]
  dsimp only
  split
  ·rename_i ht
   have hk:(topI l).toNat<(List.replicate qs.length (0:Int)).length:=by simp;omega
   have hf:0≤PsI.first ⟨qs,topI l,p.top,p.least,q⟩∧PsI.first ⟨qs,topI l,p.top,p.least,q⟩≤qs.getD (topI l).toNat 0∧PsI.first ⟨qs,topI l,p.top,p.least,q⟩≤q:=by
    have:=gb (topI l).toNat
    simp only[PsI.first]
    omega
   have hs:((List.replicate qs.length (0:Int)).set (topI l).toNat (PsI.first ⟨qs,topI l,p.top,p.least,q⟩)).sum=PsI.first ⟨qs,topI l,p.top,p.least,q⟩:=by
    rw[zDv hk,tY,z4x];omega
   have:=fT (i:=⟨qs,(List.replicate qs.length 0).set (topI l).toNat (PsI.first ⟨qs,topI l,p.top,p.least,q⟩),p.least,q-PsI.first ⟨qs,topI l,p.top,p.least,q⟩⟩) r1 (by simp) (fun n=>by
    dsimp only
    rw[eL hk,z4x]
    have:=gb n
    split
    ·rename_i e;rw[e];exact⟨hf.1,hf.2.1,(gb _).2⟩
    ·omega) (by dsimp only;rw[hs];omega) q3
   dsimp only at this
   rw[hs]at this
   have e:PsI.first ⟨qs,topI l,p.top,p.least,q⟩+(q-PsI.first ⟨qs,topI l,p.top,p.least,q⟩)=q:=by omega
   rw[e]at this
   exact this
  ·have:=fT (i:=⟨qs,List.replicate qs.length 0,p.least,q⟩) r1 (by simp) (fun n=>by
    dsimp only
    rw[z4x]
    have:=gb n
    omega) (by dsimp only;rw[tY];omega) q3
   dsimp only at this
   rw[tY,Int.zero_add]at this
   exact this
 ·have c3:p.rule=3:=by omega
  rw[if_neg c1,if_neg c2,if_pos c3,cZ,if_pos ⟨hr,q5,q6,q3⟩]
  rw[SpI.rs]
  dsimp only
  obtain⟨d1,d2⟩:=z5c r2 q5 q6
  have hr2:yH qs (q*p.part / 100)=true:=zLc r1 d1 r3 (by omega)
  have hfs:=dB qs (q*p.part / 100) (fun x hx=>by have:=r3 x hx;omega) d1 (by omega)
  have e0:jS qs (q*p.part / 100)=x0 qs (q*p.part / 100):=by rw[jS,if_pos hr2]
  have:=fT (i:=⟨qs,jS qs (q*p.part / 100),p.least,q-q*p.part / 100⟩) r1 (by dsimp only;rw[e0];exact hfs.len) (fun n=>by
   dsimp only
   rw[e0]
   exact⟨(hfs.bd n).1,(hfs.bd n).2,(gb n).2⟩) (by dsimp only;rw[e0,hfs.sum];omega) q3
  dsimp only at this
  rw[e0,hfs.sum]at this
  rw[e0]
  have e:q*p.part / 100+(q-q*p.part / 100)=q:=by omega
  rw[e]at this
  exact this
theorem zIf {p:Prd} {l:List zH} {q:Int} (hr:yH (l.map (·.qty)) q=false):xD ⟨p,l,q⟩=[]:=by
 have eqs:(AlI.qs ⟨p,l,q⟩)=l.map (·.qty):=rfl
 rw[xD]
 simp only[eqs,jS,cX,cZ,hr]
 simp
open Go Cv Go.Proofs
theorem zPb:motherC.ok Tryz.prog 32:=zXl gok0 fun b _=>by
 unfold zOb
 cases b<;>exact⟨(),by decide,trivial⟩
theorem zSq:mgoodC.ok Tryz.prog 33:=zZq gok0 fun i _=>by
 obtain⟨s,p,x⟩:=i
 unfold zTe
 cases s
 ·refine Cv.cnd.mk (fun _=>zT (fun c=>⟨(),?_,trivial⟩) (fun c=>Cv.cnd.mk (fun e=>by simp[zB]at e) (fun _=>⟨(),?_,trivial⟩))) (fun e=>by simp[zB]at e)
  ·exact decide_eq_true c
  ·exact decide_eq_false c
 ·exact Cv.cnd.mk (fun e=>by simp[zB]at e) (fun _=>Cv.cnd.mk (fun _=>⟨(),rfl,trivial⟩) (fun e=>by simp[zB]at e))
theorem zFt {L:List zH} {s:Int}:((bestL L s).2=true∧∃o∈L,o.side=s∧o.price=(bestL L s).1.price)∨(bestL L s=(⟨0,0,0⟩,false)∧∀o∈L,o.side≠s):=by
 rw[bestL]
 cases hl:qY L s with
 |nil=>
  refine .inr ⟨rfl,fun o ho e=> ?_⟩
  rw[qY]at hl
  cases hf:L.filter fun o=>decide (o.side=s)with
  |nil=>
   rw[List.filter_eq_nil_iff]at hf
   have:=hf o ho
   simp[e]at this
  |cons x y=>
   rw[hf,grp]at hl
   split at hl
   ·cases hl
   ·split at hl<;>cases hl
 |cons v vs=>
  refine .inl ⟨rfl,?_⟩
  rw[qY]at hl
  obtain⟨o,r,e1,e2⟩:=bT hl
  have:o∈L.filter fun o=>decide (o.side=s):=by rw[e1];exact List.mem_cons_self
  rw[List.mem_filter]at this
  exact⟨o,this.1,by simpa using this.2,e2⟩
theorem zNx {L:List zH} {s:Int} (h:∀o∈L,-2000000≤o.price∧o.price≤2000000): -2000000≤(bestL L s).1.price∧(bestL L s).1.price≤2000000:=by
 rcases zFt (L:=L) (s:=s)with⟨_,o,ho,_,e⟩|⟨e,_⟩
 ·rw[← e];exact h o ho
 ·rw[e];constructor<;>decide
theorem b8 (L:List zH):(jI L).p1=(bestL L 1).1.price∧(jI L).q1=(bestL L 1).1.qty∧(jI L).has1=(bestL L 1).2∧(jI L).p2=(bestL L 2).1.price∧(jI L).q2=(bestL L 2).1.qty∧(jI L).has2=(bestL L 2).2:=by
 have h:∀s,(bestL L s).2=true∨bestL L s=(⟨0,0,0⟩,false):=fun s=>by
  rcases zFt (L:=L) (s:=s)with⟨h,_⟩|⟨h,_⟩
  ·exact .inl h
  ·exact .inr h
 rw[jI,Top.sell,Top.buy]
 rcases h 1 with h1|h1<;>rcases h 2 with h2|h2<;>simp[h1,h2,top0]
theorem BOk.prices {p:Prd} {B:List (List zH)} (h:BOk p B) {k:Nat} {L:List zH} (hL:B[k]? =some L):∀o∈L,-2000000≤o.price∧o.price≤2000000:=fun o ho=>zUe h.pc (h.pr k L hL o ho)
theorem BOk.tops {p:Prd} {B:List (List zH)} (h:BOk p B):jJ (B.map jI):=by
 have:=jQ p
 refine⟨by rw[List.length_map,h.bl];omega,fun t ht=> ?_⟩
 obtain⟨L,hL,rfl⟩:=List.mem_map.1 ht
 obtain⟨k,hk⟩:=List.mem_iff_getElem?.1 hL
 have b1:=zNx (s:=1) (h.prices hk)
 have b2:=zNx (s:=2) (h.prices hk)
 rw[(b8 L).1,(b8 L).2.2.2.1]
 exact⟨by constructor<;>omega,by constructor<;>omega⟩
theorem MSt.Rep.tops {s:MSt} {p:Prd} {B:List (List zH)} (h:s.Rep p B):s.tops=B.map jI:=by
 rw[MSt.tops]
 apply List.ext_getElem?
 intro k
 rw[List.getElem?_map,List.getElem?_map]
 by_cases hk:k<B.length
 ·obtain⟨L,hL⟩:=z8 hk
  obtain⟨b,hb⟩:=z8 (l:=s.books) (i:=k) (by rw[h.bl];exact hk)
  rw[hL,hb,Option.map_some,Option.map_some,(h.bk k b L hb hL).top]
 ·rw[List.getElem?_eq_none (by rw[h.bl];omega),List.getElem?_eq_none (by omega)];rfl
theorem MSt.Rep.cnt {s:MSt} {p:Prd} {B:List (List zH)} (h:s.Rep p B) (hB:B.length≤1000000):s.cntOk:=by
 refine⟨by rw[h.bl];exact hB,fun b hb=> ?_⟩
 obtain⟨k,hk⟩:=List.mem_iff_getElem?.1 hb
 have hlt:=(List.getElem?_eq_some_iff.1 hk).1
 rw[h.bl]at hlt
 obtain⟨L,hL⟩:=z8 hlt
 exact(h.bk k b L hk hL).cnt
theorem zFe {b:Book} {L:List zH} (h:b.Rep L) (sd:Bool):b.best (b.side sd)=bestL L (zB sd):=by
 obtain⟨Q,c,ht,rfl⟩:=h
 cases sd
 ·exact c.bestL (.inl rfl)
 ·exact c.bestL (.inr rfl)
theorem hJ (sd:Bool):zB sd=1∨zB sd=2:=by cases sd;exact .inl rfl;exact .inr rfl
theorem yAe (i:NxI) (h:nextC.cnd i):zTc i:=by
 obtain⟨hR,hB,h0,h1⟩:i.s.Rep i.p i.B∧BOk i.p i.B∧0≤i.inst∧i.inst<i.B.length:=h
 have hcl:=jQ i.p
 have hbl:=hB.bl
 have hsl:=hR.bl
 obtain⟨k,hk⟩:∃k:Nat,i.inst=k:=⟨i.inst.toNat,by omega⟩
 obtain⟨L,hL⟩:=z8 (l:=i.B) (i:=k) (by omega)
 obtain⟨b,hb⟩:=z8 (l:=i.s.books) (i:=k) (by omega)
 have hbR:=hR.bk k b L hb hL
 have hps:i.s.p.small:=by rw[hR.ep];exact hB.ps
 have hto:jJ i.s.tops:=by rw[hR.tops];exact hB.tops
 have hnx:zM i.p i.B i.inst (zB i.sd)=if((bestL L (zB i.sd)).2 && !((zV (kE ⟨i.s.p,i.s.tops,i.inst⟩ (zB i.sd)) (zB i.sd)).2 && btr (zB i.sd) (zV (kE ⟨i.s.p,i.s.tops,i.inst⟩ (zB i.sd)) (zB i.sd)).1.price (bestL L (zB i.sd)).1.price))=true then(⟨(bestL L (zB i.sd)).1.price,(bestL L (zB i.sd)).1.qty,⟨0,0⟩,⟨0,0⟩⟩,false,true)else((zV (kE ⟨i.s.p,i.s.tops,i.inst⟩ (zB i.sd)) (zB i.sd)).1,(zV (kE ⟨i.s.p,i.s.tops,i.inst⟩ (zB i.sd)) (zB i.sd)).2,(zV (kE ⟨i.s.p,i.s.tops,i.inst⟩ (zB i.sd)) (zB i.sd)).2):=by
  rw[zM,hR.tops,hR.ep,hk,Int.toNat_natCast,zP hL]
 have hbest:=zFe hbR i.sd
 unfold zTc zBi zDi
 have hcnt:i.s.cntOk:=hR.cnt (by omega)
 have hql:(kE ⟨i.s.p,i.s.tops,i.inst⟩ (zB i.sd)).length≤1000000:=by
  have:=Nat.le_trans (List.length_filter_le (fun q=>decide (i.s.p.price i.inst q.price=0)) _) (zGh ⟨i.s.p,i.s.tops,i.inst⟩ (zB i.sd))
  exact Nat.le_trans this (by decide)
 refine(fun hT=>⟨⟨i.s,rfl,rfl,rfl,rfl,rfl,rfl,rfl,rfl,rfl,rfl,rfl,rfl,rfl,hcnt,fun _ _=>⟨⟨rfl,trivial,rfl,rfl,rfl,rfl,rfl,rfl,rfl,rfl,trivial,trivial⟩,⟨⟨⟨i.s.p,i.s.tops,i.inst⟩,i.sd⟩,rfl,rfl,rfl,rfl,rfl,rfl,rfl,rfl,rfl,rfl,rfl,rfl,rfl,rfl,⟨hps,hto⟩,fun _ _=>⟨hT,hT⟩⟩,⟨rfl,trivial,rfl,rfl,rfl,rfl,rfl,rfl,rfl,rfl,trivial,trivial⟩,⟨⟨⟨i.s.p,i.s.tops,i.inst⟩,i.sd⟩,rfl,rfl,rfl,rfl,rfl,rfl,rfl,rfl,rfl,rfl,rfl,rfl,rfl,rfl,⟨hps,hto⟩,fun _ _=>hT⟩⟩⟩,
  ⟨rfl,trivial,rfl,rfl,rfl,rfl,rfl,rfl,rfl,rfl,trivial,trivial⟩,⟨i.s,rfl,rfl,rfl,rfl,rfl,rfl,rfl,rfl,rfl,rfl,rfl,rfl,rfl,hcnt,fun _ _=>⟨⟨rfl,trivial,rfl,rfl,rfl,rfl,rfl,rfl,rfl,rfl,trivial,trivial⟩,⟨⟨⟨i.s.p,i.s.tops,i.inst⟩,i.sd⟩,rfl,rfl,rfl,rfl,rfl,rfl,rfl,rfl,rfl,rfl,rfl,rfl,rfl,rfl,⟨hps,hto⟩,fun _ _=>hT⟩⟩⟩⟩) ?_
 refine⟨⟨kE ⟨i.s.p,i.s.tops,i.inst⟩ (zB i.sd),zB i.sd⟩,rfl,rfl,⟨hJ _,hql⟩,fun _ _=>⟨⟨h0,by omega⟩,by omega,b,by rw[hk];exact hb,⟨i.sd,b⟩,rfl,rfl,hbR.cnt,fun _ _=>⟨b,rfl,rfl,by omega,?_⟩⟩⟩
 dsimp only
 rw[hbest]
 generalize bestL L (zB i.sd)=l at*
 generalize zV (kE ⟨i.s.p,i.s.tops,i.inst⟩ (zB i.sd)) (zB i.sd)=bq at*
 have hset:i.s.books.set i.inst.toNat b=i.s.books:=kM (by rw[hk];exact hb)
 rw[hset]
 refine Cv.cnd.mk (fun c1=>Cv.cnd.mk (fun c2=>⟨⟨zB i.sd,bq.1.price,l.1.price⟩,rfl,rfl,rfl,trivial,fun _ _=>Cv.cnd.mk (fun c3=> ?_) (fun c3=> ?_)⟩) (fun c2=> ?_)) (fun c1=> ?_)
 ·dsimp only at c3
  rw[if_pos (by rw[c1,c2];simpa using c3)]at hnx
  rw[hnx];exact⟨(),by(repeat'(first|exact trivial|exact rfl|apply And.intro))⟩
 ·dsimp only at c3
  rw[if_neg (by rw[c1,c2];simpa using c3)]at hnx
  rw[hnx];exact⟨(),by(repeat'(first|exact trivial|exact rfl|apply And.intro))⟩
 ·rw[if_pos (by rw[c1,c2];rfl)]at hnx
  rw[hnx];exact⟨(),by(repeat'(first|exact trivial|exact rfl|apply And.intro))⟩
 ·rw[if_neg (by rw[c1];simp)]at hnx
  rw[hnx];exact⟨(),by(repeat'(first|exact trivial|exact rfl|apply And.intro))⟩
theorem zYe:nextC.ok Tryz.prog 31:=z6v (gokc zTw (gokc zQi (gokc zTr (gokc zBl (gokc vZ gok0))))) yAe
theorem zOd (i:RsI) (k:Nat):(i.add k).length=i.out.length:=by
 have:∀(l:List (Nat×Int)) (o:List Int),(l.foldl (fun o y=>o.set y.1 (IntKind.i64.wrap (o.getD y.1 0+y.2))) o).length=o.length:=by
  intro l
  induction l with
  |nil=>intro o;rfl
  |cons x l ih=>intro o;rw[List.foldl_cons,ih,List.length_set]
 exact this _ _
theorem zGa (l:List Int) (q:Int):(jS l q).length≤l.length:=by
 rw[jS];split
 ·rw[f8];exact Nat.le_refl _
 ·exact Nat.zero_le _
theorem zQp (i:AlI):(xD i).length≤i.l.length:=by
 have hq:i.qs.length=i.l.length:=by simp[AlI.qs]
 rw[xD,← hq]
 repeat' split
 ·exact zGa _ _
 ·rw[cX];split
  ·rw[uD,zOd,PsI.rs]
   split
   ·simp
   ·simp
  ·exact Nat.zero_le _
 ·rw[cZ];split
  ·rw[uD,zOd];exact zGa _ _
  ·exact Nat.zero_le _
 ·exact Nat.zero_le _
theorem rB {inst s:Int}:∀{os:List zH} {sh:List Int} {j:Nat} {o:zH} {k:Int},os[j]? =some o→sh[j]? =some k→yD inst s (os.take (j+1)) (sh.take (j+1))=yD inst s (os.take j) (sh.take j)++(if 0<k then[⟨o.id,inst,s,o.price,k,o.qty-k⟩]else[])
 |[],_,_,_,_,h,_=>by simp at h
 |_::_,[],_,_,_,_,h=>by simp at h
 |o::os,k::sh,0,_,_,h,h2=>by
  cases h;cases h2
  rw[List.take_succ_cons,List.take_succ_cons,List.take_zero,List.take_zero,List.take_zero,List.take_zero,yD]
  split<;>rfl
 |o::os,k::sh,j+1,o',k',h,h2=>by
  rw[List.take_succ_cons,List.take_succ_cons,yD,List.take_succ_cons,List.take_succ_cons,yD,rB (os:=os) (sh:=sh) (j:=j) h h2]
  split<;>rfl
theorem zAf {inst s:Int}:∀(os:List zH) (sh:List Int),yD inst s (os.take sh.length) (sh.take sh.length)=yD inst s os sh
 |[],sh=>by simp
 |_::_,[]=>by simp[yD]
 |o::os,k::sh=>by
  rw[List.length_cons,List.take_succ_cons,List.take_succ_cons,yD,yD,zAf os sh]
theorem lZ (B:List (List zH)) (a b:List kU):yS B (a++b)=yS (yS B a) b:=List.foldl_append
theorem zFr (B:List (List zH)) (id q:Int):(xN B id q).1.length=B.length:=by
 rw[xN];split
 ·rfl
 ·simp
theorem qE:∀(fs:List kU) (B:List (List zH)),(yS B fs).length=B.length
 |[],B=>rfl
 |f::fs,B=>by
  show(yS (xN B f.id f.qty).1 fs).length=_
  rw[qE fs,zFr]
theorem z3p {p:Prd} (h:p.check=0):yM p.least∧yM p.top∧yM p.part:=by
 have ok:=qB h
 have:=ok.q1
 have:=ok.q2
 have:=ok.q3
 have:=ok.q4
 have:=ok.q5
 have:=ok.q6
 exact⟨⟨by omega,by omega⟩,⟨by omega,by omega⟩,⟨by omega,by omega⟩⟩
theorem z2z (i:TrI) (h:tradeC.cnd i):zJe i:=by
 obtain⟨hR,hB,h0,h1,hq⟩:i.s.Rep i.p i.B∧BOk i.p i.B∧0≤i.inst∧i.inst<i.B.length∧yM i.q:=h
 have hcl:=jQ i.p
 have hbl:=hB.bl
 have hsl:=hR.bl
 have ep:=hR.ep
 obtain⟨k,hk⟩:∃k:Nat,i.inst=k:=⟨i.inst.toNat,by omega⟩
 obtain⟨L,hL⟩:=z8 (l:=i.B) (i:=k) (by omega)
 obtain⟨b,hb⟩:=z8 (l:=i.s.books) (i:=k) (by omega)
 have hbR:=hR.bk k b L hb hL
 have hbest:=zFe hbR i.sd
 have hos:atL L (zB i.sd) (bestL L (zB i.sd)).1.price=i.os:=by rw[TrI.os,fH,hk,Int.toNat_natCast,zP hL]
 have hset:i.s.books.set i.inst.toNat b=i.s.books:=kM (by rw[hk];exact hb)
 have hosl:i.os.length≤250:=by
  rw[← hos];exact Nat.le_trans (List.length_filter_le _ _) hbR.ords.2.2
 have hsh:i.sh.length≤i.os.length:=zQp _
 obtain⟨k1,k2,k3⟩:=z3p hB.pc
 have hsb:∀(j:Nat) (n:Int),i.sh[j]? =some n→n≤1000000:=by
  intro j n hn
  cases hr:yH (i.os.map (·.qty)) i.q with
  |false=>
   have:i.sh=[]:=zIf hr
   rw[this]at hn;cases hn
  |true=>
   have:=(bQ hB.pc hr).bd j
   have e:(xD ⟨i.p,i.os,i.q⟩).getD j 0=n:=zP hn
   rw[e]at this
   have:=(zOg (qD hr).2.2.1 j).2
   omega
 unfold zJe
 refine⟨⟨h0,by omega⟩,by omega,b,by rw[hk];exact hb,⟨i.sd,b⟩,rfl,rfl,hbR.cnt,fun _ _=> ?_⟩
 refine⟨b,rfl,rfl,by omega,b,by rw[hset,hk];exact hb,⟨b,L,i.sd,(bestL L (zB i.sd)).1.price⟩,rfl,by dsimp only;rw[hbest],rfl,hbR,fun _ _=> ?_⟩
 dsimp only
 try rw[hbest]
 rw[hset,hos]
 refine⟨b,rfl,rfl,by omega,⟨i.p,i.os,i.q⟩,by rw[ep],by rw[ep],by rw[ep],by rw[ep],by rw[ep],by rw[ep],by rw[ep],by rw[ep],by rw[ep],by rw[ep],by rw[ep],rfl,rfl,⟨by dsimp only;omega,hq,k1,k2,k3⟩,fun _ _=> ?_⟩
 have esh:xD ⟨i.p,i.os,i.q⟩=i.sh:=rfl
 rw[esh,hset,yX,List.length_map]
 refine⟨(0,i.s),rfl,rfl,rfl,rfl,rfl,rfl,rfl,rfl,rfl,rfl,rfl,rfl,rfl,rfl,rfl,fun j=>j.2.Rep i.p (yS i.B (i.fs j.1))∧j.1≤i.sh.length,fun j=>i.sh.length-j.1,⟨hR,Nat.zero_le _⟩,fun j hj=> ?_⟩
 obtain⟨hjR,hjl⟩:=hj
 obtain⟨j,sj⟩:=j
 dsimp only at hjR hjl ⊢
 refine zT (fun c=> ?_) (fun c=> ?_)
 ·obtain⟨n,hn⟩:=z8 (l:=i.sh) (i:=j) (by omega)
  obtain⟨o,ho⟩:=z8 (l:=i.os) (i:=j) (by omega)
  have hst:=rB (inst:=i.inst) (s:=zB i.sd) ho hn
  have hoL:o∈L:=by
   have:=List.mem_of_getElem? ho
   rw[← hos]at this
   exact(List.mem_filter.1 this).1
  have hoq:=(hbR.ords.1 o hoL).q
  have hnb:=hsb j n hn
  refine⟨⟨by omega,by omega⟩,n,elI hn,zT (fun c2=> ?_) (fun c2=> ?_)⟩
  ·rw[if_pos (show 0<n from c2)]at hst
   have hfl:(i.fs j).length≤j:=by
    have:∀(os:List zH) (sh:List Int),(yD i.inst (zB i.sd) os sh).length≤os.length:=by
     intro os
     induction os with
     |nil=>intro sh;exact Nat.le_refl 0
     |cons o os ih=>
      intro sh
      cases sh with
      |nil=>exact Nat.zero_le _
      |cons k sh=>
       have:=ih sh
       rw[yD]
       split
       ·simp only[List.length_cons];omega
       ·simp only[List.length_cons];omega
    exact Nat.le_trans (this _ _) (by rw[List.length_take];omega)
   refine⟨⟨by omega,by omega⟩,o.id,o.side,o.price,o.qty,o.top,z4w ho,⟨sj,i.p,yS i.B (i.fs j),o.id,n⟩,rfl,rfl,rfl,⟨hjR,by dsimp only;rw[qE];omega⟩,fun s' hs'=>⟨by rw[List.length_map];omega,(j+1,s'),wjn (by omega),rfl,?_,⟨?_,by dsimp only;omega⟩,by dsimp only;omega,by(repeat'(first|exact trivial|exact rfl|apply And.intro))⟩⟩
   ·show List.map xY (yD i.inst (zB i.sd) (i.os.take (j+1)) (i.sh.take (j+1)))=_
    rw[hst,List.map_append,w64 (by omega)];rfl
   ·show s'.Rep i.p (yS i.B (yD i.inst (zB i.sd) (i.os.take (j+1)) (i.sh.take (j+1))))
    rw[hst,lZ];exact hs'
  ·rw[if_neg (show ¬0<n from c2),List.append_nil]at hst
   refine⟨(j+1,sj),wjn (by omega),rfl,?_,⟨?_,by dsimp only;omega⟩,by dsimp only;omega,by(repeat'(first|exact trivial|exact rfl|apply And.intro))⟩
   ·show List.map xY (yD i.inst (zB i.sd) (i.os.take (j+1)) (i.sh.take (j+1)))=_
    rw[hst];rfl
   ·show sj.Rep i.p (yS i.B (yD i.inst (zB i.sd) (i.os.take (j+1)) (i.sh.take (j+1))))
    rw[hst];exact hjR
 ·have hje:j=i.sh.length:=by omega
  subst hje
  have hfa:i.fs i.sh.length=yG i.p i.B i.inst (zB i.sd) i.q:=zAf _ _
  rw[hfa]at hjR ⊢
  exact⟨sj,rfl,rfl,hjR⟩
theorem zVv:tradeC.ok Tryz.prog 34:=zYb (gokc zBl (gokc yAf (gokc zRj (gokc zUs gok0)))) z2z
open Go Cv Go.Proofs
structure u7 where
 price:Int
 qty:Int
 implied:Bool
 fills:List kU
 deriving DecidableEq
def zY (t:u7):List D:=[.v (.int .i64 t.price),.v (.int .i64 t.qty),.v (.bool t.implied),.ro 6 (t.fills.map xY)]
def wC (p:Prd) (B:List (List zH)) (inst:Int) (sd:Bool) (price qty:Int):Option (u7×List (List zH)):=
 let n:=zM p B inst (zB (!sd))
 if(n.2.2 && (vX sd price n.1.price && decide (1≤n.1.qty)))=true then
  if n.2.1=true then
   let f1:=yG p B n.1.a.inst n.1.a.side (min qty n.1.qty)
   let f2:=yG p (yS B f1) n.1.b.inst n.1.b.side (min qty n.1.qty)
   some (⟨n.1.price,min qty n.1.qty,true,f1++f2⟩,yS (yS B f1) f2)
  else
   let f:=yG p B inst (zB (!sd)) (min qty n.1.qty)
   some (⟨n.1.price,min qty n.1.qty,false,f⟩,yS B f)
 else none
structure z1p where
 steps:List u7
 left:Int
 B:List (List zH)
def pC (p:Prd) (inst:Int) (sd:Bool) (price:Int):Nat→List (List zH)→Int→z1p
 |0,B,q=>⟨[],q,B⟩
 |n+1,B,q=>if q≤0 then⟨[],q,B⟩else match wC p B inst sd price q with
  |none=>⟨[],q,B⟩
  |some (t,B')=>let r:=pC p inst sd price n B' (q-t.qty);⟨t::r.steps,r.left,r.B⟩
def qZ (p:Prd) (B:List (List zH)) (inst:Int) (sd:Bool) (price q:Int):z1p:=pC p inst sd price q.toNat B q
structure RunI where
 s:MSt
 p:Prd
 B:List (List zH)
 inst:Int
 sd:Bool
 price:Int
 q:Int
def RunI.r (i:RunI):z1p:=qZ i.p i.B i.inst i.sd i.price i.q
def runC:Con where
 ι:=RunI
 pat:=fun i=>[.nm 0 0,zE i.inst,zE (zB i.sd),zE i.price,zE i.q]
 pre:=fun i=>[zJ i.s]
 cnd:=fun i=>i.s.Rep i.p i.B∧BOk i.p i.B∧(0≤i.inst∧i.inst<i.B.length)∧1≤i.q∧i.q≤1000000
 alts:=fun i=>[{o:=MSt,res:=fun _=> .tup [.own 1,zE i.r.left],post:=fun s=>[zJ s,.own 46 4 (i.r.steps.map zY)],rel:=fun s=>s.Rep i.p i.r.B}]
structure zKb where
 s:MSt
 B:List (List zH)
 steps:List u7
 q:Int
def yAh:List SAnn:=[
 {ι:=zKb,slots:=fun j=>[(0,.nm 0 0),(12,.own 1),(4,zE j.q)],rows:=fun j=>[zJ j.s,.own 46 4 (j.steps.map zY)]},
 {ι:=Unit,slots:=fun _=>[],rows:=fun _=>[],un:=3}]
structure RbI where
 s:MSt
 inst:Int
 side:Int
 price:Int
 q:Int
open Go Cv Go.Proofs
@[reducible] def zIx (i:RunI):Prop:=∃(i0:zKb),i0.q=i.q∧sb i0.s.p.code=sb i.s.p.code∧i0.s.p.tick=i.s.p.tick∧i0.s.p.low=i.s.p.low∧i0.s.p.high=i.s.p.high∧i0.s.p.wide=i.s.p.wide∧i0.s.p.rule=i.s.p.rule∧i0.s.p.top=i.s.p.top∧i0.s.p.least=i.s.p.least∧i0.s.p.part=i.s.p.part∧AObj.objs 64 Book 6 zN i0.s.books none=AObj.objs 64 Book 6 zN i.s.books none∧yE i0.s.wh=yE i.s.wh∧AObj.fro 1 (iE i0.s.p.months)=AObj.fro 1 (iE i.s.p.months)∧AObj.fro 1 (iE i0.s.p.settle)=AObj.fro 1 (iE i.s.p.settle)∧List.map zY i0.steps=[]∧∃(I:zKb→Prop),∃(μ:zKb→Nat),I i0∧∀(i_1:zKb),I i_1→cnd (decide (i_1.q>0)) (∃(i_2:Bool),zB i_2=zB i.sd∧True∧∀(o:Unit),True→∃(i_3:NxI),i_3.inst=i.inst∧zB i_3.sd=zB !i_2∧zJ i_3.s=zJ i_1.s∧(i_3.s.Rep i_3.p i_3.B∧BOk i_3.p i_3.B∧0≤i_3.inst∧i_3.inst<(↑i_3.B.length:Int))∧∀(o:Unit),True→cnd (!(zM i_3.p i_3.B i_3.inst (zB i_3.sd)).snd.snd) (∃(o:MSt),i.r.left=i_1.q∧zJ o=zJ i_3.s∧List.map zY i.r.steps=List.map zY i_1.steps∧o.Rep i.p i.r.B) (∃(i_4:GoI),zB i_4.s=zB i.sd∧i_4.p=i.price∧i_4.x=(zM i_3.p i_3.B i_3.inst (zB i_3.sd)).fst.price∧True∧∀(o:Unit),True→cnd (!vX i_4.s i_4.p i_4.x) (∃(o:MSt),i.r.left=i_1.q∧zJ o=zJ i_3.s∧List.map zY i.r.steps=List.map zY i_1.steps∧o.Rep i.p i.r.B) (cnd (zM i_3.p i_3.B i_3.inst (zB i_3.sd)).snd.fst (∃(i_5:TrI),i_5.inst=(zM i_3.p i_3.B i_3.inst (zB i_3.sd)).fst.a.inst∧zB i_5.sd=(zM i_3.p i_3.B i_3.inst (zB i_3.sd)).fst.a.side∧i_5.q=min i_1.q (zM i_3.p i_3.B i_3.inst (zB i_3.sd)).fst.qty∧zJ i_5.s=zJ i_3.s∧(i_5.s.Rep i_5.p i_5.B∧BOk i_5.p i_5.B∧0≤i_5.inst∧i_5.inst<(↑i_5.B.length:Int)∧(-9223372036854775808)≤i_5.q∧i_5.q≤9223372036854775807)∧∀(o:MSt),o.Rep i_5.p (yS i_5.B (yG i_5.p i_5.B i_5.inst (zB i_5.sd) i_5.q))→True∧(List.map xY (yG i_5.p i_5.B i_5.inst (zB i_5.sd) i_5.q)).length*(48:Nat)≤(70368744177664:Nat)∧∃(i_6:TrI),i_6.inst=(zM i_3.p i_3.B i_3.inst (zB i_3.sd)).fst.b.inst∧zB i_6.sd=(zM i_3.p i_3.B i_3.inst (zB i_3.sd)).fst.b.side∧i_6.q=min i_1.q (zM i_3.p i_3.B i_3.inst (zB i_3.sd)).fst.qty∧zJ i_6.s=zJ o∧(i_6.s.Rep i_6.p i_6.B∧BOk i_6.p i_6.B∧0≤i_6.inst∧i_6.inst<(↑i_6.B.length:Int)∧(-9223372036854775808)≤i_6.q∧i_6.q≤9223372036854775807)∧∀(o:MSt),o.Rep i_6.p (yS i_6.B (yG i_6.p i_6.B i_6.inst (zB i_6.sd) i_6.q))→True∧((List.map xY (yG i_5.p i_5.B i_5.inst (zB i_5.sd) i_5.q)).length+(List.map xY (yG i_6.p i_6.B i_6.inst (zB i_6.sd) i_6.q)).length)*(48:Nat)≤(70368744177664:Nat)∧((List.map zY i_1.steps).length+1)*(48:Nat)≤(70368744177664:Nat)∧∃(i':zKb),i'.q=IntKind.i64.wrap (i_1.q-min i_1.q (zM i_3.p i_3.B i_3.inst (zB i_3.sd)).fst.qty)∧zJ i'.s=zJ o∧List.map zY i'.steps=List.map zY i_1.steps++[[D.v (.int .i64 (zM i_3.p i_3.B i_3.inst (zB i_3.sd)).fst.price),D.v (.int .i64 (min i_1.q (zM i_3.p i_3.B i_3.inst (zB i_3.sd)).fst.qty)),D.v (.bool (zM i_3.p i_3.B i_3.inst (zB i_3.sd)).snd.fst),D.ro 6 (List.map xY (yG i_5.p i_5.B i_5.inst (zB i_5.sd) i_5.q)++List.map xY (yG i_6.p i_6.B i_6.inst (zB i_6.sd) i_6.q))]]∧I i'∧μ i'<μ i_1∧AObj.fro 1 (iE i.s.p.months)=AObj.fro 1 (iE i.s.p.months)∧AObj.fro 1 (iE i.s.p.settle)=AObj.fro 1 (iE i.s.p.settle)) (∃(i_5:Bool),zB i_5=zB i.sd∧True∧∀(o:Unit),True→min i_1.q (zM i_3.p i_3.B i_3.inst (zB i_3.sd)).fst.qty=min i_1.q (zM i_3.p i_3.B i_3.inst (zB i_3.sd)).fst.qty∧∃(i_6:TrI),i_6.inst=i.inst∧zB i_6.sd=zB !i_5∧i_6.q=min i_1.q (zM i_3.p i_3.B i_3.inst (zB i_3.sd)).fst.qty∧zJ i_6.s=zJ i_3.s∧(i_6.s.Rep i_6.p i_6.B∧BOk i_6.p i_6.B∧0≤i_6.inst∧i_6.inst<(↑i_6.B.length:Int)∧(-9223372036854775808)≤i_6.q∧i_6.q≤9223372036854775807)∧∀(o:MSt),o.Rep i_6.p (yS i_6.B (yG i_6.p i_6.B i_6.inst (zB i_6.sd) i_6.q))→((List.map zY i_1.steps).length+1)*(48:Nat)≤(70368744177664:Nat)∧∃(i':zKb),i'.q=IntKind.i64.wrap (i_1.q-min i_1.q (zM i_3.p i_3.B i_3.inst (zB i_3.sd)).fst.qty)∧zJ i'.s=zJ o∧List.map zY i'.steps=List.map zY i_1.steps++[[D.v (.int .i64 (zM i_3.p i_3.B i_3.inst (zB i_3.sd)).fst.price),D.v (.int .i64 (min i_1.q (zM i_3.p i_3.B i_3.inst (zB i_3.sd)).fst.qty)),D.v (.bool (zM i_3.p i_3.B i_3.inst (zB i_3.sd)).snd.fst),D.ro 6 (List.map xY (yG i_6.p i_6.B i_6.inst (zB i_6.sd) i_6.q))]]∧I i'∧μ i'<μ i_1∧AObj.fro 1 (iE i.s.p.months)=AObj.fro 1 (iE i.s.p.months)∧AObj.fro 1 (iE i.s.p.settle)=AObj.fro 1 (iE i.s.p.settle))))) (∃(o:MSt),i.r.left=i_1.q∧zJ o=zJ i_1.s∧List.map zY i.r.steps=List.map zY i_1.steps∧o.Rep i.p i.r.B)
@[reducible] def dA (i:RunI):Prop:=∃(o:MSt),i.r.left=i.q∧sb o.p.code=sb i.s.p.code∧o.p.tick=i.s.p.tick∧o.p.low=i.s.p.low∧o.p.high=i.s.p.high∧o.p.wide=i.s.p.wide∧o.p.rule=i.s.p.rule∧o.p.top=i.s.p.top∧o.p.least=i.s.p.least∧o.p.part=i.s.p.part∧AObj.objs 64 Book 6 zN o.books none=AObj.objs 64 Book 6 zN i.s.books none∧yE o.wh=yE i.s.wh∧AObj.fro 1 (iE o.p.months)=AObj.fro 1 (iE i.s.p.months)∧AObj.fro 1 (iE o.p.settle)=AObj.fro 1 (iE i.s.p.settle)∧List.map zY i.r.steps=[]∧o.Rep i.p i.r.B
def z5x (i:RunI):Prop:=
 cnd (decide (i.inst≥0)) (cnd (decide (i.inst<(↑i.s.books.length:Int))) (cnd (zB i.sd==1) (cnd (decide (i.q≥1)) (cnd (!decide (i.q≤1000000)) (dA i) (zIx i)) (dA i)) (cnd (zB i.sd==2) (cnd (decide (i.q≥1)) (cnd (!decide (i.q≤1000000)) (dA i) (zIx i)) (dA i)) (dA i))) (dA i)) (dA i)
theorem z8g (hG:GOk Tryz.prog ([(31,nextC),(32,motherC),(33,mgoodC),(34,tradeC)])) (h:∀(i:RunI),runC.cnd i→z5x i):runC.ok Tryz.prog 14:=okw mixed hG 2 (fun _=>[]) (fun _=>yAh) [0] Tryz.func14 h
open Go Cv Go.Proofs
structure QOk (T:List Top) (q:Quote):Prop where
 a:0≤q.a.inst∧q.a.inst<T.length
 b:0≤q.b.inst∧q.b.inst<T.length
 sa:q.a.side=1∨q.a.side=2
 sb:q.b.side=1∨q.b.side=2
 ne:q.a.inst≠q.b.inst
 ha:(T.getD q.a.inst.toNat top0).has q.a.side=true
 hb:(T.getD q.b.inst.toNat top0).has q.b.side=true
 qty:q.qty=min ((T.getD q.a.inst.toNat top0).qty q.a.side) ((T.getD q.b.inst.toNat top0).qty q.b.side)
theorem zJk {T:List Top} {a b:Leg} {less:Bool} {q:Quote} (h:q∈mkq T a b less) (h1:0≤a.inst∧a.inst<T.length) (h2:0≤b.inst∧b.inst<T.length) (h3:a.side=1∨a.side=2) (h4:b.side=1∨b.side=2) (hne:a.inst≠b.inst):QOk T q∧q.a=a∧q.b=b:=by
 cases less
 all_goals
  simp only[mkq,Bool.false_eq_true,↓reduceIte]at h
  split at h
  ·rename_i hc
   simp only[Bool.and_eq_true]at hc
   rw[List.mem_singleton]at h
   subst h
   exact⟨⟨h1,h2,h3,h4,hne,hc.1.1,hc.1.2,rfl⟩,rfl,rfl⟩
  ·cases h
theorem z3o:∀n≤6,∀k<n+n*(n-1) / 2,n≤k→(xW n k n 0).1≠(xW n k n 0).2.1:=by decide
theorem zLo {p:Prd} (hc:p.check=0) {k:Nat} (hk:k<p.count) (hs:(p.legs k).2.2=true):(p.legs k).1≠(p.legs k).2.1:=by
 have m6:=(qB hc).m6
 have hk':=hk
 rw[Prd.count,if_pos hc]at hk'
 by_cases h:k<p.months.length
 ·rw[Prd.legs,if_neg (by omega),if_pos (by omega)]at hs
  cases hs
 ·rw[Prd.legs,if_neg (by omega),if_neg (by omega)]
  exact z3o p.months.length m6 k hk' (by omega)
theorem zOs:∀n≤6,∀a<n,∀b<n,a<b→(zZ n a:Int)+b-a-1≥n:=by decide
theorem l6 {p:Prd} (hc:p.check=0) {a b:Nat} (hab:a<b) (hb:b<p.months.length):(p.months.length:Int)≤(p.spread a b).1:=by
 have m6:=(qB hc).m6
 have:=zOs p.months.length m6 a (by omega) b hb hab
 rw[Prd.spread,if_neg (by omega)]
 simpa using this
theorem zYd {p:Prd} (hc:p.check=0) {T:List Top} (hT:T.length=p.count) {inst:Int} {s:Int} (hs:s=1∨s=2) {q:Quote} (h:q∈xQ ⟨p,T,inst⟩ s):QOk T q∧0≤inst∧inst<p.count∧
 (((p.legs inst).2.2=true∧q.a=⟨(p.legs inst).1,s⟩∧q.b=⟨(p.legs inst).2.1,3-s⟩)∨(inst<p.months.length∧q.a.inst≠inst∧(p.months.length:Int)≤q.a.inst)):=by
 rw[xQ]at h
 dsimp only at h
 split at h
 ·cases h
 ·rename_i hn
  have h0:0≤inst∧inst<p.count:=by omega
  obtain⟨k,rfl⟩:∃k:Nat,inst=k:=⟨inst.toNat,by omega⟩
  have hk:k<p.count:=by omega
  have hge:=b7 hc
  split at h
  ·rename_i hl
   obtain⟨q',hq',rfl⟩:=List.mem_map.1 h
   have hle:=uC hc hk
   rcases hle with⟨_,l1,l2,l3,l4⟩|⟨e,_⟩
   ·obtain⟨ok,e1,e2⟩:=zJk hq' (by dsimp only;omega) (by dsimp only;omega) (by dsimp only;omega) hs (fun e=>zLo hc hk hl e.symm)
    refine⟨⟨by dsimp only[kD];omega,by dsimp only[kD];omega,hs,by dsimp only[kD];omega,zLo hc hk hl,?_,?_,?_⟩,h0.1,h0.2,.inl ⟨hl,rfl,rfl⟩⟩
    ·have:=ok.hb;rw[e2]at this;exact this
    ·have:=ok.ha;rw[e1]at this;exact this
    ·have:=ok.qty;rw[e1,e2]at this;dsimp only[kD];rw[this];exact Int.min_comm _ _
   ·rw[e]at hl;cases hl
  ·rename_i hl
   have hm:k<p.months.length:=by
    rcases uC hc hk with⟨e,_⟩|⟨_,e⟩
    ·exact absurd e hl
    ·exact e
   rcases List.mem_append.1 h with h|h
   ·obtain⟨j,hj,h⟩:=List.mem_flatMap.1 h
    have hj:=List.mem_range.1 hj
    rw[Int.toNat_natCast]at hj
    have s1:=vJ hc (a:=k) (b:=k+1+j) (by omega) (by omega)
    have s2:=l6 hc (a:=k) (b:=k+1+j) (by omega) (by omega)
    have ec:((k:Int)+1+j)=((k+1+j:Nat):Int):=by omega
    rw[ec]at h
    obtain⟨ok,e1,e2⟩:=zJk h (by dsimp only;omega) (by dsimp only;omega) hs hs (by dsimp only;omega)
    exact⟨ok,h0.1,h0.2,.inr ⟨by omega,by rw[e1];dsimp only;omega,by rw[e1];exact s2⟩⟩
   ·obtain⟨j,hj,h⟩:=List.mem_flatMap.1 h
    have hj:=List.mem_range.1 hj
    rw[Int.toNat_natCast]at hj
    have s1:=vJ hc (a:=j) (b:=k) (by omega) (by omega)
    have s2:=l6 hc (a:=j) (b:=k) (by omega) (by omega)
    obtain⟨ok,e1,e2⟩:=zJk h (by dsimp only;omega) (by dsimp only;omega) (by dsimp only;omega) hs (by dsimp only;omega)
    exact⟨ok,h0.1,h0.2,.inr ⟨by omega,by rw[e1];dsimp only;omega,by rw[e1];exact s2⟩⟩
theorem zAx {s:Int}:∀(r:List Quote) (q:Quote),r.foldl (fun b q=>if btr s q.price b.price then q else b) q∈q::r
 |[],q=>List.mem_cons_self
 |x::r,q=>by
  rw[List.foldl_cons]
  have:=zAx (s:=s) r (if btr s x.price q.price then x else q)
  rcases List.mem_cons.1 this with e|h
  ·rw[e];split
   ·exact List.mem_cons_of_mem _ List.mem_cons_self
   ·exact List.mem_cons_self
  ·exact List.mem_cons_of_mem _ (List.mem_cons_of_mem _ h)
theorem zQh {l:List Quote} {s:Int} (h:(zV l s).2=true):(zV l s).1∈l:=by
 cases l with
 |nil=>cases h
 |cons q r=>exact zAx r q
def zRf (B:List (List zH)):Prop:=∀(k:Nat) (L:List zH),B[k]?=some L→(∀o∈L,lX o)∧(L.map (·.id)).Nodup∧L.length≤250
theorem MSt.Rep.ords {s:MSt} {p:Prd} {B:List (List zH)} (h:s.Rep p B):zRf B:=by
 intro k L hL
 obtain⟨b,hb⟩:=z8 (l:=s.books) (i:=k) (by rw[h.bl];exact(List.getElem?_eq_some_iff.1 hL).1)
 exact(h.bk k b L hb hL).ords
theorem z2e:∀{l:List zH} {v:Lv},(∀o∈l,lX o)→v∈grp l→1≤v.qty∧v.qty≤1000000*l.length
 |[],v,_,h=>by cases h
 |o::l,v,ho,h=>by
  have h0:=(ho o List.mem_cons_self).q
  have ih:∀v∈grp l,1≤v.qty∧v.qty≤1000000*l.length:=fun v hv=>z2e (fun x hx=>ho x (List.mem_cons_of_mem _ hx)) hv
  rw[grp]at h
  rw[List.length_cons]
  split at h
  ·rw[List.mem_singleton]at h
   subst h;dsimp only;omega
  ·rename_i w ws e
   rw[e]at ih
   have hw:=ih w List.mem_cons_self
   split at h
   ·rcases List.mem_cons.1 h with rfl|h
    ·dsimp only;omega
    ·have:=ih v (List.mem_cons_of_mem _ h);omega
   ·rcases List.mem_cons.1 h with rfl|h
    ·dsimp only;omega
    ·have:=ih v h;omega
theorem zIz {L:List zH} {s:Int} (h:∀o∈L,lX o) (hl:L.length≤250) (hb:(bestL L s).2=true):1≤(bestL L s).1.qty∧(bestL L s).1.qty≤250000000:=by
 rw[bestL]at hb ⊢
 cases hl2:qY L s with
 |nil=>rw[hl2]at hb;cases hb
 |cons v vs=>
  dsimp only
  have hm:v∈grp (L.filter fun o=>decide (o.side=s)):=by rw[← qY,hl2];exact List.mem_cons_self
  have:=z2e (fun o ho=>h o (List.mem_filter.1 ho).1) hm
  have:=List.length_filter_le (fun o:zH=>decide (o.side=s)) L
  omega
theorem c8 {B:List (List zH)} {k:Nat} {L:List zH} (hL:B[k]? =some L):(B.map jI).getD k top0=jI L:=zP (by rw[List.getElem?_map,hL];rfl)
theorem jD (L:List zH) {s:Int} (hs:s=1∨s=2):(jI L).has s=(bestL L s).2∧(jI L).qty s=(bestL L s).1.qty∧(jI L).price s=(bestL L s).1.price:=by
 obtain⟨e1,e2,e3,e4,e5,e6⟩:=b8 L
 rcases hs with rfl|rfl
 ·exact⟨e3,e2,e1⟩
 ·exact⟨e6,e5,e4⟩
theorem mD {p:Prd} {B:List (List zH)} (h:BOk p B) (ho:zRf B) {inst:Int} (hi:0≤inst∧inst<B.length) {s:Int} (hs:s=1∨s=2) (hn:(zM p B inst s).2.2=true):
 (1≤(zM p B inst s).1.qty∧(zM p B inst s).1.qty≤250000000)∧((zM p B inst s).2.1=true→(zM p B inst s).1∈xQ ⟨p,B.map jI,inst⟩ s∧QOk (B.map jI) (zM p B inst s).1)∧
 ((zM p B inst s).2.1=false→(bestL (B.getD inst.toNat []) s).2=true∧(zM p B inst s).1.price=(bestL (B.getD inst.toNat []) s).1.price∧(zM p B inst s).1.qty=(bestL (B.getD inst.toNat []) s).1.qty):=by
 obtain⟨k,rfl⟩:∃k:Nat,inst=k:=⟨inst.toNat,by omega⟩
 obtain⟨L,hL⟩:=z8 (l:=B) (i:=k) (by omega)
 have hLo:=ho k L hL
 rw[zM]at hn ⊢
 rw[Int.toNat_natCast,zP hL]at hn ⊢
 split
 ·rename_i c
  simp only[Bool.and_eq_true]at c
  exact⟨zIz hLo.1 hLo.2.2 c.1,⟨fun e=>(by cases e),fun _=>⟨c.1,rfl,rfl⟩⟩⟩
 ·rename_i c
  rw[if_neg c]at hn
  dsimp only at hn ⊢
  have hm:=zQh hn
  have ha:(zV (kE ⟨p,B.map jI,k⟩ s) s).1∈xQ ⟨p,B.map jI,k⟩ s:=(List.mem_filter.1 hm).1
  obtain⟨ok,_⟩:=zYd h.pc (by rw[List.length_map];exact h.bl) hs ha
  refine⟨?_,fun _=>⟨ha,ok⟩,fun e=>by rw[hn]at e;cases e⟩
  generalize (zV (kE ⟨p,B.map jI,k⟩ s) s).1=q at ok
  have a:=ok.a
  have b:=ok.b
  rw[List.length_map]at a b
  obtain⟨La,hLa⟩:=z8 (l:=B) (i:=q.a.inst.toNat) (by omega)
  obtain⟨Lb,hLb⟩:=z8 (l:=B) (i:=q.b.inst.toNat) (by omega)
  have e1:=ok.ha
  have e2:=ok.hb
  have e3:=ok.qty
  rw[c8 hLa]at e1 e3
  rw[c8 hLb]at e2 e3
  rw[(jD La ok.sa).1]at e1
  rw[(jD Lb ok.sb).1]at e2
  rw[(jD La ok.sa).2.1,(jD Lb ok.sb).2.1]at e3
  have:=zIz (ho _ _ hLa).1 (ho _ _ hLa).2.2 e1
  have:=zIz (ho _ _ hLb).1 (ho _ _ hLb).2.2 e2
  omega
theorem zUp {L:List zH} {id q:Int} {o:zH} (h:o∈(yZ L id q).1):∃o'∈L,o.price=o'.price∧o.side=o'.side∧o.id=o'.id:=by
 rw[yZ]at h
 split at h
 ·exact⟨o,h,rfl,rfl,rfl⟩
 split at h
 ·exact⟨o,h,rfl,rfl,rfl⟩
 obtain⟨o',ho',e⟩:=List.mem_filterMap.1 h
 refine⟨o',ho',?_⟩
 split at e
 ·split at e
  ·cases e
  ·cases e;exact⟨rfl,rfl,rfl⟩
 ·cases e;exact⟨rfl,rfl,rfl⟩
theorem BOk.take {p:Prd} {B:List (List zH)} (h:BOk p B) (id q:Int):BOk p (xN B id q).1:=by
 refine⟨h.pc,h.ps,by rw[zFr];exact h.bl,fun k L hL o ho=> ?_⟩
 rw[xN]at hL
 split at hL
 ·exact h.pr k L hL o ho
 ·rename_i j hj
  dsimp only at hL
  rcases vC hL with⟨rfl,rfl⟩|⟨_,hL⟩
  ·obtain⟨o',ho',e,_⟩:=zUp ho
   obtain⟨L',hL',_⟩:=kZ hj
   rw[zP hL']at ho'
   rw[e];exact h.pr k L' hL' o' ho'
  ·exact h.pr k L hL o ho
theorem BOk.takes {p:Prd}:∀{fs:List kU} {B:List (List zH)},BOk p B→BOk p (yS B fs)
 |[],B,h=>h
 |f::fs,B,h=>BOk.takes (fs:=fs) (h.take f.id f.qty)
theorem tH (inst s:Int):∀(os:List zH) (sh:List Int),(yD inst s os sh).length≤os.length
 |[],sh=>Nat.le_refl 0
 |o::os,[]=>Nat.zero_le _
 |o::os,k::sh=>by
  have:=tH inst s os sh
  rw[yD]
  split
  ·simp only[List.length_cons];omega
  ·simp only[List.length_cons];omega
theorem zAc {p:Prd} {B:List (List zH)} (ho:zRf B) (inst s q:Int):(yG p B inst s q).length≤250:=by
 refine Nat.le_trans (tH _ _ _ _) (Nat.le_trans (List.length_filter_le _ _) ?_)
 by_cases h:inst.toNat<B.length
 ·obtain⟨L,hL⟩:=z8 h
  rw[zP hL];exact(ho _ _ hL).2.2
 ·rw[List.getD_eq_getElem?_getD,List.getElem?_eq_none (by omega)];exact Nat.zero_le _
theorem zKt {p:Prd} {B:List (List zH)} {inst:Int} {sd:Bool} {price q:Int} {t:u7} {B':List (List zH)} (hq:1≤q) (h:wC p B inst sd price q=some (t,B')):1≤t.qty∧t.qty≤q:=by
 rw[wC]at h
 dsimp only at h
 split at h
 ·rename_i c
  simp only[Bool.and_eq_true,decide_eq_true_eq]at c
  split at h
  ·cases h;dsimp only;omega
  ·cases h;dsimp only;omega
 ·cases h
theorem zHl {p:Prd} {inst:Int} {sd:Bool} {price:Int}:∀(m n:Nat) (B:List (List zH)) (q:Int),q.toNat≤m→q.toNat≤n→pC p inst sd price m B q=pC p inst sd price n B q
 |0,0,B,q,_,_=>rfl
 |0,n+1,B,q,h,_=>by rw[pC,pC,if_pos (by omega)]
 |m+1,0,B,q,_,h=>by rw[pC,pC,if_pos (by omega)]
 |m+1,n+1,B,q,h1,h2=>by
  rw[pC,pC]
  split
  ·rfl
  ·rename_i hq
   cases hs:wC p B inst sd price q with
   |none=>rfl
   |some x=>
    obtain⟨t,B'⟩:=x
    have:=zKt (by omega) hs
    dsimp only
    rw[zHl m n B' (q-t.qty) (by omega) (by omega)]
theorem uN {p:Prd} {B:List (List zH)} {inst:Int} {sd:Bool} {price q:Int} (h:q≤0∨wC p B inst sd price q=none):qZ p B inst sd price q=⟨[],q,B⟩:=by
 rw[qZ]
 cases hn:q.toNat with
 |zero=>rfl
 |succ n=>
  rw[pC]
  rcases h with h|h
  ·rw[if_pos h]
  ·rw[if_neg (by omega),h]
theorem fL {p:Prd} {B:List (List zH)} {inst:Int} {sd:Bool} {price q:Int} {t:u7} {B':List (List zH)} (hq:1≤q) (h:wC p B inst sd price q=some (t,B')):
 qZ p B inst sd price q=⟨t::(qZ p B' inst sd price (q-t.qty)).steps,(qZ p B' inst sd price (q-t.qty)).left,(qZ p B' inst sd price (q-t.qty)).B⟩:=by
 have ht:=zKt hq h
 rw[qZ]
 cases hn:q.toNat with
 |zero=>omega
 |succ n=>
  rw[pC,if_neg (by omega),h]
  dsimp only
  rw[zHl n (q-t.qty).toNat B' (q-t.qty) (by omega) (Nat.le_refl _)]
  rfl
open Go Cv Go.Proofs
theorem uR {s:Int} (h:s=1∨s=2):zB (decide (s=2))=s:=by
 rcases h with rfl|rfl<;>rfl
theorem yAn (i:RunI) (h:runC.cnd i):z5x i:=by
 obtain⟨hR,hB,⟨h0,h1⟩,hq1,hq2⟩:i.s.Rep i.p i.B∧BOk i.p i.B∧(0≤i.inst∧i.inst<i.B.length)∧1≤i.q∧i.q≤1000000:=h
 have hbl:=hR.bl
 have hcl:=jQ i.p
 have hbB:=hB.bl
 unfold z5x zIx dA
 refine(fun hT=>zT (fun c=>zT (fun c2=>Cv.cnd.mk (fun _=>zT (fun _=>Cv.cnd.mk (fun e=>absurd hq2 (by simpa using e)) (fun _=>hT)) (fun e=>absurd hq1 e)) (fun e1=>Cv.cnd.mk (fun _=>zT (fun _=>Cv.cnd.mk (fun e=>absurd hq2 (by simpa using e)) (fun _=>hT)) (fun e=>absurd hq1 e)) (fun e2=>by
  rcases hJ i.sd with e|e
  ·rw[e]at e1;cases e1
  ·rw[e]at e2;cases e2))) (fun c2=>absurd (by omega) c2)) (fun c=>absurd h0 c)) ?_
 refine⟨⟨i.s,i.B,[],i.q⟩,rfl,rfl,rfl,rfl,rfl,rfl,rfl,rfl,rfl,rfl,rfl,rfl,rfl,rfl,rfl,fun j=>j.s.Rep i.p j.B∧BOk i.p j.B∧j.B.length=i.B.length∧(0≤j.q∧j.q≤i.q)∧(j.steps.length:Int)≤i.q-j.q∧i.r=⟨j.steps++(qZ i.p j.B i.inst i.sd i.price j.q).steps,(qZ i.p j.B i.inst i.sd i.price j.q).left,(qZ i.p j.B i.inst i.sd i.price j.q).B⟩,fun j=>j.q.toNat,⟨hR,hB,rfl,⟨by dsimp only;omega,Int.le_refl _⟩,by dsimp only;simp,rfl⟩,?_⟩
 rintro⟨s,B,st,q⟩ ⟨r1,r2,r3,⟨r4,r4'⟩,r5,r6⟩
 dsimp only at r1 r2 r3 r4 r4' r5 r6 ⊢
 have hno (hn:q≤0∨wC i.p B i.inst i.sd i.price q=none):∃(o:MSt),i.r.left=q∧AObj.adt MSt (5:Nat) z7 o=AObj.adt MSt (5:Nat) z7 s∧List.map zY i.r.steps=List.map zY st∧o.Rep i.p i.r.B:=by
  rw[uN hn,List.append_nil]at r6
  rw[r6];exact⟨s,rfl,rfl,rfl,r1⟩
 refine zT (fun c=> ?_) (fun c=>hno (.inl (by omega)))
 have c:0<q:=c
 refine⟨i.sd,rfl,trivial,fun _ _=>⟨⟨s,i.p,B,i.inst,!i.sd⟩,rfl,rfl,rfl,⟨r1,r2,h0,by dsimp only;omega⟩,fun _ _=> ?_⟩⟩
 dsimp only
 have hni:=mD r2 r1.ords (inst:=i.inst) ⟨h0,by omega⟩ (hJ (!i.sd))
 have hsb:wC i.p B i.inst i.sd i.price q=(if((zM i.p B i.inst (zB (!i.sd))).2.2 && (vX i.sd i.price (zM i.p B i.inst (zB (!i.sd))).1.price && decide (1≤(zM i.p B i.inst (zB (!i.sd))).1.qty)))=true then
  if(zM i.p B i.inst (zB (!i.sd))).2.1=true then
   some (⟨(zM i.p B i.inst (zB (!i.sd))).1.price,min q (zM i.p B i.inst (zB (!i.sd))).1.qty,true,yG i.p B (zM i.p B i.inst (zB (!i.sd))).1.a.inst (zM i.p B i.inst (zB (!i.sd))).1.a.side (min q (zM i.p B i.inst (zB (!i.sd))).1.qty)++yG i.p (yS B (yG i.p B (zM i.p B i.inst (zB (!i.sd))).1.a.inst (zM i.p B i.inst (zB (!i.sd))).1.a.side (min q (zM i.p B i.inst (zB (!i.sd))).1.qty))) (zM i.p B i.inst (zB (!i.sd))).1.b.inst (zM i.p B i.inst (zB (!i.sd))).1.b.side (min q (zM i.p B i.inst (zB (!i.sd))).1.qty)⟩,yS (yS B (yG i.p B (zM i.p B i.inst (zB (!i.sd))).1.a.inst (zM i.p B i.inst (zB (!i.sd))).1.a.side (min q (zM i.p B i.inst (zB (!i.sd))).1.qty))) (yG i.p (yS B (yG i.p B (zM i.p B i.inst (zB (!i.sd))).1.a.inst (zM i.p B i.inst (zB (!i.sd))).1.a.side (min q (zM i.p B i.inst (zB (!i.sd))).1.qty))) (zM i.p B i.inst (zB (!i.sd))).1.b.inst (zM i.p B i.inst (zB (!i.sd))).1.b.side (min q (zM i.p B i.inst (zB (!i.sd))).1.qty)))
  else some (⟨(zM i.p B i.inst (zB (!i.sd))).1.price,min q (zM i.p B i.inst (zB (!i.sd))).1.qty,false,yG i.p B i.inst (zB (!i.sd)) (min q (zM i.p B i.inst (zB (!i.sd))).1.qty)⟩,yS B (yG i.p B i.inst (zB (!i.sd)) (min q (zM i.p B i.inst (zB (!i.sd))).1.qty)))else none):=rfl
 generalize zM i.p B i.inst (zB (!i.sd))=nb at hni hsb ⊢
 refine Cv.cnd.mk (fun n1=> ?_) (fun n1=>⟨⟨i.sd,i.price,nb.1.price⟩,rfl,rfl,rfl,trivial,fun _ _=>Cv.cnd.mk (fun n2=> ?_) (fun n2=> ?_)⟩)
 ·have n1:nb.2.2=false:=by simpa using n1
  rw[n1,if_neg (by simp)]at hsb
  exact hno (.inr hsb)
 ·have n2:vX i.sd i.price nb.1.price=false:=by simpa using n2
  rw[n2,if_neg (by simp)]at hsb
  exact hno (.inr hsb)
 have n1:nb.2.2=true:=by simpa using n1
 have n2:vX i.sd i.price nb.1.price=true:=by simpa using n2
 obtain⟨⟨b1,b2⟩,hi,hr⟩:=hni n1
 rw[n1,n2,decide_eq_true b1,if_pos (by rfl)]at hsb
 have hk:yM (min q nb.1.qty):=by constructor<;>omega
 have hsl:(st.length+1)*48≤70368744177664:=by omega
 have beh:∀(t:u7) (B':List (List zH)) (s':MSt),wC i.p B i.inst i.sd i.price q=some (t,B')→s'.Rep i.p B'→BOk i.p B'→B'.length=B.length→
  (s'.Rep i.p B'∧BOk i.p B'∧B'.length=i.B.length∧(0≤q-t.qty∧q-t.qty≤i.q)∧((st++[t]).length:Int)≤i.q-(q-t.qty)∧i.r=⟨(st++[t])++(qZ i.p B' i.inst i.sd i.price (q-t.qty)).steps,(qZ i.p B' i.inst i.sd i.price (q-t.qty)).left,(qZ i.p B' i.inst i.sd i.price (q-t.qty)).B⟩)∧(q-t.qty).toNat<q.toNat:=by
  intro t B' s' h1 h2 h3 h4
  have ht:=zKt (by omega) h1
  refine⟨⟨h2,h3,by omega,⟨by omega,by omega⟩,by rw[List.length_append,List.length_singleton];omega,?_⟩,by omega⟩
  rw[fL (by omega) h1]at r6
  rw[r6,List.append_assoc];rfl
 refine Cv.cnd.mk (fun n3=> ?_) (fun n3=> ?_)
 ·obtain⟨_,ok⟩:=hi n3
  rw[n3,if_pos rfl]at hsb
  have oka:=ok.a
  have okb:=ok.b
  rw[List.length_map]at oka okb
  have ea:=uR ok.sa
  have eb:=uR ok.sb
  refine⟨⟨s,i.p,B,nb.1.a.inst,decide (nb.1.a.side=2),min q nb.1.qty⟩,rfl,ea,rfl,rfl,⟨r1,r2,oka.1,oka.2,hk⟩,fun s1 hs1=> ?_⟩
  dsimp only at hs1 ⊢
  rw[ea]at hs1 ⊢
  have l1:=zAc (p:=i.p) r1.ords nb.1.a.inst nb.1.a.side (min q nb.1.qty)
  have hB1:=r2.takes (fs:=yG i.p B nb.1.a.inst nb.1.a.side (min q nb.1.qty))
  have l2:=zAc (p:=i.p) hs1.ords nb.1.b.inst nb.1.b.side (min q nb.1.qty)
  refine⟨trivial,by rw[List.length_map];omega,⟨s1,i.p,yS B (yG i.p B nb.1.a.inst nb.1.a.side (min q nb.1.qty)),nb.1.b.inst,decide (nb.1.b.side=2),min q nb.1.qty⟩,rfl,eb,rfl,rfl,⟨hs1,hB1,okb.1,by dsimp only;rw[qE];exact okb.2,hk⟩,fun s2 hs2=> ?_⟩
  dsimp only at hs2 ⊢
  rw[eb]at hs2 ⊢
  obtain⟨g1,g2⟩:=beh _ _ s2 hsb hs2 hB1.takes (by rw[qE,qE])
  refine⟨trivial,by rw[List.length_map,List.length_map];omega,by rw[List.length_map];exact hsl,⟨s2,_,st++[_],_⟩,?_,rfl,?_,g1,g2,by(repeat'(first|exact trivial|exact rfl|apply And.intro))⟩
  ·dsimp only;rw[w64 (by omega)]
  ·dsimp only
   rw[List.map_append,n3]
   simp[zY]
 ·rw[n3,if_neg (by decide)]at hsb
  refine⟨i.sd,rfl,trivial,fun _ _=>⟨rfl,⟨s,i.p,B,i.inst,!i.sd,min q nb.1.qty⟩,rfl,rfl,rfl,rfl,⟨r1,r2,h0,by dsimp only;omega,hk⟩,fun s1 hs1=> ?_⟩⟩
  dsimp only at hs1 ⊢
  obtain⟨g1,g2⟩:=beh _ _ s1 hsb hs1 r2.takes (by rw[qE])
  refine⟨by rw[List.length_map];exact hsl,⟨s1,_,st++[_],_⟩,?_,rfl,?_,g1,g2,by(repeat'(first|exact trivial|exact rfl|apply And.intro))⟩
  ·dsimp only;rw[w64 (by omega)]
  ·dsimp only
   rw[List.map_append,n3]
   simp[zY]
theorem run_ok:runC.ok Tryz.prog 14:=z8g (gokc zYe (gokc zPb (gokc zSq (gokc zVv gok0)))) yAn
open Go Cv Go.Proofs
structure Ask where
 kind:Int
 inst:Int
 side:Int
 id:Int
 price:Int
 qty:Int
 deriving DecidableEq
@[reducible] def Ask.cells (c:Ask):List V:=[zE c.kind,zE c.inst,zE c.side,zE c.id,zE c.price,zE c.qty]
@[reducible] def z8d (c:Ask):V:= .agg c.cells
def askE (c:Ask):List D:=[.v (.int .i64 c.kind),.v (.int .i64 c.inst),.v (.int .i64 c.side),.v (.int .i64 c.id),.v (.int .i64 c.price),.v (.int .i64 c.qty)]
def z7k:Ask:=⟨0,0,0,0,0,0⟩
@[reducible] def Ask.raw (c:Ask):Prop:=yM c.kind∧yM c.inst∧yM c.side∧yM c.id∧yM c.price∧yM c.qty
structure SmI where
 p:Prd
 x:Ask
 i:Int
def j3 (x:Ask):Int:=[1,1,1,2,3,3,4].getD (zD x.kind 0 6).toNat 0
def wZ (t:SmI):Ask:=⟨j3 t.x,zD t.x.inst 0 (t.p.count-1),1+zD t.x.side 0 1,if j3 t.x=1 then t.i else zD t.x.id 0 t.i,
 if(t.p.legs (zD t.x.inst 0 (t.p.count-1))).2.2=true then t.p.tick*(zD t.x.price 0 7-4)else t.p.tick*(zD t.x.price 0 7+8),1+zD t.x.qty 0 11⟩
def smallC:Con:=con1 SmI (fun t=>[prdV t.p,z8d t.x,zE t.i]) (fun _=>[]) (fun t=>t.p.check=0∧t.p.small∧t.x.raw∧0≤t.i∧t.i≤1000000) (fun t=>z8d (wZ t)) (fun _=>[])
def known16C:Con:=con1 Unit (fun _=>[]) (fun _=>[]) (fun _=>True) (fun _=>yN true) (fun _=>[])
open Go Cv Go.Proofs
def zJv (t:SmI):Prop:=
 ∃(i:Prd),sb i.code=sb t.p.code∧iE i.months=iE t.p.months∧i.tick=t.p.tick∧i.low=t.p.low∧i.high=t.p.high∧i.wide=t.p.wide∧i.rule=t.p.rule∧i.top=t.p.top∧i.least=t.p.least∧i.part=t.p.part∧iE i.settle=iE t.p.settle∧(i.code.length≤1099511627776∧i.months.length≤1099511627776∧i.settle.length≤1099511627776)∧∀(o:Unit),True→∃(i_1:WiI),i_1.n=t.x.kind∧i_1.lo=0∧i_1.hi=6∧(((-9223372036854775808)≤i_1.n∧i_1.n≤9223372036854775807)∧(-1000000)≤i_1.lo∧i_1.lo≤i_1.hi∧i_1.hi≤1000000)∧∀(o:Unit),True→(0≤zD i_1.n i_1.lo i_1.hi∧zD i_1.n i_1.lo i_1.hi<(↑(7:Nat):Int))∧∃(n:Int),zI [[D.v (.int .i64 1)],[D.v (.int .i64 1)],[D.v (.int .i64 1)],[D.v (.int .i64 2)],[D.v (.int .i64 3)],[D.v (.int .i64 3)],[D.v (.int .i64 4)]] (zD i_1.n i_1.lo i_1.hi).toNat 0 1=some [D.v (.int .i64 n)]∧∃(i_2:WiI),i_2.n=t.x.inst∧i_2.lo=0∧i_2.hi=IntKind.i64.wrap ((↑i.count:Int)-1)∧(((-9223372036854775808)≤i_2.n∧i_2.n≤9223372036854775807)∧(-1000000)≤i_2.lo∧i_2.lo≤i_2.hi∧i_2.hi≤1000000)∧∀(o:Unit),True→∃(i:WiI),i.n=t.x.side∧i.lo=0∧i.hi=1∧(((-9223372036854775808)≤i.n∧i.n≤9223372036854775807)∧(-1000000)≤i.lo∧i.lo≤i.hi∧i.hi≤1000000)∧∀(o:Unit),True→∃(i_3:WiI),i_3.n=t.x.qty∧i_3.lo=0∧i_3.hi=11∧(((-9223372036854775808)≤i_3.n∧i_3.n≤9223372036854775807)∧(-1000000)≤i_3.lo∧i_3.lo≤i_3.hi∧i_3.hi≤1000000)∧∀(o:Unit),True→∃(i_4:WiI),i_4.n=t.x.price∧i_4.lo=0∧i_4.hi=7∧(((-9223372036854775808)≤i_4.n∧i_4.n≤9223372036854775807)∧(-1000000)≤i_4.lo∧i_4.lo≤i_4.hi∧i_4.hi≤1000000)∧∀(o:Unit),True→∃(i_5:h9),sb i_5.p.code=sb t.p.code∧iE i_5.p.months=iE t.p.months∧i_5.p.tick=t.p.tick∧i_5.p.low=t.p.low∧i_5.p.high=t.p.high∧i_5.p.wide=t.p.wide∧i_5.p.rule=t.p.rule∧i_5.p.top=t.p.top∧i_5.p.least=t.p.least∧i_5.p.part=t.p.part∧iE i_5.p.settle=iE t.p.settle∧i_5.n=zD i_2.n i_2.lo i_2.hi∧(i_5.p.code.length≤1099511627776∧i_5.p.months.length≤1099511627776∧i_5.p.settle.length≤1099511627776)∧∀(o:Unit),True→cnd (i_5.p.legs i_5.n).snd.snd (cnd (n==1) (∃(o:Unit),j3 t.x=n∧zD t.x.inst 0 ((↑t.p.count:Int)-1)=zD i_2.n i_2.lo i_2.hi∧1+zD t.x.side 0 1=IntKind.i64.wrap (1+zD i.n i.lo i.hi)∧(if j3 t.x=1 then t.i else zD t.x.id 0 t.i)=t.i∧(if(t.p.legs (zD t.x.inst 0 ((↑t.p.count:Int)-1))).snd.snd=true then t.p.tick*(zD t.x.price 0 (7:Int)-(4:Int))else t.p.tick*(zD t.x.price 0 (7:Int)+(8:Int)))=IntKind.i64.wrap (t.p.tick*IntKind.i64.wrap (zD i_4.n i_4.lo i_4.hi-4))∧1+zD t.x.qty 0 11=IntKind.i64.wrap (1+zD i_3.n i_3.lo i_3.hi)∧True) (∃(i_6:WiI),i_6.n=t.x.id∧i_6.lo=0∧i_6.hi=t.i∧(((-9223372036854775808)≤i_6.n∧i_6.n≤9223372036854775807)∧(-1000000)≤i_6.lo∧i_6.lo≤i_6.hi∧i_6.hi≤1000000)∧∀(o:Unit),True→∃(o:Unit),j3 t.x=n∧zD t.x.inst 0 ((↑t.p.count:Int)-1)=zD i_2.n i_2.lo i_2.hi∧1+zD t.x.side 0 1=IntKind.i64.wrap (1+zD i.n i.lo i.hi)∧(if j3 t.x=1 then t.i else zD t.x.id 0 t.i)=zD i_6.n i_6.lo i_6.hi∧(if(t.p.legs (zD t.x.inst 0 ((↑t.p.count:Int)-1))).snd.snd=true then t.p.tick*(zD t.x.price 0 (7:Int)-(4:Int))else t.p.tick*(zD t.x.price 0 (7:Int)+(8:Int)))=IntKind.i64.wrap (t.p.tick*IntKind.i64.wrap (zD i_4.n i_4.lo i_4.hi-4))∧1+zD t.x.qty 0 11=IntKind.i64.wrap (1+zD i_3.n i_3.lo i_3.hi)∧True)) (cnd (n==1) (∃(o:Unit),j3 t.x=n∧zD t.x.inst 0 ((↑t.p.count:Int)-1)=zD i_2.n i_2.lo i_2.hi∧1+zD t.x.side 0 1=IntKind.i64.wrap (1+zD i.n i.lo i.hi)∧(if j3 t.x=1 then t.i else zD t.x.id 0 t.i)=t.i∧(if(t.p.legs (zD t.x.inst 0 ((↑t.p.count:Int)-1))).snd.snd=true then t.p.tick*(zD t.x.price 0 (7:Int)-(4:Int))else t.p.tick*(zD t.x.price 0 (7:Int)+(8:Int)))=IntKind.i64.wrap (t.p.tick*IntKind.i64.wrap (zD i_4.n i_4.lo i_4.hi+8))∧1+zD t.x.qty 0 11=IntKind.i64.wrap (1+zD i_3.n i_3.lo i_3.hi)∧True) (∃(i_6:WiI),i_6.n=t.x.id∧i_6.lo=0∧i_6.hi=t.i∧(((-9223372036854775808)≤i_6.n∧i_6.n≤9223372036854775807)∧(-1000000)≤i_6.lo∧i_6.lo≤i_6.hi∧i_6.hi≤1000000)∧∀(o:Unit),True→∃(o:Unit),j3 t.x=n∧zD t.x.inst 0 ((↑t.p.count:Int)-1)=zD i_2.n i_2.lo i_2.hi∧1+zD t.x.side 0 1=IntKind.i64.wrap (1+zD i.n i.lo i.hi)∧(if j3 t.x=1 then t.i else zD t.x.id 0 t.i)=zD i_6.n i_6.lo i_6.hi∧(if(t.p.legs (zD t.x.inst 0 ((↑t.p.count:Int)-1))).snd.snd=true then t.p.tick*(zD t.x.price 0 (7:Int)-(4:Int))else t.p.tick*(zD t.x.price 0 (7:Int)+(8:Int)))=IntKind.i64.wrap (t.p.tick*IntKind.i64.wrap (zD i_4.n i_4.lo i_4.hi+8))∧1+zD t.x.qty 0 11=IntKind.i64.wrap (1+zD i_3.n i_3.lo i_3.hi)∧True))
theorem zYl (hG:GOk Tryz.prog ([(26,r5countC),(13,withinC),(27,r5legsC)])) (h:∀(t:SmI),smallC.cnd t→zJv t):smallC.ok Tryz.prog 11:=okw mixed hG 0 (fun _=>[]) (fun _=>[]) [] Tryz.func11 h
def tF (u:Unit):Prop:=
 ∃(i:Int),i=1∧True∧∀(o:Unit),True→∃(i_1:Prd),sb i_1.code=sb [(67:UInt8),(76:UInt8)]∧iE i_1.months=iE [(320:Int),(321:Int),(323:Int)]∧i_1.tick=5∧i_1.low=0∧i_1.high=1000∧i_1.wide=200∧i_1.rule=i∧i_1.top=4∧i_1.least=2∧i_1.part=40∧iE i_1.settle=iE [(500:Int),(505:Int),(490:Int)]∧(i_1.code.length≤1099511627776∧i_1.months.length≤1099511627776∧i_1.settle.length≤1099511627776)∧(∀(o:Unit),i_1.check=0→∃(i:SaI),i.inst=0∧i.id=1∧zB i.sd=2∧i.price=10∧i.qty=5∧zJ i.s=zJ (gX i_1)∧((i.s.p.code.length≤1099511627776∧i.s.p.months.length≤1099511627776∧i.s.p.settle.length≤1099511627776)∧i.s.books.length≤1000000∧∀(b:Book),b∈i.s.books→(b.a.slots.length≤1000000∧(b.a.free≠0→∃(s:Slot),s∈b.a.slots∧s.used=false)∧∀(q:qG),q∈b.a.queues→q.last=(-1)∨0≤q.last∧q.last<(↑b.a.slots.length:Int))∧b.a.queues.length≤100000∧b.buys.length≤100000∧b.sells.length≤100000∧b.spare.length≤100000)∧∀(o:Unit),True→∃(i_2:RunI),i_2.inst=0∧zB i_2.sd=1∧i_2.price=15∧i_2.q=3∧zJ i_2.s=zJ (MSt.addF i).fst∧(i_2.s.Rep i_2.p i_2.B∧BOk i_2.p i_2.B∧(0≤i_2.inst∧i_2.inst<(↑i_2.B.length:Int))∧1≤i_2.q∧i_2.q≤1000000)∧∀(o:MSt),o.Rep i_2.p i_2.r.B→cnd ((MSt.addF i).snd==0) (cnd ((↑(List.map zY i_2.r.steps).length:Int)==1) (((0:Int)≤(0:Int)∧0<(↑(List.map zY i_2.r.steps).length:Int))∧∃(n:Int),zI (List.map zY i_2.r.steps) (Int.toNat 0) ((0:Nat)+(0:Nat)) 1=some [D.v (.int .i64 n)]∧cnd (n==10) (((0:Int)≤(0:Int)∧0<(↑(List.map zY i_2.r.steps).length:Int))∧∃(n:Int),zI (List.map zY i_2.r.steps) (Int.toNat 0) ((0:Nat)+(1:Nat)) 1=some [D.v (.int .i64 n)]∧cnd (n==3) (((0:Int)≤(0:Int)∧0<(↑(List.map zY i_2.r.steps).length:Int))∧∃(b:Bool),zI (List.map zY i_2.r.steps) (Int.toNat 0) ((0:Nat)+(2:Nat)) 1=some [D.v (.bool b)]∧cnd (!b) (((0:Int)≤(0:Int)∧0<(↑(List.map zY i_2.r.steps).length:Int))∧∃(els:List (List D)),zI (List.map zY i_2.r.steps) (Int.toNat 0) ((0:Nat)+(3:Nat)) 1=some [D.ro 6 els]∧cnd ((↑els.length:Int)==1) (((0:Int)≤(0:Int)∧0<(↑(List.map zY i_2.r.steps).length:Int))∧∃(els:List (List D)),zI (List.map zY i_2.r.steps) (Int.toNat 0) ((0:Nat)+(3:Nat)) 1=some [D.ro 6 els]∧((0:Int)≤(0:Int)∧0<(↑els.length:Int))∧∃(n:Int),zI els (Int.toNat 0) ((0:Nat)+(5:Nat)) 1=some [D.v (.int .i64 n)]∧cnd (n==2) (∃(o:Unit),true=(i_2.r.left==0)∧True) (∃(o:Unit),true=false∧True)) (∃(o:Unit),true=false∧True)) (∃(o:Unit),true=false∧True)) (∃(o:Unit),true=false∧True)) (∃(o:Unit),true=false∧True)) (∃(o:Unit),true=false∧True)) (∃(o:Unit),true=false∧True))∧∀(o:Unit),i_1.check≠0→∃(o:Unit),true=false∧True
theorem zPf (hG:GOk Tryz.prog ([(17,threeC),(9,newSC),(12,saddC),(14,runC)])) (h:∀(u:Unit),known16C.cnd u→tF u):known16C.ok Tryz.prog 15:=okw mixed hG 0 (fun _=>[]) (fun _=>[]) [] Tryz.func15 h
open Go Cv Go.Proofs
theorem aN {p:Prd} (hc:p.check=0):1≤p.count∧p.count≤21:=by
 have:=b7 hc
 have:=(qB hc).m2
 have:=jQ p
 omega
theorem z4y (t:SmI) (h:smallC.cnd t):zJv t:=by
 obtain⟨hc,hp,⟨x1,x2,x3,x4,x5,x6⟩,hi0,hi1⟩:t.p.check=0∧t.p.small∧t.x.raw∧0≤t.i∧t.i≤1000000:=h
 have hcb:=aN hc
 have t1:=(qB hc).t1
 have t2:=(qB hc).t2
 have w6:=yY (n:=t.x.kind) (lo:=0) (hi:=6) (by omega)
 have w1:=yY (n:=t.x.side) (lo:=0) (hi:=1) (by omega)
 have w11:=yY (n:=t.x.qty) (lo:=0) (hi:=11) (by omega)
 have w7:=yY (n:=t.x.price) (lo:=0) (hi:=7) (by omega)
 have hcw:IntKind.i64.wrap ((t.p.count:Int)-1)=t.p.count-1:=w64 (by omega)
 obtain⟨n,hn⟩:∃n,[1,1,1,2,3,3,4][(zD t.x.kind 0 6).toNat]? =some n:=z8 (l:=([1,1,1,2,3,3,4]:List Int)) (by simp;omega)
 have hk:j3 t.x=n:=zP hn
 have e7:∀a:Int,-4≤a∧a≤15→IntKind.i64.wrap (t.p.tick*IntKind.i64.wrap a)=t.p.tick*a:=by
  intro a ha
  rw[w64 (x:=a) (by omega)]
  have h1:t.p.tick*a≤1000*15:=by
   rcases Int.le_total 0 a with h0|h0
   ·exact Int.mul_le_mul t2 ha.2 h0 (by decide)
   ·have:t.p.tick*a≤0:=Int.mul_nonpos_of_nonneg_of_nonpos (by omega) h0
    omega
  have h2: -(1000*15)≤t.p.tick*a:=by
   rcases Int.le_total 0 a with h0|h0
   ·have:0≤t.p.tick*a:=Int.mul_nonneg (by omega) h0
    omega
   ·have:t.p.tick*(-a)≤1000*15:=Int.mul_le_mul t2 (by omega) (by omega) (by decide)
    rw[Int.mul_neg]at this
    omega
  exact w64 (by omega)
 unfold zJv
 refine⟨t.p,rfl,rfl,rfl,rfl,rfl,rfl,rfl,rfl,rfl,rfl,rfl,hp,fun _ _=>⟨⟨t.x.kind,0,6⟩,rfl,rfl,rfl,⟨x1,by dsimp only;omega,by dsimp only;omega,by dsimp only;omega⟩,fun _ _=>⟨⟨by dsimp only;omega,by dsimp only;omega⟩,n,elI (l:=[1,1,1,2,3,3,4]) hn,⟨t.x.inst,0,t.p.count-1⟩,rfl,rfl,hcw.symm,⟨x2,by dsimp only;omega,by dsimp only;omega,by dsimp only;omega⟩,fun _ _=>⟨⟨t.x.side,0,1⟩,rfl,rfl,rfl,⟨x3,by dsimp only;omega,by dsimp only;omega,by dsimp only;omega⟩,fun _ _=>⟨⟨t.x.qty,0,11⟩,rfl,rfl,rfl,⟨x6,by dsimp only;omega,by dsimp only;omega,by dsimp only;omega⟩,fun _ _=>⟨⟨t.x.price,0,7⟩,rfl,rfl,rfl,⟨x5,by dsimp only;omega,by dsimp only;omega,by dsimp only;omega⟩,fun _ _=>⟨⟨t.p,zD t.x.inst 0 (t.p.count-1)⟩,rfl,rfl,rfl,rfl,rfl,rfl,rfl,rfl,rfl,rfl,rfl,rfl,hp,fun _ _=> ?_⟩⟩⟩⟩⟩⟩⟩
 dsimp only
 rw[w64 (x:=1+zD t.x.side 0 1) (by omega),w64 (x:=1+zD t.x.qty 0 11) (by omega),e7 _ (by omega),e7 _ (by omega)]
 refine Cv.cnd.mk (fun c=>Cv.cnd.mk (fun d=> ?_) (fun d=> ?_)) (fun c=>Cv.cnd.mk (fun d=> ?_) (fun d=> ?_))
 ·have d:n=1:=by simpa using d
  exact⟨(),hk,rfl,rfl,by rw[hk,if_pos d],by rw[if_pos c],rfl,trivial⟩
 ·have d:¬n=1:=by simpa using d
  exact⟨⟨t.x.id,0,t.i⟩,rfl,rfl,rfl,⟨x4,by dsimp only;omega,hi0,hi1⟩,fun _ _=>⟨(),hk,rfl,rfl,by rw[hk,if_neg d],by rw[if_pos c],rfl,trivial⟩⟩
 ·have d:n=1:=by simpa using d
  exact⟨(),hk,rfl,rfl,by rw[hk,if_pos d],by rw[if_neg (by rw[c];simp)],rfl,trivial⟩
 ·have d:¬n=1:=by simpa using d
  exact⟨⟨t.x.id,0,t.i⟩,rfl,rfl,rfl,⟨x4,by dsimp only;omega,hi0,hi1⟩,fun _ _=>⟨(),hk,rfl,rfl,by rw[hk,if_neg d],by rw[if_neg (by rw[c];simp)],rfl,trivial⟩⟩
theorem small_ok:smallC.ok Tryz.prog 11:=zYl (gokc zJw (gokc lF (gokc zOh gok0))) z4y
theorem zUf {L:List zH} {s id p q:Int} {o:zH} (h:o∈zDu L s id p q):o.price=p∨∃o'∈L,o.price=o'.price:=by
 have key:∀X:List zH,(o∈X.takeWhile (before s p)++⟨id,s,p,q,j4 L s p⟩::X.dropWhile (before s p))→o.price=p∨o∈X:=by
  intro X hX
  rcases List.mem_append.1 hX with hX|hX
  ·exact .inr (List.takeWhile_sublist _|>.subset hX)
  ·rcases List.mem_cons.1 hX with rfl|hX
   ·exact .inl rfl
   ·exact .inr (List.dropWhile_sublist _|>.subset hX)
 rw[zDu]at h
 split at h
 ·rcases key _ h with h|h
  ·exact .inl h
  ·obtain⟨o',ho',_,_,e,_⟩:=zNg h
   exact .inr ⟨o',ho',e⟩
 ·rcases key _ h with h|h
  ·exact .inl h
  ·exact .inr ⟨o,h,rfl⟩
theorem BOk.add {p:Prd} {B:List (List zH)} (h:BOk p B) (inst id s price q:Int):BOk p (mQ p B inst id s price q).1:=by
 rw[mQ]
 split
 ·exact h
 split
 ·exact h
 split
 ·exact h
 split
 ·exact h
 rename_i c1 _ _ c4
 have c4:p.price inst price=0:=by simpa using c4
 refine⟨h.pc,h.ps,by simpa using h.bl,fun k L hL o ho=> ?_⟩
 dsimp only at hL
 rcases vC hL with⟨rfl,rfl⟩|⟨_,hL⟩
 ·obtain⟨L',hL'⟩:=z8 (l:=B) (i:=inst.toNat) (by omega)
  rw[zP hL',nZ]at ho
  have e:((inst.toNat:Nat):Int)=inst:=by omega
  repeat' split at ho
  ·exact h.pr _ L' hL' o ho
  ·exact h.pr _ L' hL' o ho
  ·exact h.pr _ L' hL' o ho
  ·rcases zUf ho with h1|⟨o',ho',h1⟩
   ·rw[h1,e];exact c4
   ·rw[h1];exact h.pr _ L' hL' o' ho'
 ·exact h.pr k L hL o ho
theorem BOk.new {p:Prd} (hc:p.check=0) (hp:p.small):BOk p (List.replicate p.count []):=by
 refine⟨hc,hp,by simp,fun k L hL o ho=> ?_⟩
 rw[List.eq_of_mem_replicate (List.mem_of_getElem? hL)]at ho
 cases ho
theorem MSt.Rep.fit {s:MSt} {p:Prd} {B:List (List zH)} (h:s.Rep p B) (hb:BOk p B):s.fit:=by
 have:=jQ p
 refine⟨by rw[h.ep];exact hb.ps,by rw[h.bl,hb.bl];omega,fun b hm=> ?_⟩
 obtain⟨k,hk⟩:=List.mem_iff_getElem?.1 hm
 have hlt:=(List.getElem?_eq_some_iff.1 hk).1
 rw[h.bl]at hlt
 obtain⟨L,hL⟩:=z8 hlt
 exact(h.bk k b L hk hL).fit
theorem zTb (u:Unit) (h:known16C.cnd u):tF u:=by
 have hc:(qW 1).check=0:=by decide+kernel
 have hp:(qW 1).small:=by refine⟨?_,?_,?_⟩<;>decide
 have hB0:=BOk.new hc hp
 have hR0:=eN (qW 1)
 have hadd:=hR0.add 0 1 true 10 5
 have hB1:=hB0.add 0 1 (zB true) 10 5
 have ha:(mQ (qW 1) (List.replicate (qW 1).count []) 0 1 (zB true) 10 5).2=0:=by decide+kernel
 have hl:(0:Int)<((mQ (qW 1) (List.replicate (qW 1).count []) 0 1 (zB true) 10 5).1.length:Int):=by decide+kernel
 have hr1:(qZ (qW 1) (mQ (qW 1) (List.replicate (qW 1).count []) 0 1 (zB true) 10 5).1 0 false 15 3).steps=[⟨10,3,false,[⟨1,0,2,10,3,2⟩]⟩]:=by decide+kernel
 have hr2:(qZ (qW 1) (mQ (qW 1) (List.replicate (qW 1).count []) 0 1 (zB true) 10 5).1 0 false 15 3).left=0:=by decide+kernel
 unfold tF
 refine⟨1,rfl,trivial,fun _ _=>⟨qW 1,rfl,rfl,rfl,rfl,rfl,rfl,rfl,rfl,rfl,rfl,rfl,hp,fun _ _=>⟨⟨gX (qW 1),0,1,true,10,5⟩,rfl,rfl,rfl,rfl,rfl,rfl,hR0.fit hB0,fun _ _=>⟨⟨(MSt.addF ⟨gX (qW 1),0,1,true,10,5⟩).1,qW 1,(mQ (qW 1) (List.replicate (qW 1).count []) 0 1 (zB true) 10 5).1,0,false,15,3⟩,rfl,rfl,rfl,rfl,rfl,⟨hadd.1,hB1,⟨by decide,hl⟩,by decide,by decide⟩,fun o ho=> ?_⟩⟩,fun _ hx=>absurd hc hx⟩⟩
 have e1:RunI.r ⟨(MSt.addF ⟨gX (qW 1),0,1,true,10,5⟩).1,qW 1,(mQ (qW 1) (List.replicate (qW 1).count []) 0 1 (zB true) 10 5).1,0,false,15,3⟩=qZ (qW 1) (mQ (qW 1) (List.replicate (qW 1).count []) 0 1 (zB true) 10 5).1 0 false 15 3:=rfl
 rw[e1,hr1,hr2,hadd.2,ha]
 refine Cv.cnd.mk (fun _=>Cv.cnd.mk (fun _=>⟨⟨by decide,by decide⟩,10,rfl,Cv.cnd.mk (fun _=>⟨⟨by decide,by decide⟩,3,rfl,Cv.cnd.mk (fun _=>⟨⟨by decide,by decide⟩,false,rfl,Cv.cnd.mk (fun _=>⟨⟨by decide,by decide⟩,_,rfl,Cv.cnd.mk (fun _=>⟨⟨by decide,by decide⟩,_,rfl,⟨by decide,by decide⟩,2,rfl,Cv.cnd.mk (fun _=>⟨(),rfl,trivial⟩) (fun e=>absurd e (by decide))⟩) (fun e=>absurd e (by decide))⟩) (fun e=>absurd e (by decide))⟩) (fun e=>absurd e (by decide))⟩) (fun e=>absurd e (by decide))⟩) (fun e=>absurd e (by decide))) (fun e=>absurd e (by decide))
theorem known16_ok:known16C.ok Tryz.prog 15:=zPf (gokc zTj (gokc newS_ok (gokc sadd_ok (gokc run_ok gok0)))) zTb
open Go Cv Go.Proofs
structure SoI where
 s:MSt
 p:Prd
 B:List (List zH)
 inst:Int
 sd:Bool
@[reducible] def SoI.ok (i:SoI):Prop:=i.s.Rep i.p i.B∧i.B.length≤1000
def atB (B:List (List zH)) (inst:Int):List zH:=if inst<0 then[]else B.getD inst.toNat []
open Go Cv Go.Proofs
structure MmI where
 x:Prd
 l:List Ask
 inst:Int
 side:Int
 price:Int
 qty:Int
@[reducible] def MmI.raw (i:MmI):Prop:=i.x.raw∧(∀c∈i.l,c.raw)∧i.l.length≤9223372036854775807∧yM i.inst∧yM i.side∧yM i.price∧yM i.qty
def MmI.p (i:MmI):Prd:=wW i.x
def MmI.ask (i:MmI) (j:Nat):Ask:=wZ ⟨i.p,i.l.getD j z7k,j⟩
def zBo (p:Prd) (B:List (List zH)) (y:Ask):List (List zH):=(mQ p B y.inst y.id y.side y.price y.qty).1
def noB (p:Prd):List (List zH):=List.replicate p.count []
def MmI.mon (i:MmI):Nat→List (List zH)
 |0=>noB i.p
 |j+1=>if(i.ask j).inst<i.p.months.length then zBo i.p (i.mon j) (i.ask j)else i.mon j
def MmI.n (i:MmI):Nat:=min i.l.length 40
def MmI.mi (i:MmI):Int:=zD i.inst 0 (i.p.months.length-1)
def MmI.last (i:MmI):Ask:=wZ ⟨i.p,⟨0,i.mi,i.side,0,i.price,i.qty⟩,0⟩
def MmI.msd (i:MmI):Int:=1+zD i.side 0 1
def MmI.mp (i:MmI):Int:=i.p.tick*(8+zD i.price 0 7)
def MmI.mq (i:MmI):Int:=5*(1+zD i.qty 0 11)
def MmI.run (i:MmI):z1p:=qZ i.p (i.mon i.n) i.mi (decide (i.msd=2)) i.mp i.mq
def MmI.lad (i:MmI):List Lv:=qY (atB (i.mon i.n) i.mi) (3-i.msd)
def yBj (t:Nat):SAnn:={ι:=Prd,slots:=fun _=>[(t,.nm 0 0)],rows:=fun p=>[.cells [sV p.code,.own 1,zE p.tick,zE p.low,zE p.high,zE p.wide,zE p.rule,zE p.top,zE p.least,zE p.part,.own 2] 25,.fro 1 (iE p.months),.fro 1 (iE p.settle)]}
def z9i (t:Nat):SAnn:={ι:=Ask,slots:=fun _=>[(t,.nm 0 0)],rows:=fun y=>[.cells y.cells 34]}
def yBa (t:Nat):SAnn:={ι:=Ask,slots:=fun _=>[(t,.nm 0 0)],rows:=fun y=>[.cells y.cells 34],slots0:=fun _=>[(t,.nm 0 0)],rows0:=fun y=>[.cells y.cells 34]}
open Go Cv Go.Proofs
open Go Cv Go.Proofs
open Go Cv Go.Proofs
open Go Cv Go.Proofs
def nW (s:Int) (F:List zH):Prop:=F.Pairwise fun o o'=>btr s o'.price o.price=false
def jT (L:List zH) (s:Int):List zH:=L.filter fun o=>decide (o.side=s)
structure BWf (p:Prd) (B:List (List zH)):Prop where
 ok:BOk p B
 od:zRf B
 ub:((whL 0 B).map (·.1)).Nodup
 srt:∀(k:Nat) (L:List zH),B[k]? =some L→∀s,s=1∨s=2→nW s (jT L s)
theorem zTp {s x y:Int} (h:btr s y x=false) (h2:btr s x y=false):x=y:=by
 rw[btr]at h h2
 split at h
 ·rename_i e;rw[if_pos e]at h2;have:=of_decide_eq_false h;have:=of_decide_eq_false h2;omega
 ·rename_i e;rw[if_neg e]at h2;have:=of_decide_eq_false h;have:=of_decide_eq_false h2;omega
theorem zFo {s:Int} {b:Book} {Q:List (List Nat)}:∀{R:List y7},(R.Pairwise fun r r'=>btr s r.price r'.price=true)→nW s (R.flatMap (b.rOrds Q s))
 |[],_=>List.Pairwise.nil
 |r::R,h=>by
  rw[List.pairwise_cons]at h
  rw[List.flatMap_cons,nW,List.pairwise_append]
  refine⟨List.pairwise_of_forall_mem_list fun o ho o' ho'=> ?_,zFo h.2,fun o ho o' ho'=> ?_⟩
  ·rw[(xJ ho).2,(xJ ho').2];exact gN _ _
  ·obtain⟨r',hr',ho'⟩:=List.mem_flatMap.1 ho'
   rw[(xJ ho).2,(xJ ho').2];exact zFv (h.1 r' hr')
theorem Book.Rep.srt {b:Book} {L:List zH} (h:b.Rep L) {s:Int} (hs:s=1∨s=2):nW s (jT L s):=by
 obtain⟨Q,c,ht,rfl⟩:=h
 rw[jT,zAq hs]
 exact zFo (c.srt s hs)
theorem MSt.Rep.wf {s:MSt} {p:Prd} {B:List (List zH)} (h:s.Rep p B) (hb:BOk p B):BWf p B:=by
 refine⟨hb,h.ords,h.ids,fun k L hL=> ?_⟩
 obtain⟨b,hb⟩:=z8 (l:=s.books) (i:=k) (by rw[h.bl];exact(List.getElem?_eq_some_iff.1 hL).1)
 exact fun s hs=>(h.bk k b L hb hL).srt hs
theorem zRs {L:List zH} (h:∀o∈L,lX o) (hn:(L.map (·.id)).Nodup) (id q:Int):∀o∈(yZ L id q).1,lX o:=by
 intro o ho
 rw[yZ]at ho
 split at ho
 ·exact h o ho
 split at ho
 ·exact h o ho
 rename_i hb
 obtain⟨o',ho',e⟩:=List.mem_filterMap.1 ho
 have h0:=h o' ho'
 split at e
 ·rename_i e1
  have hg:=wS hn ho'
  rw[e1]at hg
  rw[hg]at hb
  split at e
  ·cases e
  ·rename_i e2
   cases e
   have:=h0.q
   exact⟨h0.s,by dsimp only;omega⟩
 ·cases e;exact h0
theorem zVa (L:List zH) (id q:Int):(yZ L id q).1.length≤L.length:=by
 rw[yZ]
 split
 ·exact Nat.le_refl _
 split
 ·exact Nat.le_refl _
 exact List.length_filterMap_le _ _
theorem zSh {L:List zH} {s:Int} (h:nW s (jT L s)) (id q:Int):nW s (jT (yZ L id q).1 s):=by
 rw[yZ]
 split
 ·exact h
 split
 ·exact h
 have e:jT (yK L id q) s=yK (jT L s) id q:=by
  rw[jT,jT,yK,yK,List.filter_filterMap,List.filterMap_filter]
  refine kY fun o _=> ?_
  by_cases e1:o.id=id
  ·rw[if_pos e1]
   by_cases e2:o.qty=q
   ·rw[if_pos e2];simp
   ·rw[if_neg e2];by_cases e3:o.side=s<;>simp[Option.filter,e3]
  ·rw[if_neg e1];by_cases e3:o.side=s<;>simp[Option.filter,e3]
 rw[e,yK]
 refine List.Pairwise.filterMap _ (fun a a' haa b hb b' hb'=> ?_) h
 have g:∀{a b:zH},(if a.id=id then(if a.qty=q then none else some {a with qty:=a.qty-q})else some a)=some b→b.price=a.price:=by
  intro a b e
  split at e
  ·split at e
   ·cases e
   ·cases e;rfl
  ·cases e;rfl
 rw[g hb,g hb'];exact haa
theorem zYr {B:List (List zH)} (h:((whL 0 B).map (·.1)).Nodup) {k:Nat} {L L':List zH} (hL:B[k]? =some L) (hs:(L'.map (·.id)).Sublist (L.map (·.id))):((whL 0 (B.set k L')).map (·.1)).Nodup:=by
 have hk:=(List.getElem?_eq_some_iff.1 hL).1
 obtain⟨rest,hr⟩:=pI (B:=B) 0 k hk
 have h0:=hr L
 rw[kM hL]at h0
 have h1:=(h0.map (·.1)).nodup_iff.1 h
 refine((hr L').map (·.1)).nodup_iff.2 ?_
 rw[List.map_append,List.map_map]at h1 ⊢
 exact h1.sublist (List.Sublist.append hs (List.Sublist.refl _))
theorem BWf.take {p:Prd} {B:List (List zH)} (h:BWf p B) (id q:Int):BWf p (xN B id q).1:=by
 refine⟨h.ok.take id q,?_,?_,?_⟩
 all_goals
  rw[xN]
  cases hi:vY B id with
  |none=>first|exact h.od|exact h.ub|exact h.srt
  |some k=>
   obtain⟨L,hL,hh⟩:=kZ hi
   have ho:=h.od k L hL
   dsimp only
   rw[zP hL]
   first
   |(intro j M hM
     rcases vC hM with⟨rfl,rfl⟩|⟨_,hM⟩
     ·refine⟨zRs ho.1 ho.2.1 id q,?_,Nat.le_trans (zVa L id q) ho.2.2⟩
      rcases r9 ho.2.1 id q with⟨e,_⟩|⟨e,_⟩
      ·rw[e];exact ho.2.1
      ·rw[e];exact ho.2.1.sublist (List.Sublist.map _ List.filter_sublist)
     ·exact h.od j M hM)
   |(refine zYr h.ub hL ?_
     rcases r9 ho.2.1 id q with⟨e,_⟩|⟨e,_⟩
     ·rw[e];exact List.Sublist.refl _
     ·rw[e];exact List.Sublist.map _ List.filter_sublist)
   |(intro j M hM s hs
     rcases vC hM with⟨rfl,rfl⟩|⟨_,hM⟩
     ·exact zSh (h.srt _ L hL s hs) id q
     ·exact h.srt j M hM s hs)
theorem BWf.takes {p:Prd}:∀{fs:List kU} {B:List (List zH)},BWf p B→BWf p (yS B fs)
 |[],B,h=>h
 |f::fs,B,h=>BWf.takes (fs:=fs) (h.take f.id f.qty)
theorem BWf.inst {p:Prd} {B:List (List zH)} (h:BWf p B) {k:Nat} {L:List zH} (hL:B[k]? =some L) {id:Int} (hid:id∈L.map (·.id)):vY B id=some k:=by
 cases hi:vY B id with
 |none=>
  have:=sZ hi L (List.mem_of_getElem? hL)
  rw[hasId_iff.2 hid]at this;cases this
 |some j=>
  obtain⟨M,hM,hh⟩:=kZ hi
  rw[zVu h.ub hM hL (hasId_iff.1 hh) hid]
theorem mT {s:Int} {F:List zH} (hs:nW s F) {v:Lv} {vs:List Lv} (h:grp F=v::vs):
 v=e8 v.price (F.filter fun o=>decide (o.price=v.price))∧vs=grp (F.filter fun o=> !decide (o.price=v.price))∧∀o∈F,btr s o.price v.price=false:=by
 obtain⟨o,r,rfl,he⟩:=bT h
 rw[nW,List.pairwise_cons]at hs
 have key:∀(r:List zH),(∀x∈r,btr s x.price o.price=false)→nW s r→r=r.filter (fun x=>decide (x.price=o.price))++r.filter fun x=> !decide (x.price=o.price):=by
  intro r
  induction r with
  |nil=>intro _ _;rfl
  |cons x r ih=>
   intro h1 h2
   rw[nW,List.pairwise_cons]at h2
   by_cases e:x.price=o.price
   ·rw[List.filter_cons_of_pos (by simpa using e),List.filter_cons_of_neg (by simpa using e),List.cons_append,← ih (fun y hy=>h1 y (List.mem_cons_of_mem _ hy)) h2.2]
   ·have h3:∀y∈r,¬y.price=o.price:=by
     intro y hy e2
     have a:=h2.1 y hy
     have b:=h1 x List.mem_cons_self
     rw[e2]at a
     exact e (zTp a b)
    rw[List.filter_cons_of_neg (by simpa using e),List.filter_cons_of_pos (by simpa using e)]
    have e1:r.filter (fun x=>decide (x.price=o.price))=[]:=by
     rw[List.filter_eq_nil_iff];intro y hy;simpa using h3 y hy
    have e2:r.filter (fun x=> !decide (x.price=o.price))=r:=by
     rw[List.filter_eq_self];intro y hy;simpa using h3 y hy
    rw[e1,e2,List.nil_append]
 have hk:=key r hs.1 hs.2
 rw[← he]
 have hf1:(o::r).filter (fun x=>decide (x.price=o.price))=o::r.filter fun x=>decide (x.price=o.price):=List.filter_cons_of_pos (by simp)
 have hf2:(o::r).filter (fun x=> !decide (x.price=o.price))=r.filter fun x=> !decide (x.price=o.price):=List.filter_cons_of_neg (by simp)
 rw[hf1,hf2]
 have hg:grp (o::r)=e8 o.price (o::r.filter fun x=>decide (x.price=o.price))::grp (r.filter fun x=> !decide (x.price=o.price)):=by
  conv=>lhs;rw[hk]
  refine zDn (l:=o::r.filter fun x=>decide (x.price=o.price)) (by simp) (fun x hx=> ?_) (fun x y e=> ?_)
  ·rcases List.mem_cons.1 hx with rfl|hx
   ·rfl
   ·simpa using(List.mem_filter.1 hx).2
  ·have:x∈r.filter fun x=> !decide (x.price=o.price):=by rw[e];exact List.mem_cons_self
   simpa using(List.mem_filter.1 this).2
 rw[h]at hg
 cases hg
 refine⟨rfl,rfl,fun x hx=> ?_⟩
 rcases List.mem_cons.1 hx with rfl|hx
 ·exact gN _ _
 ·exact hs.1 x hx
theorem zWw (L:List zH) (s p:Int):atL L s p=(jT L s).filter fun o=>decide (o.price=p):=by
 rw[atL,jT,List.filter_filter]
 refine List.filter_congr fun o _=> ?_
 exact Bool.and_comm _ _
open Go Cv Go.Proofs
open Go Cv Go.Proofs
theorem z9x {l:List Ask} {k:Nat} {c:Ask} (h:l[k]? =some c):zI (l.map askE) k 0 6=some [D.v (.int .i64 c.kind),.v (.int .i64 c.inst),.v (.int .i64 c.side),.v (.int .i64 c.id),.v (.int .i64 c.price),.v (.int .i64 c.qty)]:=elA h (by simp[askE]) rfl
theorem eA (t:SmI):(wZ t).side=1∨(wZ t).side=2:=by
 have:=yY (n:=t.x.side) (lo:=0) (hi:=1) (by omega)
 show 1+zD t.x.side 0 1=1∨1+zD t.x.side 0 1=2
 omega
theorem BOk.ask {p:Prd} {B:List (List zH)} (h:BOk p B) (y:Ask):BOk p (zBo p B y):=h.add _ _ _ _ _
theorem MSt.Rep.ask {s:MSt} {p:Prd} {B:List (List zH)} (h:s.Rep p B) {y:Ask} (hs:y.side=1∨y.side=2):(MSt.addF ⟨s,y.inst,y.id,decide (y.side=2),y.price,y.qty⟩).1.Rep p (zBo p B y):=by
 have:=(h.add y.inst y.id (decide (y.side=2)) y.price y.qty).1
 rw[uR hs]at this
 exact this
open Go Cv Go.Proofs
def MmI.fst (i:MmI):Nat→List (List zH)
 |0=>noB i.p
 |j+1=>zBo i.p (i.fst j) (i.ask j)
def MmI.fl (i:MmI):Ask:=wZ ⟨i.p,⟨0,i.inst,i.side,0,i.price,i.qty⟩,0⟩
def MmI.fB (i:MmI):List (List zH):=i.fst i.n
open Go Cv Go.Proofs
def Two (L:List zH):Prop:=L=jT L 1++jT L 2
open Go Cv Go.Proofs
open Go Cv Go.Proofs
end Sx
