/- Texts of ours, one behind the other: a walk that the kernel reckons, and contracts of functions. No condition. -/
import Derived.Test.YthkofaanekmpmaaGreatZ7
namespace Sx
set_option linter.unusedVariables false
set_option maxRecDepth 100000
open Go Cv Go.Proofs
def zCb (a:Nat→Prop) (b:Nat) (c:Nat→Nat) (d:Nat) (e:BkL) (f:ArN):Prop:=a b∧c b<c d∧Sx.AObj.cells (jZ (jA 0 1 6) [V.nm 1 0,V.own 2,V.own 3,V.mp 4,zA e.b.top1,zA e.b.top2,V.own 5,z7 e.b.has1,z7 e.b.has2]) (299:TypeId)=Sx.AObj.cells (jZ (jA 0 1 6) [V.nm 1 0,V.own 2,V.own 3,V.mp 4,zA e.b.top1,zA e.b.top2,V.own 5,z7 e.b.has1,z7 e.b.has2]) (299:TypeId)∧AObj.adt Arena 3 zG f.a=AObj.adt Arena 3 zG e.b.a∧AObj.own 304 2 (List.map zB e.b.buys)=AObj.own 304 2 (List.map zB e.b.buys)∧AObj.own 304 2 (List.map zB e.b.sells)=AObj.own 304 2 (List.map zB e.b.sells)∧Sx.AObj.map (atE e.b.at_)=Sx.AObj.map (atE e.b.at_)∧AObj.own 3 1 (iE e.b.spare)=AObj.own 3 1 (iE e.b.spare)
def cK (a:Nat) (b:BkL):=(List.take a (uR b.L (zD false)))
def yKl (i:BkL):Prop:=
 ∃(a:Int),a=zD false∧True∧∀(b:Unit),True→cnd (qL a) (∃(c:Unit),i.b.top1=i.b.top1∧i.b.top2=i.b.top2∧i.b.has1=i.b.has1∧i.b.has2=i.b.has2∧AObj.adt Arena 3 zG i.b.a=AObj.adt Arena 3 zG i.b.a∧List.map zB i.b.buys=List.map zB i.b.buys∧List.map zB i.b.sells=List.map zB i.b.sells∧atE i.b.at_=atE i.b.at_∧iE i.b.spare=iE i.b.spare∧List.map lvE (uR i.L (zD false))=[]∧True) (∃(c:Nat),(↑c:Int)=0∧List.map lvE (cK c i)=[]∧∃(d:Nat→Prop),∃(e:Nat→Nat),d c∧∀(f:Nat),d f→cnd (decide ((↑f:Int)<(↑(List.map zB i.b.buys).length:Int))) ((0≤(↑f:Int)∧(↑f:Int)<(↑(List.map zB i.b.buys).length:Int))∧∃(g:Int),∃(h:Int),zE (List.map zB i.b.buys) (↑f:Int).toNat 0 2=some [dI g,dI h]∧∃(j:ArN),j.n=h∧AObj.adt Arena 3 zG j.a=AObj.adt Arena 3 zG i.b.a∧True∧∀(k:Unit),True→h=h∧True∧g=g∧∃(l:ArN),l.n=h∧AObj.adt Arena 3 zG l.a=AObj.adt Arena 3 zG j.a∧True∧∀(m:Unit),True→g=g∧((List.map lvE (cK f i)).length+1)*(24:Nat)≤(140737488355328:Nat)∧∃(n:Nat),(↑n:Int)=IntKind.i64.wrap ((↑f:Int)+1)∧List.map lvE (cK n i)=List.map lvE (cK f i)++[[dI g,dI ((j.a.qAt j.n).total),dI ((l.a.qAt l.n).count)]]∧zCb d n e f i l) (∃(g:Unit),i.b.top1=i.b.top1∧i.b.top2=i.b.top2∧i.b.has1=i.b.has1∧i.b.has2=i.b.has2∧AObj.adt Arena 3 zG i.b.a=AObj.adt Arena 3 zG i.b.a∧List.map zB i.b.buys=List.map zB i.b.buys∧List.map zB i.b.sells=List.map zB i.b.sells∧atE i.b.at_=atE i.b.at_∧iE i.b.spare=iE i.b.spare∧List.map lvE (uR i.L (zD false))=List.map lvE (cK f i)∧True))
def cO (a:Nat) (b:BkL):=(List.take a (uR b.L (zD true)))
def yKt (i:BkL):Prop:=
 ∃(a:Int),a=zD true∧True∧∀(b:Unit),True→cnd (qL a) (∃(c:Unit),i.b.top1=i.b.top1∧i.b.top2=i.b.top2∧i.b.has1=i.b.has1∧i.b.has2=i.b.has2∧AObj.adt Arena 3 zG i.b.a=AObj.adt Arena 3 zG i.b.a∧List.map zB i.b.buys=List.map zB i.b.buys∧List.map zB i.b.sells=List.map zB i.b.sells∧atE i.b.at_=atE i.b.at_∧iE i.b.spare=iE i.b.spare∧List.map lvE (uR i.L (zD true))=[]∧True) (∃(c:Nat),(↑c:Int)=0∧List.map lvE (cO c i)=[]∧∃(d:Nat→Prop),∃(e:Nat→Nat),d c∧∀(f:Nat),d f→cnd (decide ((↑f:Int)<(↑(List.map zB i.b.sells).length:Int))) ((0≤(↑f:Int)∧(↑f:Int)<(↑(List.map zB i.b.sells).length:Int))∧∃(g:Int),∃(h:Int),zE (List.map zB i.b.sells) (↑f:Int).toNat 0 2=some [dI g,dI h]∧∃(j:ArN),j.n=h∧AObj.adt Arena 3 zG j.a=AObj.adt Arena 3 zG i.b.a∧True∧∀(k:Unit),True→h=h∧True∧g=g∧∃(l:ArN),l.n=h∧AObj.adt Arena 3 zG l.a=AObj.adt Arena 3 zG j.a∧True∧∀(m:Unit),True→g=g∧((List.map lvE (cO f i)).length+1)*(24:Nat)≤(140737488355328:Nat)∧∃(n:Nat),(↑n:Int)=IntKind.i64.wrap ((↑f:Int)+1)∧List.map lvE (cO n i)=List.map lvE (cO f i)++[[dI g,dI ((j.a.qAt j.n).total),dI ((l.a.qAt l.n).count)]]∧zCb d n e f i l) (∃(g:Unit),i.b.top1=i.b.top1∧i.b.top2=i.b.top2∧i.b.has1=i.b.has1∧i.b.has2=i.b.has2∧AObj.adt Arena 3 zG i.b.a=AObj.adt Arena 3 zG i.b.a∧List.map zB i.b.buys=List.map zB i.b.buys∧List.map zB i.b.sells=List.map zB i.b.sells∧atE i.b.at_=atE i.b.at_∧iE i.b.spare=iE i.b.spare∧List.map lvE (uR i.L (zD true))=List.map lvE (cO f i)∧True))
def rD (a:Nat×Top→Prop) (b:Nat×Top) (c:MSt) (d:Nat) (e:Book):Prop:=a b∧AObj.own 3 1 [[dI 1],[dI 2]]=AObj.own 3 1 [[dI 1],[dI 2]]∧xJ c 0=xJ c 0∧AObj.objs 241 Book 6 zS (c.books.set (↑d:Int).toNat e) none=xJ c 1∧xJ c 2=xJ c 2∧xJ c 3=xJ c 3∧xJ c 4=xJ c 4
def zAy (a:MSt) (b:Nat×Top) (c:Nat×Top→Prop) (d:Nat) (e:Book):Prop:=∃(f:Nat×Top),List.map zZ (xL a f.fst f.snd)=List.map zZ (xL a b.fst b.snd)∧rD c f a d e
def yBd (s:MSt):Prop:=
 (tU s)∧∃(a:Nat),(↑a:Int)=0∧List.map zZ (xR s a)=List.replicate (↑s.books.length:Int).toNat [D.v (.bool false),D.v (.bool false),dI 0,dI 0,dI 0,dI 0]∧∃(b:Nat→Prop),∃(c:Nat→Nat),b a∧∀(d:Nat),b d→cnd (decide ((↑d:Int)<(↑s.books.length:Int))) ((0≤(↑d:Int)∧(↑d:Int)<(↑s.books.length:Int))∧(↑d:Int).toNat<s.books.length∧∃(e:Nat×Top),List.map zZ (xL s e.fst e.snd)=List.map zZ (xR s d)∧∃(f:Nat×Top→Prop),(((0:Int)≤(0:Int)∧0<(↑(2:Nat):Int))∧∃(g:Int),zE [[dI 1],[dI 2]] (Int.toNat 0) 0 1=some [dI g]∧∃(h:Book),s.books[(↑d:Int).toNat]?=some h∧∃(j:BkS),zD j.side=g∧z8 j.b=z8 h∧(wT j)∧∀(k:Unit),True→∃(l:Book),z8 j.b=z8 l∧(↑d:Int).toNat=(↑d:Int).toNat∧(↑d:Int).toNat<s.books.length∧cnd (zV j).snd ((qI d s e)∧(qI d s e)∧(qI d s e)∧(↑d:Int).toNat<(vQ s e).length∧(cT d s e)∧(cT d s e)∧(zV j).fst.qty=(zV j).fst.qty∧(zV j).fst.price=(zV j).fst.price∧(↑d:Int).toNat<(cL s e d).length∧(tM d s e j)∧(zV j).fst.qty=(zV j).fst.qty∧(↑d:Int).toNat<(fX s e d j).length∧∃(m:Nat×Top),List.map zZ (xL s m.fst m.snd)=zH (fX s e d j) (↑d:Int).toNat ((0:Nat)+(4:Nat)+nat_lit 0*1) [dI (v7 j)]∧rD f m s d l) (zAy s e f d l))∧∀(g:Nat×Top),f g→∃(h:Nat×Top),List.map zZ (xL s h.fst h.snd)=List.map zZ (xL s g.fst g.snd)∧∃(j:Nat×Top→Prop),((gM)∧∃(k:Int),zE [[dI 1],[dI 2]] (IntKind.i64.wrap ((0:Int)+(1:Int))).toNat 0 1=some [dI k]∧∃(l:Book),s.books[(↑d:Int).toNat]?=some l∧∃(m:BkS),zD m.side=k∧z8 m.b=z8 l∧(wT m)∧∀(n:Unit),True→∃(p:Book),z8 m.b=z8 p∧(↑d:Int).toNat=(↑d:Int).toNat∧(↑d:Int).toNat<s.books.length∧cnd (zV m).snd ((qI d s h)∧(qI d s h)∧(qI d s h)∧(↑d:Int).toNat<(vQ s h).length∧(cI d s h)∧(cI d s h)∧(zV m).fst.qty=(zV m).fst.qty∧(zV m).fst.price=(zV m).fst.price∧(↑d:Int).toNat<(cQ s h d).length∧(eK d s h m)∧(zV m).fst.qty=(zV m).fst.qty∧(↑d:Int).toNat<(fT s h d m).length∧∃(q:Nat×Top),List.map zZ (xL s q.fst q.snd)=zH (fT s h d m) (↑d:Int).toNat ((0:Nat)+(4:Nat)+(nat_lit 0+nat_lit 1) % Vtopst403.natAbs*1) [dI (v7 m)]∧rD j q s d p) (zAy s h j d p))∧∀(k:Nat×Top),j k→∃(l:Nat),(↑l:Int)=IntKind.i64.wrap ((↑d:Int)+1)∧List.map zZ (xR s l)=List.map zZ (xL s k.fst k.snd)∧b l∧c l<c d∧xJ s 0=xJ s 0∧xJ s 1=xJ s 1∧xJ s 2=xJ s 2∧xJ s 3=xJ s 3∧xJ s 4=xJ s 4) (∃(e:Unit),sb s.p.code=sb s.p.code∧s.p.tick=s.p.tick∧s.p.low=s.p.low∧s.p.high=s.p.high∧s.p.wide=s.p.wide∧s.p.rule=s.p.rule∧s.p.top=s.p.top∧s.p.least=s.p.least∧s.p.part=s.p.part∧AObj.objs 241 Book 6 zS s.books none=xJ s 1∧yU s.wh=yU s.wh∧AObj.fro 1 (iE s.p.months)=xJ s 3∧AObj.fro 1 (iE s.p.settle)=xJ s 4∧List.map zZ s.tops=List.map zZ (xR s d)∧True)
def zAl (a:MSt) (b:StI):Prop:=AObj.fro 1 (iE a.p.months)=AObj.fro 1 (iE b.s.p.months)∧AObj.fro 1 (iE a.p.settle)=AObj.fro 1 (iE b.s.p.settle)∧a.Rep b.p (qV b.B b.id b.q).fst
def zAe (a:MSt) (b:StI):Prop:=yU a.wh=yU b.s.wh∧zAl a b
def nF (a:StI) (b:Int) (c:Bool):Prop:=vX (Value.int IntKind.i64 a.id) (yU a.s.wh)=some [dI b]∧c=true∨vX (Value.int IntKind.i64 a.id) (yU a.s.wh)=none∧[dI b]=[dI 0]∧c=false
def cX (a:StI):Prop:=∀(b:Value×List D),b∈yU a.s.wh→like (Value.int IntKind.i64 a.id) b.fst=true
def yBj (i:StI):Prop:=
 (cX i)∧∃(a:Bool),∃(b:Int),(nF i b a)∧cnd (!a) (∃(c:MSt),(qV i.B i.id i.q).snd=26∧sb c.p.code=sb i.s.p.code∧c.p.tick=i.s.p.tick∧c.p.low=i.s.p.low∧c.p.high=i.s.p.high∧c.p.wide=i.s.p.wide∧c.p.rule=i.s.p.rule∧c.p.top=i.s.p.top∧c.p.least=i.s.p.least∧c.p.part=i.s.p.part∧AObj.objs 241 Book 6 zS c.books none=AObj.objs 241 Book 6 zS i.s.books none∧zAe c i) ((0≤b∧b<(↑i.s.books.length:Int))∧b.toNat<i.s.books.length∧∃(c:Book),i.s.books[b.toNat]?=some c∧∃(d:FlI),d.id=i.id∧d.qty=i.q∧z8 d.b=z8 c∧d.b.Rep d.L∧∀(e:Book),e.Rep (xS d.L d.id d.qty).fst→∃(f:Book),z8 e=z8 f∧b.toNat=b.toNat∧b.toNat<i.s.books.length∧(0≤b∧b<(↑(i.s.books.set b.toNat f).length:Int))∧b.toNat<(i.s.books.set b.toNat f).length∧∃(g:Book),(i.s.books.set b.toNat f)[b.toNat]?=some g∧∃(h:FlI),h.id=i.id∧z8 h.b=z8 g∧h.b.Rep h.L∧∀(j:Unit),True→∃(k:Book),z8 h.b=z8 k∧b.toNat=b.toNat∧b.toNat<(i.s.books.set b.toNat f).length∧cnd (!wB h.L h.id) ((cX i)∧∃(l:MSt),(qV i.B i.id i.q).snd=(xS d.L d.id d.qty).snd∧sb l.p.code=sb i.s.p.code∧l.p.tick=i.s.p.tick∧l.p.low=i.s.p.low∧l.p.high=i.s.p.high∧l.p.wide=i.s.p.wide∧l.p.rule=i.s.p.rule∧l.p.top=i.s.p.top∧l.p.least=i.s.p.least∧l.p.part=i.s.p.part∧AObj.objs 241 Book 6 zS l.books none=AObj.objs 241 Book 6 zS ((i.s.books.set b.toNat f).set b.toNat k) none∧yU l.wh=lG (Value.int IntKind.i64 i.id) (yU i.s.wh)∧zAl l i) (∃(l:MSt),(qV i.B i.id i.q).snd=(xS d.L d.id d.qty).snd∧sb l.p.code=sb i.s.p.code∧l.p.tick=i.s.p.tick∧l.p.low=i.s.p.low∧l.p.high=i.s.p.high∧l.p.wide=i.s.p.wide∧l.p.rule=i.s.p.rule∧l.p.top=i.s.p.top∧l.p.least=i.s.p.least∧l.p.part=i.s.p.part∧AObj.objs 241 Book 6 zS l.books none=AObj.objs 241 Book 6 zS ((i.s.books.set b.toNat f).set b.toNat k) none∧zAe l i))
set_option linter.unusedSimpArgs false
open Go Cv Go.Proofs
theorem yTb (i:BkL) (h:lad1C.cnd i):yKl i:=by
 obtain⟨Q,c,ht,hL⟩:i.b.Rep i.L:=h
 have hsm:=c.small
 obtain⟨⟨ha1,ha2⟩,hb1,hb2,hsp⟩:=id hsm
 have hlad:=c.lad (.inl rfl)
 rw[← hL]at hlad
 have hlad:uR i.L (zD false)=i.b.buys.map i.b.told:=hlad
 unfold yKl zCb cK qL dI
 simp only[hlad,yWu]
 refine⟨1,rfl,trivial,fun _ _=>Cv.cnd.mk (fun e=>absurd e (by decide)) fun _=>⟨0,by(first|exact rfl|exact trivial),by(first|exact rfl|exact trivial),fun j=>j≤i.b.buys.length,fun j=>i.b.buys.length-j,yYc _,fun j hj=>zK (fun e=> ?_) (fun e=> ?_)⟩⟩
 ·obtain⟨r,hr⟩:=zW (l:=i.b.buys) (i:=j) (by omega)
  have hi:=c.cnt
  refine⟨⟨by omega,by omega⟩,r.price,r.queue,elA hr (by simp[zB]) rfl,⟨i.b.a,r.queue⟩,by(first|exact rfl|exact trivial),by(first|exact rfl|exact trivial),trivial,fun _ _=>⟨by(first|exact rfl|exact trivial),by(first|exact rfl|exact trivial),by(first|exact rfl|exact trivial),⟨i.b.a,r.queue⟩,by(first|exact rfl|exact trivial),by(first|exact rfl|exact trivial),by(first|exact rfl|exact trivial),fun _ _=>⟨by(first|exact rfl|exact trivial),by simp only[yXo,yWu];omega,j+1,wjn (by omega),?_,by omega,by dsimp only;omega,k0q⟩⟩⟩
  have hrt:(i.b.buys.map i.b.told)[j]? =some (i.b.told r):=by rw[yXq,hr];rfl
  rw[yXx,hrt];simp[lvE,Book.told]
 ·rw[yXk (by rw[yWu];omega)]
  exact⟨(),k0q⟩
theorem yHj:lad1C.ok Tryz.prog 158:=okw mixed (gokc sJ (gokc zEv (gokc mY gok0))) 1 (fun _=>[]) (fun i=>yTv false i) [0] Tryz.func158 yTb
theorem ySc (i:BkL) (h:lad2C.cnd i):yKt i:=by
 obtain⟨Q,c,ht,hL⟩:i.b.Rep i.L:=h
 have hsm:=c.small
 obtain⟨⟨ha1,ha2⟩,hb1,hb2,hsp⟩:=id hsm
 have hlad:=c.lad (.inr rfl)
 rw[← hL]at hlad
 have hlad:uR i.L (zD true)=i.b.sells.map i.b.told:=hlad
 unfold yKt cO zCb qL dI
 simp only[hlad,yWu]
 refine⟨2,rfl,trivial,fun _ _=>Cv.cnd.mk (fun e=>absurd e (by decide)) fun _=>⟨0,by(first|exact rfl|exact trivial),by(first|exact rfl|exact trivial),fun j=>j≤i.b.sells.length,fun j=>i.b.sells.length-j,yYc _,fun j hj=>zK (fun e=> ?_) (fun e=> ?_)⟩⟩
 ·obtain⟨r,hr⟩:=zW (l:=i.b.sells) (i:=j) (by omega)
  have hi:=c.cnt
  refine⟨⟨by omega,by omega⟩,r.price,r.queue,elA hr (by simp[zB]) rfl,⟨i.b.a,r.queue⟩,by(first|exact rfl|exact trivial),by(first|exact rfl|exact trivial),trivial,fun _ _=>⟨by(first|exact rfl|exact trivial),by(first|exact rfl|exact trivial),by(first|exact rfl|exact trivial),⟨i.b.a,r.queue⟩,by(first|exact rfl|exact trivial),by(first|exact rfl|exact trivial),by(first|exact rfl|exact trivial),fun _ _=>⟨by(first|exact rfl|exact trivial),by simp only[yXo,yWu];omega,j+1,wjn (by omega),?_,by omega,by dsimp only;omega,k0q⟩⟩⟩
  have hrt:(i.b.sells.map i.b.told)[j]? =some (i.b.told r):=by rw[yXq,hr];rfl
  rw[yXx,hrt];simp[lvE,Book.told]
 ·rw[yXk (by rw[yWu];omega)]
  exact⟨(),k0q⟩
theorem yIl:lad2C.ok Tryz.prog 158:=okw mixed (gokc sJ (gokc zEv (gokc mY gok0))) 1 (fun _=>[]) (fun i=>yTv true i) [0] Tryz.func158 ySc
theorem yQk:ladC.ok Tryz.prog 158:=fun j=>match j with
 |⟨b,L,false⟩=>yHj ⟨b,L⟩
 |⟨b,L,true⟩=>yIl ⟨b,L⟩
theorem yMz (s:MSt) (h:topsOC.cnd s):yBd s:=by
 obtain⟨h1,h2⟩:s.cntOk:=h
 unfold yBd v7 qI wT gM tU cT cI tM fX cL eK fT f9 zV cQ Vtopst403 vQ zAy rD dI
 have p48:(2:Int) ^ (48:Nat)=281474976710656:=by decide
 refine⟨⟨by omega,by omega,by omega,by rw[p48];omega⟩,0,rfl,?_,fun j=>j≤s.books.length,fun j=>s.books.length-j,by omega,fun j hj=>zK (fun hlt=> ?_) (fun hlt=> ?_)⟩
 ·rw[xR,yXe,List.map_replicate];rfl
 ·have hj':j<s.books.length:=by omega
  obtain⟨b,hb⟩:=zW hj'
  have hc:=h2 b (yXd hb)
  simp only[yXn]
  have ha:∀x,(List.map zZ (xL s j x)).length=s.books.length:=fun x=>by rw[yWu,zKw hj']
  have w1:IntKind.i64.wrap (0+1)=1:=by decide
  have w2:(0+1) % ((2:Int) ^ IntKind.i64.bits).natAbs=1:=by decide
  refine⟨⟨by omega,by omega⟩,by omega,(j,top0),by rw[zHp hj'],fun x=>x=(j,top0.buy (b.best b.buys)),⟨⟨by decide,by decide⟩,1,rfl,b,hb,⟨false,b⟩,rfl,rfl,hc,fun _ _=>⟨b,rfl,kp,by omega,?_⟩⟩,?_⟩
  ·refine Cv.cnd.mk (fun c=> ?_) (fun c=> ?_)
   ·have c:(b.best b.buys).2=true:=c
    have e1:=qJ (s:=s) hj' (x:=top0) (y:={top0 with has1:=true}) (f:=0+0+0*1) (ds:=[D.v (.bool true)]) rfl
    have e2:=qJ (s:=s) hj' (x:={top0 with has1:=true}) (y:={top0 with has1:=true,p1:=(b.best b.buys).1.price}) (f:=0+2+0*1) (ds:=[D.v (.int .i64 (b.best b.buys).1.price)]) rfl
    have e3:=qJ (s:=s) hj' (x:={top0 with has1:=true,p1:=(b.best b.buys).1.price}) (y:={top0 with has1:=true,p1:=(b.best b.buys).1.price,q1:=(b.best b.buys).1.qty}) (f:=0+4+0*1) (ds:=[D.v (.int .i64 (b.best b.buys).1.qty)]) rfl
    dsimp only
    simp only[show b.side false=b.buys from rfl,e1,e2,e3,ha]
    (repeat'(first|exact rfl|exact trivial|assumption|apply And.intro|refine fun(_:Unit) (_:True)=>?_|refine Exists.intro () ?_|omega|(dsimp only;omega)))
    refine⟨(j,{top0 with has1:=true,p1:=(b.best b.buys).1.price,q1:=(b.best b.buys).1.qty}),rfl,?_,?_⟩
    ·rw[Top.buy,yWt c]
    ·(repeat'(first|exact rfl|exact trivial|assumption|apply And.intro|refine fun(_:Unit) (_:True)=>?_|refine Exists.intro () ?_|omega|(dsimp only;omega)))
     rw[gP hb];rfl
   ·have c:(b.best b.buys).2=false:=c
    refine⟨(j,top0),rfl,?_,?_⟩
    ·rw[Top.buy,yWs (by rw[c];simp)]
    ·(repeat'(first|exact rfl|exact trivial|assumption|apply And.intro|refine fun(_:Unit) (_:True)=>?_|refine Exists.intro () ?_|omega|(dsimp only;omega)))
     rw[gP hb];rfl
  ·rintro _ rfl
   rw[w1]
   generalize hx:top0.buy (b.best b.buys)=x
   have hx2:b.top=x.sell (b.best b.sells):=by rw[Book.top,hx]
   refine⟨(j,x),rfl,fun y=>y=(j,b.top),⟨⟨by decide,by decide⟩,2,rfl,b,hb,⟨true,b⟩,rfl,rfl,hc,fun _ _=>⟨b,rfl,kp,by omega,?_⟩⟩,?_⟩
   ·refine Cv.cnd.mk (fun c=> ?_) (fun c=> ?_)
    ·have c:(b.best b.sells).2=true:=c
     have e1:=qJ (s:=s) hj' (x:=x) (y:={x with has2:=true}) (f:=0+0+1*1) (ds:=[D.v (.bool true)]) rfl
     have e2:=qJ (s:=s) hj' (x:={x with has2:=true}) (y:={x with has2:=true,p2:=(b.best b.sells).1.price}) (f:=0+2+1*1) (ds:=[D.v (.int .i64 (b.best b.sells).1.price)]) rfl
     have e3:=qJ (s:=s) hj' (x:={x with has2:=true,p2:=(b.best b.sells).1.price}) (y:={x with has2:=true,p2:=(b.best b.sells).1.price,q2:=(b.best b.sells).1.qty}) (f:=0+4+1*1) (ds:=[D.v (.int .i64 (b.best b.sells).1.qty)]) rfl
     dsimp only
     simp only[w2,show b.side true=b.sells from rfl,e1,e2,e3,ha]
     (repeat'(first|exact rfl|exact trivial|assumption|apply And.intro|refine fun(_:Unit) (_:True)=>?_|refine Exists.intro () ?_|omega|(dsimp only;omega)))
     refine⟨(j,{x with has2:=true,p2:=(b.best b.sells).1.price,q2:=(b.best b.sells).1.qty}),rfl,?_,?_⟩
     ·rw[hx2,Top.sell,yWt c]
     ·(repeat'(first|exact rfl|exact trivial|assumption|apply And.intro|refine fun(_:Unit) (_:True)=>?_|refine Exists.intro () ?_|omega|(dsimp only;omega)))
      rw[gP hb];rfl
    ·have c:(b.best b.sells).2=false:=c
     refine⟨(j,x),rfl,?_,?_⟩
     ·rw[hx2,Top.sell,yWs (by rw[c];simp)]
     ·(repeat'(first|exact rfl|exact trivial|assumption|apply And.intro|refine fun(_:Unit) (_:True)=>?_|refine Exists.intro () ?_|omega|(dsimp only;omega)))
      rw[gP hb];rfl
   ·rintro _ rfl
    refine⟨j+1,by rw[w64 (by omega)];rfl,?_⟩
    refine⟨by dsimp only;rw[zHk hb],?_⟩
    exact kp
 ·have hj:j≤s.books.length:=hj
  obtain rfl:j=s.books.length:=by omega
  have e:xR s s.books.length=s.tops:=by
   rw[xR,y2g,List.replicate_zero,yXp,yXk (by rw[MSt.tops,yWu];omega)]
  rw[e]
  exact kp
theorem zXw:topsOC.ok Tryz.prog 105:=okw mixed (gokc zJa gok0) 0 (fun s=>yLu s) (fun s=>yKo s) [] Tryz.func105 yMz
theorem yPp (i:StI) (h:stakeC.cnd i):yBj i:=by
 obtain⟨hR,hB⟩:i.s.Rep i.p i.B∧i.B.length≤1000:=h
 have hat:=hR.at_ i.id
 unfold yBj cX nF zAe zAl dI
 cases hi:cZ i.B i.id with
 |none=>
  rw[hi]at hat
  refine⟨fQ _ _,false,0,.inr ⟨by rw[mE,hat];rfl,rfl,rfl⟩,Cv.cnd.mk (fun _=>⟨i.s,?_⟩) (fun e=>absurd e (by decide))⟩
  have ht:qV i.B i.id i.q=(i.B,26):=by rw[qV,hi]
  rw[ht]
  exact⟨rfl,rfl,rfl,rfl,rfl,rfl,rfl,rfl,rfl,rfl,rfl,rfl,rfl,rfl,hR⟩
 |some k=>
  rw[hi]at hat
  obtain⟨L,hL,hh⟩:=uY hi
  have hk:=(yWv.1 hL).1
  obtain⟨b,hb⟩:=zW (l:=i.s.books) (i:=k) (by rw[hR.bl];exact hk)
  have hbR:=hR.bk k b L hb hL
  have hbl:=hR.bl
  have hnd:=hbR.ords.2.1
  refine⟨fQ _ _,true,k,.inl ⟨by rw[mE,hat];rfl,rfl⟩,Cv.cnd.mk (fun e=>absurd e (by decide)) (fun _=> ?_)⟩
  rw[yXn]
  refine⟨⟨by omega,by omega⟩,by omega,b,hb,⟨b,L,i.id,i.q⟩,rfl,rfl,rfl,hbR,fun b' hb'=> ?_⟩
  have hT:=hR.take (q:=i.q) hi hL hnd hb'
  have hk2:(qV i.B i.id i.q).2=(xS L i.id i.q).2:=by simp only[qV,hi,zT hL]
  refine⟨b',rfl,rfl,by omega,by rw[yXv];omega,by rw[yXv];omega,b',gS (by omega),⟨b',(xS L i.id i.q).1,i.id,0⟩,rfl,rfl,hb',fun _ _=>⟨b',rfl,rfl,by rw[yXv];omega,Cv.cnd.mk (fun e=>⟨fQ _ _,?_⟩) (fun e=> ?_)⟩⟩
  ·have e:wB (xS L i.id i.q).1 i.id=false:=by simpa using e
   rw[e,yWs (by decide)]at hT
   refine⟨{i.s with books:=i.s.books.set k b',wh:=zZq i.id i.s.wh},hk2,rfl,rfl,rfl,rfl,rfl,rfl,rfl,rfl,rfl,?_,(zXf _ _).symm,rfl,rfl,hT⟩
   rw[y0s]
  ·have e:wB (xS L i.id i.q).1 i.id=true:=by simpa using e
   rw[e,yWt rfl]at hT
   refine⟨{i.s with books:=i.s.books.set k b',wh:=i.s.wh},hk2,rfl,rfl,rfl,rfl,rfl,rfl,rfl,rfl,rfl,?_,rfl,rfl,rfl,hT⟩
   rw[y0s]
theorem zEa:stakeC.ok Tryz.prog 171:=okw mixed (gokc yGn (gokc zUc gok0)) 0 (fun _=>[]) (fun _=>[]) [0] Tryz.func171 yPp
open Go Cv Go.Proofs
structure BOk (p:Prd) (B:List (List zJ)):Prop where
 pc:p.check=0
 ps:p.small
 bl:B.length=p.count
 pr:∀(k:Nat) (L:List zJ),B[k]? =some L→∀o∈L,p.price k o.price=0
def motherC:Con:=con1 Bool (fun b=>[zA (zD b)]) (fun _=>[]) (fun _=>True) (fun b=>zA (zD (!b))) (fun _=>[])
def dV (s:Bool) (p x:Int):Bool:=if s then decide (p≤x)else decide (x≤p)
structure GoI where
 s:Bool
 p:Int
 x:Int
def mgoodC:Con:=con1 GoI (fun i=>[zA (zD i.s),zA i.p,zA i.x]) (fun _=>[]) (fun _=>True) (fun i=>z7 (dV i.s i.p i.x)) (fun _=>[])
def yQ (p:Prd) (B:List (List zJ)) (inst:Int) (s:Int):Quote×Bool×Bool:=
 let bq:=zU (xO ⟨p,B.map qO,inst⟩ s) s
 let l:=bestL (B.getD inst.toNat []) s
 if(l.2 && !(bq.2 && btr s bq.1.price l.1.price))=true then(⟨l.1.price,l.1.qty,⟨0,0⟩,⟨0,0⟩⟩,false,true)else(bq.1,bq.2,bq.2)
structure NxI where
 s:MSt
 p:Prd
 B:List (List zJ)
 inst:Int
 sd:Bool
def nextC:Con:=con1 NxI (fun i=>[.nm 0 0,zA i.inst,zA (zD i.sd)]) (fun i=>[zF i.s]) (fun i=>i.s.Rep i.p i.B∧BOk i.p i.B∧0≤i.inst∧i.inst<i.B.length)
 (fun i=> .tup [zRw (yQ i.p i.B i.inst (zD i.sd)).1,z7 (yQ i.p i.B i.inst (zD i.sd)).2.1,z7 (yQ i.p i.B i.inst (zD i.sd)).2.2]) (fun i=>[zF i.s])
structure dM where
 id:Int
 inst:Int
 side:Int
 price:Int
 qty:Int
 left:Int
 deriving DecidableEq
def yS (f:dM):List D:=[.v (.int .i64 f.id),.v (.int .i64 f.inst),.v (.int .i64 f.side),.v (.int .i64 f.price),.v (.int .i64 f.qty),.v (.int .i64 f.left)]
def xN (inst s:Int):List zJ→List Int→List dM
 |o::os,k::ks=>if 0<k then⟨o.id,inst,s,o.price,k,o.qty-k⟩::xN inst s os ks else xN inst s os ks
 |_,_=>[]
def kB (B:List (List zJ)) (fs:List dM):List (List zJ):=fs.foldl (fun B f=>(qV B f.id f.qty).1) B
def zSw (B:List (List zJ)) (inst s:Int):List zJ:=atL (B.getD inst.toNat []) s (bestL (B.getD inst.toNat []) s).1.price
def qH (p:Prd) (B:List (List zJ)) (inst s q:Int):List dM:=xN inst s (zSw B inst s) (qQ ⟨p,zSw B inst s,q⟩)
structure TrI where
 s:MSt
 p:Prd
 B:List (List zJ)
 inst:Int
 sd:Bool
 q:Int
def TrI.os (i:TrI):List zJ:=zSw i.B i.inst (zD i.sd)
def TrI.sh (i:TrI):List Int:=qQ ⟨i.p,i.os,i.q⟩
def TrI.fs (i:TrI) (j:Nat):List dM:=xN i.inst (zD i.sd) (i.os.take j) (i.sh.take j)
def tradeC:Con where
 ι:=TrI
 pat:=fun i=>[.nm 0 0,.agg [zA i.inst,zA (zD i.sd)],zA i.q]
 pre:=fun i=>[zF i.s]
 cnd:=fun i=>i.s.Rep i.p i.B∧BOk i.p i.B∧0≤i.inst∧i.inst<i.B.length∧i64r i.q
 alts:=fun i=>[{o:=MSt,res:=fun _=> .own 1,post:=fun s=>[zF s,.own 374 6 ((qH i.p i.B i.inst (zD i.sd) i.q).map yS)],rel:=fun s=>s.Rep i.p (kB i.B (qH i.p i.B i.inst (zD i.sd) i.q))}]
def yOj (i:TrI):List SAnn:=[{ι:=Nat×MSt,slots:=fun j=>[(0,.nm 0 0),(11,.own 1),(44,zA j.1)],rows:=fun j=>[zF j.2,.own 374 6 ((i.fs j.1).map yS)]}]
open Go Cv Go.Proofs
def z2n (b:Bool):Prop:=
 ∃(a:Unit),(zD !b)=IntKind.i64.wrap (3-zD b)∧True
def z9n (i:GoI):Prop:=
 cnd (zD i.s==1) (cnd (decide (i.x≤i.p)) (∃(a:Unit),dV i.s i.p i.x=true∧True) (cnd (zD i.s==2) (∃(a:Unit),dV i.s i.p i.x=decide (i.x≥i.p)∧True) (∃(a:Unit),dV i.s i.p i.x=false∧True))) (cnd (zD i.s==2) (∃(a:Unit),dV i.s i.p i.x=decide (i.x≥i.p)∧True) (∃(a:Unit),dV i.s i.p i.x=false∧True))
def zGa (a:MSt) (b:NxI):Prop:=sb a.p.code=sb b.s.p.code∧True∧a.p.tick=b.s.p.tick∧a.p.low=b.s.p.low∧a.p.high=b.s.p.high∧a.p.wide=b.s.p.wide∧a.p.rule=b.s.p.rule∧a.p.top=b.s.p.top∧a.p.least=b.s.p.least∧a.p.part=b.s.p.part∧True∧True
def fM (a:BsI):Prop:=(a.s=1∨a.s=2)∧a.l.length≤1000000
def zFk (a:NxI) (b:MSt) (c:Book):Prop:=sb a.s.p.code=sb b.p.code∧a.s.p.tick=b.p.tick∧a.s.p.low=b.p.low∧a.s.p.high=b.p.high∧a.s.p.wide=b.p.wide∧a.s.p.rule=b.p.rule∧a.s.p.top=b.p.top∧a.s.p.least=b.p.least∧a.s.p.part=b.p.part∧AObj.objs 241 Book 6 zS a.s.books none=AObj.objs 241 Book 6 zS (b.books.set a.inst.toNat c) none∧yU a.s.wh=yU b.wh∧AObj.fro 1 (iE a.s.p.months)=AObj.fro 1 (iE b.p.months)∧AObj.fro 1 (iE a.s.p.settle)=AObj.fro 1 (iE b.p.settle)∧True
def z9 (a:NxI):=(yQ a.p a.B a.inst (zD a.sd))
def zJp (a:NxI) (b:BsI) (c:MSt) (d:Book):Prop:=∃(e:Unit),(z9 a).fst.price=(zU b.l b.s).fst.price∧(z9 a).fst.qty=(zU b.l b.s).fst.qty∧(z9 a).fst.a.inst=(zU b.l b.s).fst.a.inst∧(z9 a).fst.a.side=(zU b.l b.s).fst.a.side∧(z9 a).fst.b.inst=(zU b.l b.s).fst.b.inst∧(z9 a).fst.b.side=(zU b.l b.s).fst.b.side∧(z9 a).snd.fst=(zU b.l b.s).snd∧(z9 a).snd.snd=(zU b.l b.s).snd∧zFk a c d
def zJj (a:NxI) (b:BkS) (c:MSt) (d:Book):Prop:=∃(e:Unit),(z9 a).fst.price=(zV b).fst.price∧(z9 a).fst.qty=(zV b).fst.qty∧(z9 a).fst.a.inst=0∧(z9 a).fst.a.side=0∧(z9 a).fst.b.inst=0∧(z9 a).fst.b.side=0∧(z9 a).snd.fst=false∧(z9 a).snd.snd=true∧zFk a c d
def zCx (a:sU) (b:NxI) (c:MSt):Prop:=∃(d:BsI),List.map zL d.l=List.map zL (xO a.i (zD a.s))∧d.s=zD b.sd∧(fM d)∧∀(e:Unit),True→(0≤b.inst∧b.inst<(↑c.books.length:Int))∧b.inst.toNat<c.books.length∧∃(f:Book),c.books[b.inst.toNat]?=some f∧∃(g:BkS),zD g.side=zD b.sd∧z8 g.b=z8 f∧(wT g)∧∀(h:Unit),True→∃(j:Book),z8 g.b=z8 j∧b.inst.toNat=b.inst.toNat∧b.inst.toNat<c.books.length∧cnd (zV g).snd (cnd (zU d.l d.s).snd (∃(k:I3'),k.side=zD b.sd∧k.x=(zU d.l d.s).fst.price∧k.y=(zV g).fst.price∧True∧∀(l:Unit),True→cnd (!btr k.side k.x k.y) (zJj b g c j) (zJp b d c j)) (zJj b g c j)) (zJp b d c j)
def zKn (a:MSt) (b:NxI):Prop:=(zGa a b)∧∃(c:sU),sb c.i.p.code=sb b.s.p.code∧iE c.i.p.months=iE a.p.months∧c.i.p.tick=b.s.p.tick∧c.i.p.low=b.s.p.low∧c.i.p.high=b.s.p.high∧c.i.p.wide=b.s.p.wide∧c.i.p.rule=b.s.p.rule∧c.i.p.top=b.s.p.top∧c.i.p.least=b.s.p.least∧c.i.p.part=b.s.p.part∧iE c.i.p.settle=iE a.p.settle∧List.map zZ c.i.tops=List.map zZ a.tops∧c.i.inst=b.inst∧zD c.s=zD b.sd∧(qT c)∧∀(d:Unit),True→zCx c b a
def fY (a:MSt):Prop:=a.books.length≤1000000∧∀(b:Book),b∈a.books→∀(c:dP),c∈b.a.queues→(-9223372036854775808)≤c.count∧c.count≤9223372036854775807
def yLt (i:NxI):Prop:=
 (∃(a:MSt),sb a.p.code=sb i.s.p.code∧a.p.tick=i.s.p.tick∧a.p.low=i.s.p.low∧a.p.high=i.s.p.high∧a.p.wide=i.s.p.wide∧a.p.rule=i.s.p.rule∧a.p.top=i.s.p.top∧a.p.least=i.s.p.least∧a.p.part=i.s.p.part∧AObj.objs 241 Book 6 zS a.books none=AObj.objs 241 Book 6 zS i.s.books none∧yU a.wh=yU i.s.wh∧AObj.fro 1 (iE a.p.months)=AObj.fro 1 (iE i.s.p.months)∧AObj.fro 1 (iE a.p.settle)=AObj.fro 1 (iE i.s.p.settle)∧(fY a)∧∀(b:Unit),True→(zGa a i)∧(∃(c:sU),sb c.i.p.code=sb i.s.p.code∧iE c.i.p.months=iE a.p.months∧c.i.p.tick=i.s.p.tick∧c.i.p.low=i.s.p.low∧c.i.p.high=i.s.p.high∧c.i.p.wide=i.s.p.wide∧c.i.p.rule=i.s.p.rule∧c.i.p.top=i.s.p.top∧c.i.p.least=i.s.p.least∧c.i.p.part=i.s.p.part∧iE c.i.p.settle=iE a.p.settle∧List.map zZ c.i.tops=List.map zZ a.tops∧c.i.inst=i.inst∧zD c.s=zD i.sd∧(qT c)∧∀(d:Unit),True→(zCx c i a)∧zCx c i a)∧zKn a i)∧(sb i.s.p.code=sb i.s.p.code∧True∧i.s.p.tick=i.s.p.tick∧i.s.p.low=i.s.p.low∧i.s.p.high=i.s.p.high∧i.s.p.wide=i.s.p.wide∧i.s.p.rule=i.s.p.rule∧i.s.p.top=i.s.p.top∧i.s.p.least=i.s.p.least∧i.s.p.part=i.s.p.part∧True∧True)∧∃(a:MSt),sb a.p.code=sb i.s.p.code∧a.p.tick=i.s.p.tick∧a.p.low=i.s.p.low∧a.p.high=i.s.p.high∧a.p.wide=i.s.p.wide∧a.p.rule=i.s.p.rule∧a.p.top=i.s.p.top∧a.p.least=i.s.p.least∧a.p.part=i.s.p.part∧AObj.objs 241 Book 6 zS a.books none=AObj.objs 241 Book 6 zS i.s.books none∧yU a.wh=yU i.s.wh∧AObj.fro 1 (iE a.p.months)=AObj.fro 1 (iE i.s.p.months)∧AObj.fro 1 (iE a.p.settle)=AObj.fro 1 (iE i.s.p.settle)∧(fY a)∧∀(b:Unit),True→zKn a i
def bP (a:AtI):=(List.map wL (atL a.L (zD a.s) a.price))
def zGw (a:Nat×MSt→Prop) (b:Nat×MSt) (c:Nat×MSt→Nat) (d:Nat×MSt) (e:AlI) (f:AtI) (g:BkS) (h:TrI):Prop:=a b∧c b<c d∧AObj.own 2 1 (iE (qQ e))=AObj.own 2 1 (iE (qQ e))∧AObj.fro 5 (bP f)=AObj.fro 5 (bP f)∧Sx.AObj.cells [V.d (dI (f9 g)),V.d (dI (v7 g)),V.d (dI ((zV g).fst.count))] 41=Sx.AObj.cells [V.d (dI (f9 g)),V.d (dI (v7 g)),V.d (dI ((zV g).fst.count))] 41∧Sx.AObj.cells [V.d (dI h.inst),V.d (dI (zD h.sd))] 256=Sx.AObj.cells [V.d (dI h.inst),V.d (dI (zD h.sd))] 256∧AObj.fro 1 (iE h.s.p.months)=AObj.fro 1 (iE h.s.p.months)∧AObj.fro 1 (iE h.s.p.settle)=AObj.fro 1 (iE h.s.p.settle)
def hP (a:TrI):=(qH a.p a.B a.inst (zD a.sd) a.q)
def fL (a:TrI):=(kB a.B (hP a))
def yDk (i:TrI):Prop:=
 (0≤i.inst∧i.inst<(↑i.s.books.length:Int))∧i.inst.toNat<i.s.books.length∧∃(a:Book),i.s.books[i.inst.toNat]?=some a∧∃(b:BkS),zD b.side=zD i.sd∧z8 b.b=z8 a∧(wT b)∧∀(c:Unit),True→∃(d:Book),z8 b.b=z8 d∧i.inst.toNat=i.inst.toNat∧i.inst.toNat<i.s.books.length∧∃(e:Book),(i.s.books.set i.inst.toNat d)[i.inst.toNat]?=some e∧∃(f:AtI),zD f.s=zD i.sd∧f.price=(zV b).fst.price∧z8 f.b=z8 e∧f.b.Rep f.L∧∀(g:Unit),True→∃(h:Book),z8 f.b=z8 h∧i.inst.toNat=i.inst.toNat∧i.inst.toNat<(i.s.books.set i.inst.toNat d).length∧∃(j:AlI),sb j.p.code=sb i.s.p.code∧iE j.p.months=iE i.s.p.months∧j.p.tick=i.s.p.tick∧j.p.low=i.s.p.low∧j.p.high=i.s.p.high∧j.p.wide=i.s.p.wide∧j.p.rule=i.s.p.rule∧j.p.top=i.s.p.top∧j.p.least=i.s.p.least∧j.p.part=i.s.p.part∧iE j.p.settle=iE i.s.p.settle∧List.map wL j.l=List.map wL (atL f.L (zD f.s) f.price)∧j.q=i.q∧(j.l.length≤1000∧((-9223372036854775808)≤j.q∧j.q≤9223372036854775807)∧((-9223372036854775808)≤j.p.least∧j.p.least≤9223372036854775807)∧((-9223372036854775808)≤j.p.top∧j.p.top≤9223372036854775807)∧(-9223372036854775808)≤j.p.part∧j.p.part≤9223372036854775807)∧∀(k:Unit),True→∃(l:Nat×MSt),(↑l.fst:Int)=0∧sb l.snd.p.code=sb i.s.p.code∧l.snd.p.tick=i.s.p.tick∧l.snd.p.low=i.s.p.low∧l.snd.p.high=i.s.p.high∧l.snd.p.wide=i.s.p.wide∧l.snd.p.rule=i.s.p.rule∧l.snd.p.top=i.s.p.top∧l.snd.p.least=i.s.p.least∧l.snd.p.part=i.s.p.part∧AObj.objs 241 Book 6 zS l.snd.books none=AObj.objs 241 Book 6 zS ((i.s.books.set i.inst.toNat d).set i.inst.toNat h) none∧yU l.snd.wh=yU i.s.wh∧AObj.fro 1 (iE l.snd.p.months)=AObj.fro 1 (iE i.s.p.months)∧AObj.fro 1 (iE l.snd.p.settle)=AObj.fro 1 (iE i.s.p.settle)∧List.map yS (i.fs l.fst)=[]∧∃(m:Nat×MSt→Prop),∃(n:Nat×MSt→Nat),m l∧∀(p:Nat×MSt),m p→cnd (decide ((↑p.fst:Int)<(↑(iE (qQ j)).length:Int))) ((0≤(↑p.fst:Int)∧(↑p.fst:Int)<(↑(iE (qQ j)).length:Int))∧∃(q:Int),zE (iE (qQ j)) (↑p.fst:Int).toNat 0 1=some [dI q]∧cnd (decide (q>0)) ((0≤(↑p.fst:Int)∧(↑p.fst:Int)<(↑(bP f).length:Int))∧∃(r:Int),∃(s:Int),∃(t:Int),∃(u:Int),∃(v:Bool),zE (bP f) (↑p.fst:Int).toNat 0 5=some [dI r,dI s,dI t,dI u,D.v (.bool v)]∧∃(w:StI),w.id=r∧w.q=q∧zF w.s=zF p.snd∧(w.s.Rep w.p w.B∧w.B.length≤1000)∧∀(x:MSt),x.Rep w.p (qV w.B w.id w.q).fst→((List.map yS (i.fs p.fst)).length+1)*(48:Nat)≤(140737488355328:Nat)∧∃(y:Nat×MSt),(↑y.fst:Int)=IntKind.i64.wrap ((↑p.fst:Int)+1)∧zF y.snd=zF x∧List.map yS (i.fs y.fst)=List.map yS (i.fs p.fst)++[[dI r,dI i.inst,dI (zD i.sd),dI t,dI q,dI (IntKind.i64.wrap (u-q))]]∧zGw m y n p j f b i) (∃(r:Nat×MSt),(↑r.fst:Int)=IntKind.i64.wrap ((↑p.fst:Int)+1)∧zF r.snd=zF p.snd∧List.map yS (i.fs r.fst)=List.map yS (i.fs p.fst)∧zGw m r n p j f b i)) (∃(q:MSt),zF q=zF p.snd∧List.map yS (hP i)=List.map yS (i.fs p.fst)∧q.Rep i.p (fL i))
open Go Cv Go.Proofs
theorem tE {p:Prd} (hc:p.check=0) {k v:Int} (h:p.price k v=0): -2000000≤v∧v≤2000000:=by
 have ok:=jI hc
 have:=ok.b1
 have:=ok.b2
 have:=ok.b3
 have:=ok.b4
 have:=ok.b5
 rw[Prd.price]at h
 by_cases c1:p.count=0
 ·rw[yWt c1]at h;cases h
 by_cases c2:k<0∨(p.count:Int)≤k
 ·rw[yWs c1,yWt c2]at h;cases h
 cases c3:qC p.tick v with
 |true=>rw[yWs c1,yWs c2,yWt c3]at h;cases h
 |false=>
  rw[yWs c1,yWs c2,yWs (by rw[c3];decide)]at h
  by_cases c4:(p.months.length:Int)≤k
  ·simp only[yWt c4]at h
   by_cases c5:v< -p.wide∨p.wide<v
   ·rw[yWt c5]at h;cases h
   ·omega
  ·simp only[yWs c4]at h
   by_cases c5:v<p.low∨p.high<v
   ·rw[yWt c5]at h;cases h
   ·omega
theorem zIj {t:Int} (k:Int):qC t (t*k)=false:=by
 simp[qC,Int.mul_tmod_right]
theorem zWa (x:Prd):(uH x).small:=by
 have:=yBk x
 refine⟨by simp[uH],?_,?_⟩
 ·show(qF _).length≤_
  rw[tH];omega
 ·show(qS _ _).length≤_
  rw[aD];omega
theorem zHh (x:Prd):(uH x).check=0:=by
 have ht:=zWs x
 have hn:=yBk x
 have hw:=xH (n:=x.wide) (lo:=0) (hi:=60) (by omega)
 have hr:=xH (n:=x.rule) (lo:=0) (hi:=2) (by omega)
 have ho:=xH (n:=x.top) (lo:=0) (hi:=9) (by omega)
 have hl:=xH (n:=x.least) (lo:=0) (hi:=4) (by omega)
 have hp:=xH (n:=x.part) (lo:=0) (hi:=100) (by omega)
 have h1:jV (uH x).code=true:=by show jV [206,169]=true;decide+kernel
 obtain⟨k,hk,hk1⟩:∃k:Nat,(kN x).toNat=k∧(2≤k∧k≤5):=⟨_,rfl,by omega⟩
 have h2:xB (uH x).months=true:=by
  show xB (qF (kN x).toNat)=true
  rw[hk]
  have:k=2∨k=3∨k=4∨k=5:=by omega
  rcases this with rfl|rfl|rfl|rfl<;>decide
 have h3:x6 (uH x)=true:=by
  have a:qC (yG x) (-20*yG x)=false:=by rw[Int.mul_comm];exact zIj _
  have b:qC (yG x) (100*yG x)=false:=by rw[Int.mul_comm];exact zIj _
  have c:(qS (yG x) (kN x).toNat).any (qC (yG x))=false:=by
   rw[y2v]
   intro y hy
   obtain⟨j,_,rfl⟩:=yYj.1 hy
   rw[zIj];decide
  simp only[x6,uH,a,b,c,zIj,y1a,Bool.and_true,yXg]
  exact⟨yXi (by omega),yXi (by omega)⟩
 have mw:=zLx (a:=yG x) (b:=5+zI x.wide 0 60) (m:=yG x) (n:=65) (by omega) (by omega)
 have h4:x9 (uH x)=false:=by
  simp only[x9,uH,y1c]
  exact⟨⟨⟨⟨yXf (by omega),yXf (by omega)⟩,yXf (by omega)⟩,yXf (by omega)⟩,yXf (by omega)⟩
 have h5:xD (uH x)=false:=by
  have e:(qS (yG x) (kN x).toNat).length=(qF (kN x).toNat).length:=by rw[aD,tH]
  have ne:qS (yG x) (kN x).toNat≠[]:=by
   intro hc
   have:=aD (yG x) (kN x).toNat
   rw[hc]at this
   simp at this
   omega
  have bd:∀y∈qS (yG x) (kN x).toNat,0≤y∧y≤yG x*15:=by
   intro y hy
   obtain⟨j,hj,rfl⟩:=yYj.1 hy
   have:=yZy.1 hj
   exact zLx (by omega) (by omega)
  have m1:=bd _ (zUk ne)
  have m2:=bd _ (zUq ne)
  simp only[xD,uH,e,ne_eq,not_true_eq_false,decide_false,y2o,y1c]
  exact⟨yXf (by omega),yXf (by omega)⟩
 have h6:qR (uH x)=false:=by
  simp only[qR,uH,y1c]
  exact⟨yXf (by omega),yXf (by omega)⟩
 have h7:xQ (uH x)=false:=by
  simp only[xQ,uH,y1c]
  exact⟨⟨⟨⟨⟨yXf (by omega),yXf (by omega)⟩,yXf (by omega)⟩,yXf (by omega)⟩,yXf (by omega)⟩,yXf (by omega)⟩
 rw[Prd.check,h1,h2,h3,h4,h5,h6,h7]
 rfl
open Go Cv Go.Proofs
structure zSz (qs sh:List Int) (q:Int):Prop where
 len:sh.length=qs.length
 bd:∀n,0≤sh.getD n 0∧sh.getD n 0≤qs.getD n 0
 sum:sh.sum=q
theorem yDn:∀{l:List Int},(∀x∈l,0≤x)→0≤l.sum
 |[],_=>y1p 0
 |a::l,h=>by
  have:=yDn (l:=l) fun x hx=>h x (yWz _ hx)
  have:=h a yWy
  rw[yYf];omega
theorem z3f:∀{z:List (Int×Int)},(∀y∈z,0≤y.2∧y.2≤y.1)→(z.map (·.2)).sum≤(z.map (·.1)).sum
 |[],_=>y1p 0
 |a::l,h=>by
  have:=z3f (z:=l) fun x hx=>h x (yWz _ hx)
  have:=h a yWy
  rw[yXh,yXh,yYf,yYf];omega
theorem rV:∀(l:List Int) (q:Int),(∀x∈l,0≤x)→0≤q→q≤l.sum→zSz l (uE l q) q
 |[],q,_,h0,h1=>⟨rfl,fun n=>by simp[uE],by simp at h1;simp[uE];omega⟩
 |n::l,q,h,h0,h1=>by
  have hn:=h n yWy
  rw[yYf]at h1
  have:=yDn fun x hx=>h x (yWz _ hx)
  have ih:=rV l (q-min n q) (fun x hx=>h x (yWz _ hx)) (by omega) (by omega)
  refine⟨by rw[uE,yXa,yXa,ih.len],fun k=> ?_,by rw[uE,yYf,ih.sum];omega⟩
  cases k with
  |zero=>exact⟨by show 0≤min n q;omega,by show min n q≤n;omega⟩
  |succ k=>exact ih.bd k
theorem lL:∀(z:List (Int×Int)) (q:Int),(∀y∈z,0≤y.2∧y.2≤y.1)→0≤q→q≤(z.map (·.1)).sum-(z.map (·.2)).sum→(jP z q).length=z.length∧(∀n,0≤(jP z q).getD n 0∧(jP z q).getD n 0≤(z.map (·.1)).getD n 0)∧(jP z q).sum=(z.map (·.2)).sum+q
 |[],q,_,h0,h1=>⟨rfl,fun n=>by simp[jP],by simp at h1;simp[jP];omega⟩
 |(n,x)::r,q,h,h0,h1=>by
  have hn:=h (n,x) yWy
  simp only[yXh,yYf]at h1
  have:=z3f fun y hy=>h y (yWz _ hy)
  have ih:=lL r (q-min (n-x) q) (fun y hy=>h y (yWz _ hy)) (by omega) (by omega)
  refine⟨by rw[jP,yXa,yXa,ih.1],fun k=> ?_,by rw[jP,yYf,ih.2.2,yXh,yYf];omega⟩
  cases k with
  |zero=>exact⟨by show 0≤x+min (n-x) q;have:=hn.1;have:=hn.2;dsimp only at*;omega,by show x+min (n-x) q≤n;have:=hn.2;dsimp only at*;omega⟩
  |succ k=>exact ih.2.1 k
theorem yAe {l:List Int} {q:Int} (h1:l.length≤250) (h2:0≤q) (h3:∀x∈l,1≤x∧x≤1000000) (h4:q≤l.sum):yT l q=true:=by
 rw[yT,yXi h1,yXi h2,yXi h4]
 simp only[yYx,Bool.and_true,y0c,yXg,yYz]
 exact h3
theorem zTi {i:PlI} (h:yT i.l i.q=true) (hl:1≤i.least):zSz i.l (kI i) i.q:=by
 obtain⟨r1,r2,r3,r4⟩:=kK h
 rw[kI,yWt ⟨h,hl⟩]
 by_cases hne:i.l.length=0
 ·have e:i.l=[]:=yXs hne
  have hq:i.q=0:=by rw[e]at r4;simp at r4;omega
  have e0:i.p1=[]:=by rw[PlI.p1,e];rfl
  rw[e0,e,hq]
  exact⟨rfl,fun n=>by simp,rfl⟩
 ·obtain⟨_,_,f1,f2⟩:=zCc h (by omega)
  have hpl:=zYk i
  have m1:(i.l.zip i.p0).map (·.1)=i.l:=List.map_fst_zip (by omega)
  have m2:(i.l.zip i.p0).map (·.2)=i.p0:=List.map_snd_zip (by omega)
  have hp:=lL (i.l.zip i.p0) (i.q-i.p0.sum) (fun y hy=>by
   obtain⟨j,hj⟩:=yZr.1 hy
   rw[y1n]at hj
   exact f1 j _ _ hj.1 hj.2) (by omega) (by rw[m1,m2];omega)
  rw[m1,m2]at hp
  refine⟨?_,hp.2.1,?_⟩
  ·rw[PlI.p1,hp.1,List.length_zip,hpl,Nat.min_self]
  ·rw[PlI.p1,hp.2.2];omega
theorem zSl:∀{l:List Int} {k:Nat} {x:Int},k<l.length→(l.set k x).sum=l.sum+(x-l.getD k 0)
 |[],k,x,h=>absurd h (by simp)
 |a::l,0,x,_=>by
  show x+l.sum=a+l.sum+(x-a);omega
 |a::l,k+1,x,h=>by
  have:=zSl (l:=l) (k:=k) (x:=x) (by simpa using h)
  show a+(l.set k x).sum=a+l.sum+(x-l.getD k 0)
  omega
theorem zLf {l:List Int} {k n:Nat} {x:Int} (h:k<l.length):(l.set k x).getD n 0=if n=k then x else l.getD n 0:=by
 rw[yXb,yZk]
 by_cases e:k=n
 ·subst e;rw[yWt rfl,yWt h,yWt rfl];rfl
 ·rw[yWs e,yWs (fun e2=>e e2.symm),yXb]
theorem zWo {l:List Int}:∀(z:List (Nat×Int)) (o:List Int),(z.map (·.1)).Nodup→(∀y∈z,y.1<o.length∧0≤y.2∧o.getD y.1 0+y.2≤l.getD y.1 0)→(∀n,0≤o.getD n 0∧o.getD n 0≤l.getD n 0∧l.getD n 0≤1000000)→
 (z.foldl (fun o y=>o.set y.1 (IntKind.i64.wrap (o.getD y.1 0+y.2))) o).length=o.length∧(z.foldl (fun o y=>o.set y.1 (IntKind.i64.wrap (o.getD y.1 0+y.2))) o).sum=o.sum+(z.map (·.2)).sum∧∀n,0≤(z.foldl (fun o y=>o.set y.1 (IntKind.i64.wrap (o.getD y.1 0+y.2))) o).getD n 0∧(z.foldl (fun o y=>o.set y.1 (IntKind.i64.wrap (o.getD y.1 0+y.2))) o).getD n 0≤l.getD n 0
 |[],o,_,_,h=>⟨rfl,by simp,fun n=>⟨(h n).1,(h n).2.1⟩⟩
 |y::z,o,hn,hz,h=>by
  obtain⟨h1,h2,h3⟩:=hz y yWy
  rw[yXh,yZo]at hn
  have hw:IntKind.i64.wrap (o.getD y.1 0+y.2)=o.getD y.1 0+y.2:=by
   have:=h y.1
   exact w64 (by omega)
  rw[y0o,hw]
  have ih:=zWo (l:=l) z (o.set y.1 (o.getD y.1 0+y.2)) hn.2 (fun x hx=>by
   obtain⟨g1,g2,g3⟩:=hz x (yWz _ hx)
   have hne:x.1≠y.1:=fun e=>hn.1 (e▸yXz (f:=(·.1)) hx)
   rw[yXv,zLf h1,yWs hne]
   exact⟨g1,g2,g3⟩) (fun n=>by
   rw[zLf h1]
   split
   ·rename_i e
    rw[e]
    exact⟨by have:=h y.1;omega,h3,(h y.1).2.2⟩
   ·exact h n)
  refine⟨by rw[ih.1,yXv],?_,ih.2.2⟩
  rw[ih.2.1,zSl h1,yXh,yYf];omega
theorem zLl (l:List Int):(List.range l.length).map (fun n=>l.getD n 0)=l:=by
 apply y0d
 intro n
 rw[yXq]
 by_cases h:n<l.length
 ·rw[y1h h,yYe h,yYu,yXb,yYe h];rfl
 ·rw[yXw (by simpa using h),yXw (by omega)];rfl
theorem z4r {f g:Nat→Int}:∀l:List Nat,(l.map fun n=>f n-g n).sum=(l.map f).sum-(l.map g).sum
 |[]=>rfl
 |a::l=>by rw[yXh,yXh,yXh,yYf,yYf,yYf,z4r l];omega
theorem zLo {f:Nat→Int} {p:Nat→Bool}:∀{l:List Nat},(∀n∈l,p n=false→f n=0)→((l.filter p).map f).sum=(l.map f).sum
 |[],_=>rfl
 |a::l,h=>by
  have ih:=zLo (l:=l) fun n hn=>h n (yWz _ hn)
  rw[yXh,yYf]
  by_cases e:p a=true
  ·rw[y1u e,yXh,yYf,ih]
  ·rw[y1v e,ih,h a yWy (by simpa using e)];omega
theorem sX {i:RsI} (hl:i.l.length≤250) (ho:i.out.length=i.l.length) (hn:∀n,0≤i.out.getD n 0∧i.out.getD n 0≤i.l.getD n 0∧i.l.getD n 0≤1000000) (hq:0≤i.q∧i.q≤i.l.sum-i.out.sum) (hle:1≤i.least):
 zSz i.l (mZ i) (i.out.sum+i.q):=by
 have hidx:(i.idx i.l.length).length≤250:=y0m (y0b _ _) (by simpa using hl)
 have hmem:∀n∈i.idx i.l.length,n<i.l.length∧i.out.getD n 0<i.l.getD n 0:=by
  intro n hn
  obtain⟨a,b⟩:=yYv.1 hn
  exact⟨yZy.1 a,yYh b⟩
 have hls:(i.left i.l.length).sum=i.l.sum-i.out.sum:=by
  rw[RsI.left,RsI.idx,zLo,z4r,zLl]
  ·rw[← ho,zLl]
  ·intro n _ e
   have:=y0f e
   have:=hn n
   omega
 have hr:yT (i.left i.l.length) i.q=true:=by
  refine yAe (by rw[RsI.left,yWu];exact hidx) hq.1 (fun x hx=> ?_) (by omega)
  obtain⟨n,hm,rfl⟩:=yYj.1 hx
  have:=hmem n hm
  have:=hn n
  omega
 have hp:=zTi (i:=⟨i.left i.l.length,i.least,i.q⟩) hr hle
 have hpl:i.pl.length=(i.idx i.l.length).length:=by
  have:=hp.len
  rw[RsI.pl,this,RsI.left,yWu]
 have hnd:(i.idx i.l.length).Nodup:=List.nodup_range.sublist y2m
 have z1:((i.idx i.l.length).zip i.pl).map (·.1)=i.idx i.l.length:=List.map_fst_zip (by omega)
 have z2:((i.idx i.l.length).zip i.pl).map (·.2)=i.pl:=List.map_snd_zip (by omega)
 have hf:=zWo (l:=i.l) ((i.idx i.l.length).zip i.pl) i.out (by rw[z1];exact hnd) (fun y hy=>by
  obtain⟨j,hj⟩:=yZr.1 hy
  rw[y1n]at hj
  have hm:=hmem y.1 (yXd hj.1)
  have hb:=hp.bd j
  have e1:(kI ⟨i.left i.l.length,i.least,i.q⟩).getD j 0=y.2:=by
   rw[yXb]
   have:(kI ⟨i.left i.l.length,i.least,i.q⟩)[j]? =some y.2:=hj.2
   rw[this];rfl
  have e2:(i.left i.l.length).getD j 0=i.l.getD y.1 0-i.out.getD y.1 0:=by
   rw[yXb,RsI.left,yXq,hj.1];rfl
  dsimp only at hb
  rw[e1,e2]at hb
  exact⟨by omega,hb.1,by omega⟩) hn
 have hall:mZ i=((i.idx i.l.length).zip i.pl).foldl (fun o y=>o.set y.1 (IntKind.i64.wrap (o.getD y.1 0+y.2))) i.out:=by
  rw[mZ,RsI.add,yXk (by rw[List.length_zip];omega)]
 rw[hall]
 refine⟨by rw[hf.1,ho],hf.2.2,?_⟩
 rw[hf.2.1,z2]
 have:=hp.sum
 rw[RsI.pl,this]
theorem z5g {l:List Int} (h:∀x∈l,1≤x∧x≤1000000) (n:Nat):0≤l.getD n 0∧l.getD n 0≤1000000:=by
 by_cases hn:n<l.length
 ·obtain⟨x,hx⟩:=zW hn
  have:=h x (yXd hx)
  rw[zT hx];omega
 ·rw[yXb,yXw (by omega)];decide
theorem yPe (n k:Nat):(List.replicate n (0:Int)).getD k 0=0:=by
 rw[yXb,List.getElem?_replicate]
 split<;>rfl
theorem zMt (n:Nat):(List.replicate n (0:Int)).sum=0:=by
 induction n with
 |zero=>rfl
 |succ n ih=>rw[y1g,yYf,ih];rfl
theorem yPd {q part:Int} (hq:0≤q) (h0:0≤part) (h1:part≤100):0≤q*part / 100∧q*part / 100≤q:=by
 have h2:0≤q*part:=y2w hq h0
 have h3:q*part≤q*100:=y1t h1 hq
 constructor<;>omega
theorem zTp {p:Prd} (hc:p.check=0) {l:List zJ} {q:Int} (hr:yT (l.map (·.qty)) q=true):zSz (l.map (·.qty)) (qQ ⟨p,l,q⟩) q:=by
 have ok:=jI hc
 obtain⟨r1,r2,r3,r4⟩:=kK hr
 have q1:=ok.q1
 have q3:=ok.q3
 have q5:=ok.q5
 have q6:=ok.q6
 have r5:=ok.r1
 have r6:=ok.r2
 have gb:=z5g r3
 have eqs:(AlI.qs ⟨p,l,q⟩)=l.map (·.qty):=rfl
 rw[qQ]
 simp only[eqs]
 generalize l.map (·.qty)=qs at*
 by_cases c1:p.rule=1
 ·rw[yWt c1,uO,yWt hr]
  exact rV _ _ (fun x hx=>by have:=r3 x hx;omega) r2 r4
 by_cases c2:p.rule=2
 ·rw[yWs c1,yWt c2,zEc,yWt ⟨hr,q3,q1⟩]
  rw[PsI.rs]
  dsimp only
  split
  ·rename_i ht
   have hk:(topI l).toNat<(List.replicate qs.length (0:Int)).length:=by simp;omega
   have hf:0≤PsI.first ⟨qs,topI l,p.top,p.least,q⟩∧PsI.first ⟨qs,topI l,p.top,p.least,q⟩≤qs.getD (topI l).toNat 0∧PsI.first ⟨qs,topI l,p.top,p.least,q⟩≤q:=by
    have:=gb (topI l).toNat
    simp only[PsI.first]
    omega
   have hs:((List.replicate qs.length (0:Int)).set (topI l).toNat (PsI.first ⟨qs,topI l,p.top,p.least,q⟩)).sum=PsI.first ⟨qs,topI l,p.top,p.least,q⟩:=by
    rw[zSl hk,zMt,yPe];omega
   have:=sX (i:=⟨qs,(List.replicate qs.length 0).set (topI l).toNat (PsI.first ⟨qs,topI l,p.top,p.least,q⟩),p.least,q-PsI.first ⟨qs,topI l,p.top,p.least,q⟩⟩) r1 (by simp) (fun n=>by
    dsimp only
    rw[zLf hk,yPe]
    have:=gb n
    split
    ·rename_i e;rw[e];exact⟨hf.1,hf.2.1,(gb _).2⟩
    ·omega) (by dsimp only;rw[hs];omega) q3
   dsimp only at this
   rw[hs]at this
   have e:PsI.first ⟨qs,topI l,p.top,p.least,q⟩+(q-PsI.first ⟨qs,topI l,p.top,p.least,q⟩)=q:=by omega
   rw[e]at this
   exact this
  ·have:=sX (i:=⟨qs,List.replicate qs.length 0,p.least,q⟩) r1 (by simp) (fun n=>by
    dsimp only
    rw[yPe]
    have:=gb n
    omega) (by dsimp only;rw[zMt];omega) q3
   dsimp only at this
   rw[zMt,Int.zero_add]at this
   exact this
 ·have c3:p.rule=3:=by omega
  rw[yWs c1,yWs c2,yWt c3,zBf,yWt ⟨hr,q5,q6,q3⟩]
  rw[SpI.rs]
  dsimp only
  obtain⟨d1,d2⟩:=yPd r2 q5 q6
  have hr2:yT qs (q*p.part / 100)=true:=yAe r1 d1 r3 (by omega)
  have hfs:=rV qs (q*p.part / 100) (fun x hx=>by have:=r3 x hx;omega) d1 (by omega)
  have e0:uO qs (q*p.part / 100)=uE qs (q*p.part / 100):=by rw[uO,yWt hr2]
  have:=sX (i:=⟨qs,uO qs (q*p.part / 100),p.least,q-q*p.part / 100⟩) r1 (by dsimp only;rw[e0];exact hfs.len) (fun n=>by
   dsimp only
   rw[e0]
   exact⟨(hfs.bd n).1,(hfs.bd n).2,(gb n).2⟩) (by dsimp only;rw[e0,hfs.sum];omega) q3
  dsimp only at this
  rw[e0,hfs.sum]at this
  rw[e0]
  have e:q*p.part / 100+(q-q*p.part / 100)=q:=by omega
  rw[e]at this
  exact this
theorem zYm {p:Prd} {l:List zJ} {q:Int} (hr:yT (l.map (·.qty)) q=false):qQ ⟨p,l,q⟩=[]:=by
 have eqs:(AlI.qs ⟨p,l,q⟩)=l.map (·.qty):=rfl
 rw[qQ]
 simp only[eqs,uO,zEc,zBf,hr]
 simp
open Go Cv Go.Proofs
theorem zPw:motherC.ok Tryz.prog 206:=okw (V:=z2n) mixed gok0 0 (fun _=>[]) (fun _=>[]) [] Tryz.func206 fun(b:Bool) _=>by
 unfold z2n
 cases b<;>exact⟨(),by decide,trivial⟩
theorem zWn:mgoodC.ok Tryz.prog 207:=okw (V:=z9n) mixed gok0 0 (fun _=>[]) (fun _=>[]) [] Tryz.func207 fun(i:GoI) _=>by
 obtain⟨s,p,x⟩:=i
 unfold z9n
 cases s
 ·refine Cv.cnd.mk (fun _=>zK (fun c=>⟨(),?_,trivial⟩) (fun c=>Cv.cnd.mk (fun e=>by simp[zD]at e) (fun _=>⟨(),?_,trivial⟩))) (fun e=>by simp[zD]at e)
  ·exact yXi c
  ·exact yXf c
 ·exact Cv.cnd.mk (fun e=>by simp[zD]at e) (fun _=>Cv.cnd.mk (fun _=>⟨(),rfl,trivial⟩) (fun e=>by simp[zD]at e))
theorem zWu {L:List zJ} {s:Int}:((bestL L s).2=true∧∃o∈L,o.side=s∧o.price=(bestL L s).1.price)∨(bestL L s=(⟨0,0,0⟩,false)∧∀o∈L,o.side≠s):=by
 rw[bestL]
 cases hl:uR L s with
 |nil=>
  refine .inr ⟨rfl,fun o ho e=> ?_⟩
  rw[uR]at hl
  cases hf:L.filter fun o=>decide (o.side=s)with
  |nil=>
   rw[List.filter_eq_nil_iff]at hf
   have:=hf o ho
   simp[e]at this
  |cons x y=>
   rw[hf,grp]at hl
   split at hl
   ·cases hl
   ·split at hl<;>cases hl
 |cons v vs=>
  refine .inl ⟨rfl,?_⟩
  rw[uR]at hl
  obtain⟨o,r,e1,e2⟩:=zMy hl
  have:o∈L.filter fun o=>decide (o.side=s):=by rw[e1];exact yWy
  rw[yYv]at this
  exact⟨o,this.1,by simpa using this.2,e2⟩
theorem zSi {L:List zJ} {s:Int} (h:∀o∈L,-2000000≤o.price∧o.price≤2000000): -2000000≤(bestL L s).1.price∧(bestL L s).1.price≤2000000:=by
 rcases zWu (L:=L) (s:=s)with⟨_,o,ho,_,e⟩|⟨e,_⟩
 ·rw[← e];exact h o ho
 ·rw[e];constructor<;>decide
theorem zJc (L:List zJ):(qO L).p1=(bestL L 1).1.price∧(qO L).q1=(bestL L 1).1.qty∧(qO L).has1=(bestL L 1).2∧(qO L).p2=(bestL L 2).1.price∧(qO L).q2=(bestL L 2).1.qty∧(qO L).has2=(bestL L 2).2:=by
 have h:∀s,(bestL L s).2=true∨bestL L s=(⟨0,0,0⟩,false):=fun s=>by
  rcases zWu (L:=L) (s:=s)with⟨h,_⟩|⟨h,_⟩
  ·exact .inl h
  ·exact .inr h
 rw[qO,Top.sell,Top.buy]
 rcases h 1 with h1|h1<;>rcases h 2 with h2|h2<;>simp[h1,h2,top0]
theorem BOk.prices {p:Prd} {B:List (List zJ)} (h:BOk p B) {k:Nat} {L:List zJ} (hL:B[k]? =some L):∀o∈L,-2000000≤o.price∧o.price≤2000000:=fun o ho=>tE h.pc (h.pr k L hL o ho)
theorem BOk.tops {p:Prd} {B:List (List zJ)} (h:BOk p B):wV (B.map qO):=by
 have:=xP p
 refine⟨by rw[yWu,h.bl];omega,fun t ht=> ?_⟩
 obtain⟨L,hL,rfl⟩:=yYj.1 ht
 obtain⟨k,hk⟩:=yZr.1 hL
 have b1:=zSi (s:=1) (h.prices hk)
 have b2:=zSi (s:=2) (h.prices hk)
 rw[(zJc L).1,(zJc L).2.2.2.1]
 exact⟨by constructor<;>omega,by constructor<;>omega⟩
theorem MSt.Rep.tops {s:MSt} {p:Prd} {B:List (List zJ)} (h:s.Rep p B):s.tops=B.map qO:=by
 rw[MSt.tops]
 apply y0d
 intro k
 rw[yXq,yXq]
 by_cases hk:k<B.length
 ·obtain⟨L,hL⟩:=zW hk
  obtain⟨b,hb⟩:=zW (l:=s.books) (i:=k) (by rw[h.bl];exact hk)
  rw[hL,hb,yYu,yYu,(h.bk k b L hb hL).top]
 ·rw[yXw (by rw[h.bl];omega),yXw (by omega)];rfl
theorem MSt.Rep.cnt {s:MSt} {p:Prd} {B:List (List zJ)} (h:s.Rep p B) (hB:B.length≤1000000):s.cntOk:=by
 refine⟨by rw[h.bl];exact hB,fun b hb=> ?_⟩
 obtain⟨k,hk⟩:=yZr.1 hb
 have hlt:=(yWv.1 hk).1
 rw[h.bl]at hlt
 obtain⟨L,hL⟩:=zW hlt
 exact(h.bk k b L hk hL).cnt
theorem zUi {b:Book} {L:List zJ} (h:b.Rep L) (sd:Bool):b.best (b.side sd)=bestL L (zD sd):=by
 obtain⟨Q,c,ht,rfl⟩:=h
 cases sd
 ·exact c.bestL (.inl rfl)
 ·exact c.bestL (.inr rfl)
theorem zDk (sd:Bool):zD sd=1∨zD sd=2:=by cases sd;exact .inl rfl;exact .inr rfl
theorem yTl (i:NxI) (h:nextC.cnd i):yLt i:=by
 obtain⟨hR,hB,h0,h1⟩:i.s.Rep i.p i.B∧BOk i.p i.B∧0≤i.inst∧i.inst<i.B.length:=h
 have hcl:=xP i.p
 have hbl:=hB.bl
 have hsl:=hR.bl
 obtain⟨k,hk⟩:∃k:Nat,i.inst=k:=⟨i.inst.toNat,by omega⟩
 obtain⟨L,hL⟩:=zW (l:=i.B) (i:=k) (by omega)
 obtain⟨b,hb⟩:=zW (l:=i.s.books) (i:=k) (by omega)
 have hbR:=hR.bk k b L hb hL
 have hps:i.s.p.small:=by rw[hR.ep];exact hB.ps
 have hto:wV i.s.tops:=by rw[hR.tops];exact hB.tops
 have hnx:yQ i.p i.B i.inst (zD i.sd)=if((bestL L (zD i.sd)).2 && !((zU (xO ⟨i.s.p,i.s.tops,i.inst⟩ (zD i.sd)) (zD i.sd)).2 && btr (zD i.sd) (zU (xO ⟨i.s.p,i.s.tops,i.inst⟩ (zD i.sd)) (zD i.sd)).1.price (bestL L (zD i.sd)).1.price))=true then(⟨(bestL L (zD i.sd)).1.price,(bestL L (zD i.sd)).1.qty,⟨0,0⟩,⟨0,0⟩⟩,false,true)else((zU (xO ⟨i.s.p,i.s.tops,i.inst⟩ (zD i.sd)) (zD i.sd)).1,(zU (xO ⟨i.s.p,i.s.tops,i.inst⟩ (zD i.sd)) (zD i.sd)).2,(zU (xO ⟨i.s.p,i.s.tops,i.inst⟩ (zD i.sd)) (zD i.sd)).2):=by
  rw[yQ,hR.tops,hR.ep,hk,yXn,zT hL]
 have hbest:=zUi hbR i.sd
 unfold yLt fY zKn qT gA zCx wT zJj zV zJp z9 zFk fM zGa
 have hcnt:i.s.cntOk:=hR.cnt (by omega)
 have hql:(xO ⟨i.s.p,i.s.tops,i.inst⟩ (zD i.sd)).length≤1000000:=by
  have:=y0m (y0b (fun q=>decide (i.s.p.price i.inst q.price=0)) _) (zCf ⟨i.s.p,i.s.tops,i.inst⟩ (zD i.sd))
  exact y0m this (by decide)
 refine(fun hT=>⟨⟨i.s,rfl,rfl,rfl,rfl,rfl,rfl,rfl,rfl,rfl,rfl,rfl,rfl,rfl,hcnt,fun _ _=>⟨⟨rfl,trivial,rfl,rfl,rfl,rfl,rfl,rfl,rfl,rfl,trivial,trivial⟩,⟨⟨⟨i.s.p,i.s.tops,i.inst⟩,i.sd⟩,rfl,rfl,rfl,rfl,rfl,rfl,rfl,rfl,rfl,rfl,rfl,rfl,rfl,rfl,⟨hps,hto⟩,fun _ _=>⟨hT,hT⟩⟩,⟨rfl,trivial,rfl,rfl,rfl,rfl,rfl,rfl,rfl,rfl,trivial,trivial⟩,⟨⟨⟨i.s.p,i.s.tops,i.inst⟩,i.sd⟩,rfl,rfl,rfl,rfl,rfl,rfl,rfl,rfl,rfl,rfl,rfl,rfl,rfl,rfl,⟨hps,hto⟩,fun _ _=>hT⟩⟩⟩,
  ⟨rfl,trivial,rfl,rfl,rfl,rfl,rfl,rfl,rfl,rfl,trivial,trivial⟩,⟨i.s,rfl,rfl,rfl,rfl,rfl,rfl,rfl,rfl,rfl,rfl,rfl,rfl,rfl,hcnt,fun _ _=>⟨⟨rfl,trivial,rfl,rfl,rfl,rfl,rfl,rfl,rfl,rfl,trivial,trivial⟩,⟨⟨⟨i.s.p,i.s.tops,i.inst⟩,i.sd⟩,rfl,rfl,rfl,rfl,rfl,rfl,rfl,rfl,rfl,rfl,rfl,rfl,rfl,rfl,⟨hps,hto⟩,fun _ _=>hT⟩⟩⟩⟩) ?_
 refine⟨⟨xO ⟨i.s.p,i.s.tops,i.inst⟩ (zD i.sd),zD i.sd⟩,rfl,rfl,⟨zDk _,hql⟩,fun _ _=>⟨⟨h0,by omega⟩,by omega,b,by rw[hk];exact hb,⟨i.sd,b⟩,rfl,rfl,hbR.cnt,fun _ _=>⟨b,rfl,rfl,by omega,?_⟩⟩⟩
 dsimp only
 rw[hbest]
 generalize bestL L (zD i.sd)=l at*
 generalize zU (xO ⟨i.s.p,i.s.tops,i.inst⟩ (zD i.sd)) (zD i.sd)=bq at*
 have hset:i.s.books.set i.inst.toNat b=i.s.books:=vV (by rw[hk];exact hb)
 rw[hset]
 refine Cv.cnd.mk (fun c1=>Cv.cnd.mk (fun c2=>⟨⟨zD i.sd,bq.1.price,l.1.price⟩,rfl,rfl,rfl,trivial,fun _ _=>Cv.cnd.mk (fun c3=> ?_) (fun c3=> ?_)⟩) (fun c2=> ?_)) (fun c1=> ?_)
 ·dsimp only at c3
  rw[yWt (by rw[c1,c2];simpa using c3)]at hnx
  rw[hnx];exact⟨(),k0q⟩
 ·dsimp only at c3
  rw[yWs (by rw[c1,c2];simpa using c3)]at hnx
  rw[hnx];exact⟨(),k0q⟩
 ·rw[yWt (by rw[c1,c2];rfl)]at hnx
  rw[hnx];exact⟨(),k0q⟩
 ·rw[yWs (by rw[c1];simp)]at hnx
  rw[hnx];exact⟨(),k0q⟩
theorem yJp:nextC.ok Tryz.prog 234:=okw mixed (gokc zXw (gokc zOk (gokc zVr (gokc zJa (gokc bI gok0))))) 0 (fun _=>[]) (fun _=>[]) [0] Tryz.func234 yTl
theorem z3z (i:RsI) (k:Nat):(i.add k).length=i.out.length:=by
 have:∀(l:List (Nat×Int)) (o:List Int),(l.foldl (fun o y=>o.set y.1 (IntKind.i64.wrap (o.getD y.1 0+y.2))) o).length=o.length:=by
  intro l
  induction l with
  |nil=>intro o;rfl
  |cons x l ih=>intro o;rw[y0o,ih,yXv]
 exact this _ _
theorem zVy (l:List Int) (q:Int):(uO l q).length≤l.length:=by
 rw[uO];split
 ·rw[sO];exact yYa _
 ·exact yYc _
theorem z7e (i:AlI):(qQ i).length≤i.l.length:=by
 have hq:i.qs.length=i.l.length:=by simp[AlI.qs]
 rw[qQ,← hq]
 repeat' split
 ·exact zVy _ _
 ·rw[zEc];split
  ·rw[mZ,z3z,PsI.rs]
   split
   ·simp
   ·simp
  ·exact yYc _
 ·rw[zBf];split
  ·rw[mZ,z3z];exact zVy _ _
  ·exact yYc _
 ·exact yYc _
theorem zJr {inst s:Int}:∀{os:List zJ} {sh:List Int} {j:Nat} {o:zJ} {k:Int},os[j]? =some o→sh[j]? =some k→xN inst s (os.take (j+1)) (sh.take (j+1))=xN inst s (os.take j) (sh.take j)++(if 0<k then[⟨o.id,inst,s,o.price,k,o.qty-k⟩]else[])
 |[],_,_,_,_,h,_=>by simp at h
 |_::_,[],_,_,_,_,h=>by simp at h
 |o::os,k::sh,0,_,_,h,h2=>by
  cases h;cases h2
  rw[yYd,yYd,y0i,y0i,y0i,y0i,xN]
  split<;>rfl
 |o::os,k::sh,j+1,o',k',h,h2=>by
  rw[yYd,yYd,xN,yYd,yYd,xN,zJr (os:=os) (sh:=sh) (j:=j) h h2]
  split<;>rfl
theorem zOo {inst s:Int}:∀(os:List zJ) (sh:List Int),xN inst s (os.take sh.length) (sh.take sh.length)=xN inst s os sh
 |[],sh=>by simp
 |_::_,[]=>by simp[xN]
 |o::os,k::sh=>by
  rw[yXa,yYd,yYd,xN,xN,zOo os sh]
theorem z6a (B:List (List zJ)) (a b:List dM):kB B (a++b)=kB (kB B a) b:=y2u
theorem rW (B:List (List zJ)) (id q:Int):(qV B id q).1.length=B.length:=by
 rw[qV];split
 ·rfl
 ·simp
theorem vW:∀(fs:List dM) (B:List (List zJ)),(kB B fs).length=B.length
 |[],B=>rfl
 |f::fs,B=>by
  show(kB (qV B f.id f.qty).1 fs).length=_
  rw[vW fs,rW]
theorem yOt {p:Prd} (h:p.check=0):i64r p.least∧i64r p.top∧i64r p.part:=by
 have ok:=jI h
 have:=ok.q1
 have:=ok.q2
 have:=ok.q3
 have:=ok.q4
 have:=ok.q5
 have:=ok.q6
 exact⟨⟨by omega,by omega⟩,⟨by omega,by omega⟩,⟨by omega,by omega⟩⟩
theorem yQa (i:TrI) (h:tradeC.cnd i):yDk i:=by
 obtain⟨hR,hB,h0,h1,hq⟩:i.s.Rep i.p i.B∧BOk i.p i.B∧0≤i.inst∧i.inst<i.B.length∧i64r i.q:=h
 have hcl:=xP i.p
 have hbl:=hB.bl
 have hsl:=hR.bl
 have ep:=hR.ep
 obtain⟨k,hk⟩:∃k:Nat,i.inst=k:=⟨i.inst.toNat,by omega⟩
 obtain⟨L,hL⟩:=zW (l:=i.B) (i:=k) (by omega)
 obtain⟨b,hb⟩:=zW (l:=i.s.books) (i:=k) (by omega)
 have hbR:=hR.bk k b L hb hL
 have hbest:=zUi hbR i.sd
 have hos:atL L (zD i.sd) (bestL L (zD i.sd)).1.price=i.os:=by rw[TrI.os,zSw,hk,yXn,zT hL]
 have hset:i.s.books.set i.inst.toNat b=i.s.books:=vV (by rw[hk];exact hb)
 have hosl:i.os.length≤250:=by
  rw[← hos];exact y0m (y0b _ _) hbR.ords.2.2
 have hsh:i.sh.length≤i.os.length:=z7e _
 obtain⟨k1,k2,k3⟩:=yOt hB.pc
 have hsb:∀(j:Nat) (n:Int),i.sh[j]? =some n→n≤1000000:=by
  intro j n hn
  cases hr:yT (i.os.map (·.qty)) i.q with
  |false=>
   have:i.sh=[]:=zYm hr
   rw[this]at hn;cases hn
  |true=>
   have:=(zTp hB.pc hr).bd j
   have e:(qQ ⟨i.p,i.os,i.q⟩).getD j 0=n:=zT hn
   rw[e]at this
   have:=(z5g (kK hr).2.2.1 j).2
   omega
 unfold yDk zGw v7 f9 bP fL hP zV wT dI
 refine⟨⟨h0,by omega⟩,by omega,b,by rw[hk];exact hb,⟨i.sd,b⟩,rfl,rfl,hbR.cnt,fun _ _=> ?_⟩
 refine⟨b,rfl,rfl,by omega,b,by rw[hset,hk];exact hb,⟨b,L,i.sd,(bestL L (zD i.sd)).1.price⟩,rfl,by dsimp only;rw[hbest],rfl,hbR,fun _ _=> ?_⟩
 dsimp only
 try rw[hbest]
 rw[hset,hos]
 refine⟨b,rfl,rfl,by omega,⟨i.p,i.os,i.q⟩,by rw[ep],by rw[ep],by rw[ep],by rw[ep],by rw[ep],by rw[ep],by rw[ep],by rw[ep],by rw[ep],by rw[ep],by rw[ep],rfl,rfl,⟨by dsimp only;omega,hq,k1,k2,k3⟩,fun _ _=> ?_⟩
 have esh:qQ ⟨i.p,i.os,i.q⟩=i.sh:=rfl
 rw[esh,hset,xC,yWu]
 refine⟨(0,i.s),rfl,rfl,rfl,rfl,rfl,rfl,rfl,rfl,rfl,rfl,rfl,rfl,rfl,rfl,rfl,fun j=>j.2.Rep i.p (kB i.B (i.fs j.1))∧j.1≤i.sh.length,fun j=>i.sh.length-j.1,⟨hR,yYc _⟩,fun j hj=> ?_⟩
 obtain⟨hjR,hjl⟩:=hj
 obtain⟨j,sj⟩:=j
 dsimp only at hjR hjl ⊢
 refine zK (fun c=> ?_) (fun c=> ?_)
 ·obtain⟨n,hn⟩:=zW (l:=i.sh) (i:=j) (by omega)
  obtain⟨o,ho⟩:=zW (l:=i.os) (i:=j) (by omega)
  have hst:=zJr (inst:=i.inst) (s:=zD i.sd) ho hn
  have hoL:o∈L:=by
   have:=yXd ho
   rw[← hos]at this
   exact(yYv.1 this).1
  have hoq:=(hbR.ords.1 o hoL).q
  have hnb:=hsb j n hn
  refine⟨⟨by omega,by omega⟩,n,elI hn,zK (fun c2=> ?_) (fun c2=> ?_)⟩
  ·rw[yWt (show 0<n from c2)]at hst
   have hfl:(i.fs j).length≤j:=by
    have:∀(os:List zJ) (sh:List Int),(xN i.inst (zD i.sd) os sh).length≤os.length:=by
     intro os
     induction os with
     |nil=>intro sh;exact yYa 0
     |cons o os ih=>
      intro sh
      cases sh with
      |nil=>exact yYc _
      |cons k sh=>
       have:=ih sh
       rw[xN]
       split
       ·simp only[yXa];omega
       ·simp only[yXa];omega
    exact y0m (this _ _) (by rw[yXo];omega)
   refine⟨⟨by omega,by omega⟩,o.id,o.side,o.price,o.qty,o.top,yOy ho,⟨sj,i.p,kB i.B (i.fs j),o.id,n⟩,rfl,rfl,rfl,⟨hjR,by dsimp only;rw[vW];omega⟩,fun s' hs'=>⟨by rw[yWu];omega,(j+1,s'),wjn (by omega),rfl,?_,⟨?_,by dsimp only;omega⟩,by dsimp only;omega,k0q⟩⟩
   ·show List.map yS (xN i.inst (zD i.sd) (i.os.take (j+1)) (i.sh.take (j+1)))=_
    rw[hst,yXe,w64 (by omega)];rfl
   ·show s'.Rep i.p (kB i.B (xN i.inst (zD i.sd) (i.os.take (j+1)) (i.sh.take (j+1))))
    rw[hst,z6a];exact hs'
  ·rw[yWs (show ¬0<n from c2),yXp]at hst
   refine⟨(j+1,sj),wjn (by omega),rfl,?_,⟨?_,by dsimp only;omega⟩,by dsimp only;omega,k0q⟩
   ·show List.map yS (xN i.inst (zD i.sd) (i.os.take (j+1)) (i.sh.take (j+1)))=_
    rw[hst];rfl
   ·show sj.Rep i.p (kB i.B (xN i.inst (zD i.sd) (i.os.take (j+1)) (i.sh.take (j+1))))
    rw[hst];exact hjR
 ·have hje:j=i.sh.length:=by omega
  subst hje
  have hfa:i.fs i.sh.length=qH i.p i.B i.inst (zD i.sd) i.q:=zOo _ _
  rw[hfa]at hjR ⊢
  exact⟨sj,rfl,rfl,hjR⟩
theorem yAg:tradeC.ok Tryz.prog 235:=okw mixed (gokc zJa (gokc yTa (gokc yCh (gokc zEa gok0)))) 0 (fun _=>[]) (fun i=>yOj i) [0] Tryz.func235 yQa
open Go Cv Go.Proofs
structure j8 where
 price:Int
 qty:Int
 implied:Bool
 fills:List dM
 deriving DecidableEq
def jS (t:j8):List D:=[.v (.int .i64 t.price),.v (.int .i64 t.qty),.v (.bool t.implied),.ro 6 (t.fills.map yS)]
def c9 (p:Prd) (B:List (List zJ)) (inst:Int) (sd:Bool) (price qty:Int):Option (j8×List (List zJ)):=
 let n:=yQ p B inst (zD (!sd))
 if(n.2.2 && (dV sd price n.1.price && decide (1≤n.1.qty)))=true then
  if n.2.1=true then
   let f1:=qH p B n.1.a.inst n.1.a.side (min qty n.1.qty)
   let f2:=qH p (kB B f1) n.1.b.inst n.1.b.side (min qty n.1.qty)
   some (⟨n.1.price,min qty n.1.qty,true,f1++f2⟩,kB (kB B f1) f2)
  else
   let f:=qH p B inst (zD (!sd)) (min qty n.1.qty)
   some (⟨n.1.price,min qty n.1.qty,false,f⟩,kB B f)
 else none
structure yMn where
 steps:List j8
 left:Int
 B:List (List zJ)
def zIc (p:Prd) (inst:Int) (sd:Bool) (price:Int):Nat→List (List zJ)→Int→yMn
 |0,B,q=>⟨[],q,B⟩
 |n+1,B,q=>if q≤0 then⟨[],q,B⟩else match c9 p B inst sd price q with
  |none=>⟨[],q,B⟩
  |some (t,B')=>let r:=zIc p inst sd price n B' (q-t.qty);⟨t::r.steps,r.left,r.B⟩
def j0 (p:Prd) (B:List (List zJ)) (inst:Int) (sd:Bool) (price q:Int):yMn:=zIc p inst sd price q.toNat B q
structure RunI where
 s:MSt
 p:Prd
 B:List (List zJ)
 inst:Int
 sd:Bool
 price:Int
 q:Int
def RunI.r (i:RunI):yMn:=j0 i.p i.B i.inst i.sd i.price i.q
def runC:Con where
 ι:=RunI
 pat:=fun i=>[.nm 0 0,zA i.inst,zA (zD i.sd),zA i.price,zA i.q]
 pre:=fun i=>[zF i.s]
 cnd:=fun i=>i.s.Rep i.p i.B∧BOk i.p i.B∧(0≤i.inst∧i.inst<i.B.length)∧1≤i.q∧i.q≤1000000
 alts:=fun i=>[{o:=MSt,res:=fun _=> .tup [.own 1,zA i.r.left],post:=fun s=>[zF s,.own 321 4 (i.r.steps.map jS)],rel:=fun s=>s.Rep i.p i.r.B}]
structure zLz where
 s:MSt
 B:List (List zJ)
 steps:List j8
 q:Int
def yVa:List SAnn:=[
 {ι:=zLz,slots:=fun j=>[(0,.nm 0 0),(12,.own 1),(4,zA j.q)],rows:=fun j=>[zF j.s,.own 321 4 (j.steps.map jS)]},
 {ι:=Unit,slots:=fun _=>[],rows:=fun _=>[],un:=3}]
open Go Cv Go.Proofs
def zKj (a:zLz→Nat) (b:zLz) (c:zLz) (d:RunI):Prop:=a b<a c∧AObj.fro 1 (iE d.s.p.months)=AObj.fro 1 (iE d.s.p.months)∧AObj.fro 1 (iE d.s.p.settle)=AObj.fro 1 (iE d.s.p.settle)
def zDw (a:TrI):Prop:=a.s.Rep a.p a.B∧BOk a.p a.B∧0≤a.inst∧a.inst<(↑a.B.length:Int)∧(-9223372036854775808)≤a.q∧a.q≤9223372036854775807
def zKl (a:RunI) (b:zLz) (c:NxI):Prop:=∃(d:MSt),a.r.left=b.q∧zF d=zF c.s∧List.map jS a.r.steps=List.map jS b.steps∧d.Rep a.p a.r.B
def sA (a:TrI):=(List.map yS (hP a))
def zUa (a:RunI):Prop:=∃(b:zLz),b.q=a.q∧sb b.s.p.code=sb a.s.p.code∧b.s.p.tick=a.s.p.tick∧b.s.p.low=a.s.p.low∧b.s.p.high=a.s.p.high∧b.s.p.wide=a.s.p.wide∧b.s.p.rule=a.s.p.rule∧b.s.p.top=a.s.p.top∧b.s.p.least=a.s.p.least∧b.s.p.part=a.s.p.part∧AObj.objs 241 Book 6 zS b.s.books none=AObj.objs 241 Book 6 zS a.s.books none∧yU b.s.wh=yU a.s.wh∧AObj.fro 1 (iE b.s.p.months)=AObj.fro 1 (iE a.s.p.months)∧AObj.fro 1 (iE b.s.p.settle)=AObj.fro 1 (iE a.s.p.settle)∧List.map jS b.steps=[]∧∃(c:zLz→Prop),∃(d:zLz→Nat),c b∧∀(e:zLz),c e→cnd (decide (e.q>0)) (∃(f:Bool),zD f=zD a.sd∧True∧∀(g:Unit),True→∃(h:NxI),h.inst=a.inst∧zD h.sd=zD !f∧zF h.s=zF e.s∧(h.s.Rep h.p h.B∧BOk h.p h.B∧0≤h.inst∧h.inst<(↑h.B.length:Int))∧∀(j:Unit),True→cnd (!(z9 h).snd.snd) (zKl a e h) (∃(k:GoI),zD k.s=zD a.sd∧k.p=a.price∧k.x=(z9 h).fst.price∧True∧∀(l:Unit),True→cnd (!dV k.s k.p k.x) (zKl a e h) (cnd (z9 h).snd.fst (∃(m:TrI),m.inst=(z9 h).fst.a.inst∧zD m.sd=(z9 h).fst.a.side∧m.q=min e.q (z9 h).fst.qty∧zF m.s=zF h.s∧(zDw m)∧∀(n:MSt),n.Rep m.p (fL m)→True∧(sA m).length*(48:Nat)≤(140737488355328:Nat)∧∃(p:TrI),p.inst=(z9 h).fst.b.inst∧zD p.sd=(z9 h).fst.b.side∧p.q=min e.q (z9 h).fst.qty∧zF p.s=zF n∧(zDw p)∧∀(q:MSt),q.Rep p.p (fL p)→True∧((sA m).length+(sA p).length)*(48:Nat)≤(140737488355328:Nat)∧((List.map jS e.steps).length+1)*(48:Nat)≤(140737488355328:Nat)∧∃(r:zLz),r.q=IntKind.i64.wrap (e.q-min e.q (z9 h).fst.qty)∧zF r.s=zF q∧List.map jS r.steps=List.map jS e.steps++[[dI ((z9 h).fst.price),dI (min e.q (z9 h).fst.qty),D.v (.bool (z9 h).snd.fst),D.ro 6 (List.map yS (hP m)++List.map yS (hP p))]]∧c r∧zKj d r e a) (∃(m:Bool),zD m=zD a.sd∧True∧∀(n:Unit),True→min e.q (z9 h).fst.qty=min e.q (z9 h).fst.qty∧∃(p:TrI),p.inst=a.inst∧zD p.sd=zD !m∧p.q=min e.q (z9 h).fst.qty∧zF p.s=zF h.s∧(zDw p)∧∀(q:MSt),q.Rep p.p (fL p)→((List.map jS e.steps).length+1)*(48:Nat)≤(140737488355328:Nat)∧∃(r:zLz),r.q=IntKind.i64.wrap (e.q-min e.q (z9 h).fst.qty)∧zF r.s=zF q∧List.map jS r.steps=List.map jS e.steps++[[dI ((z9 h).fst.price),dI (min e.q (z9 h).fst.qty),D.v (.bool (z9 h).snd.fst),D.ro 6 (sA p)]]∧c r∧zKj d r e a)))) (∃(f:MSt),a.r.left=e.q∧zF f=zF e.s∧List.map jS a.r.steps=List.map jS e.steps∧f.Rep a.p a.r.B)
def dO (a:RunI):Prop:=∃(b:MSt),a.r.left=a.q∧sb b.p.code=sb a.s.p.code∧b.p.tick=a.s.p.tick∧b.p.low=a.s.p.low∧b.p.high=a.s.p.high∧b.p.wide=a.s.p.wide∧b.p.rule=a.s.p.rule∧b.p.top=a.s.p.top∧b.p.least=a.s.p.least∧b.p.part=a.s.p.part∧AObj.objs 241 Book 6 zS b.books none=AObj.objs 241 Book 6 zS a.s.books none∧yU b.wh=yU a.s.wh∧AObj.fro 1 (iE b.p.months)=AObj.fro 1 (iE a.s.p.months)∧AObj.fro 1 (iE b.p.settle)=AObj.fro 1 (iE a.s.p.settle)∧List.map jS a.r.steps=[]∧b.Rep a.p a.r.B
def ySe (i:RunI):Prop:=
 cnd (decide (i.inst≥0)) (cnd (decide (i.inst<(↑i.s.books.length:Int))) (cnd (zD i.sd==1) (cnd (decide (i.q≥1)) (cnd (!decide (i.q≤1000000)) (dO i) (zUa i)) (dO i)) (cnd (zD i.sd==2) (cnd (decide (i.q≥1)) (cnd (!decide (i.q≤1000000)) (dO i) (zUa i)) (dO i)) (dO i))) (dO i)) (dO i)
open Go Cv Go.Proofs
structure QOk (T:List Top) (q:Quote):Prop where
 a:0≤q.a.inst∧q.a.inst<T.length
 b:0≤q.b.inst∧q.b.inst<T.length
 sa:q.a.side=1∨q.a.side=2
 sb:q.b.side=1∨q.b.side=2
 ne:q.a.inst≠q.b.inst
 ha:(T.getD q.a.inst.toNat top0).has q.a.side=true
 hb:(T.getD q.b.inst.toNat top0).has q.b.side=true
 qty:q.qty=min ((T.getD q.a.inst.toNat top0).qty q.a.side) ((T.getD q.b.inst.toNat top0).qty q.b.side)
theorem zZu {T:List Top} {a b:Leg} {less:Bool} {q:Quote} (h:q∈mkq T a b less) (h1:0≤a.inst∧a.inst<T.length) (h2:0≤b.inst∧b.inst<T.length) (h3:a.side=1∨a.side=2) (h4:b.side=1∨b.side=2) (hne:a.inst≠b.inst):QOk T q∧q.a=a∧q.b=b:=by
 cases less
 all_goals
  simp only[mkq,yXm,↓reduceIte]at h
  split at h
  ·rename_i hc
   simp only[yXg]at hc
   rw[yYl]at h
   subst h
   exact⟨⟨h1,h2,h3,h4,hne,hc.1.1,hc.1.2,rfl⟩,rfl,rfl⟩
  ·cases h
theorem yPb:∀n≤6,∀k<n+n*(n-1) / 2,n≤k→(qW n k n 0).1≠(qW n k n 0).2.1:=by decide
theorem z2i {p:Prd} (hc:p.check=0) {k:Nat} (hk:k<p.count) (hs:(p.legs k).2.2=true):(p.legs k).1≠(p.legs k).2.1:=by
 have m6:=(jI hc).m6
 have hk':=hk
 rw[Prd.count,yWt hc]at hk'
 by_cases h:k<p.months.length
 ·rw[Prd.legs,yWs (by omega),yWt (by omega)]at hs
  cases hs
 ·rw[Prd.legs,yWs (by omega),yWs (by omega)]
  exact yPb p.months.length m6 k hk' (by omega)
theorem z7g:∀n≤6,∀a<n,∀b<n,a<b→(yJ n a:Int)+b-a-1≥n:=by decide
theorem zPl {p:Prd} (hc:p.check=0) {a b:Nat} (hab:a<b) (hb:b<p.months.length):(p.months.length:Int)≤(p.spread a b).1:=by
 have m6:=(jI hc).m6
 have:=z7g p.months.length m6 a (by omega) b hb hab
 rw[Prd.spread,yWs (by omega)]
 simpa using this
theorem z1y {p:Prd} (hc:p.check=0) {T:List Top} (hT:T.length=p.count) {inst:Int} {s:Int} (hs:s=1∨s=2) {q:Quote} (h:q∈qU ⟨p,T,inst⟩ s):QOk T q∧0≤inst∧inst<p.count∧
 (((p.legs inst).2.2=true∧q.a=⟨(p.legs inst).1,s⟩∧q.b=⟨(p.legs inst).2.1,3-s⟩)∨(inst<p.months.length∧q.a.inst≠inst∧(p.months.length:Int)≤q.a.inst)):=by
 rw[qU]at h
 dsimp only at h
 split at h
 ·cases h
 ·rename_i hn
  have h0:0≤inst∧inst<p.count:=by omega
  obtain⟨k,rfl⟩:∃k:Nat,inst=k:=⟨inst.toNat,by omega⟩
  have hk:k<p.count:=by omega
  have hge:=zJv hc
  split at h
  ·rename_i hl
   obtain⟨q',hq',rfl⟩:=yYj.1 h
   have hle:=dN hc hk
   rcases hle with⟨_,l1,l2,l3,l4⟩|⟨e,_⟩
   ·obtain⟨ok,e1,e2⟩:=zZu hq' (by dsimp only;omega) (by dsimp only;omega) (by dsimp only;omega) hs (fun e=>z2i hc hk hl e.symm)
    refine⟨⟨by dsimp only[dW];omega,by dsimp only[dW];omega,hs,by dsimp only[dW];omega,z2i hc hk hl,?_,?_,?_⟩,h0.1,h0.2,.inl ⟨hl,rfl,rfl⟩⟩
    ·have:=ok.hb;rw[e2]at this;exact this
    ·have:=ok.ha;rw[e1]at this;exact this
    ·have:=ok.qty;rw[e1,e2]at this;dsimp only[dW];rw[this];exact Int.min_comm _ _
   ·rw[e]at hl;cases hl
  ·rename_i hl
   have hm:k<p.months.length:=by
    rcases dN hc hk with⟨e,_⟩|⟨_,e⟩
    ·exact absurd e hl
    ·exact e
   rcases yXy.1 h with h|h
   ·obtain⟨j,hj,h⟩:=yZl.1 h
    have hj:=yZy.1 hj
    rw[yXn]at hj
    have s1:=cJ hc (a:=k) (b:=k+1+j) (by omega) (by omega)
    have s2:=zPl hc (a:=k) (b:=k+1+j) (by omega) (by omega)
    have ec:((k:Int)+1+j)=((k+1+j:Nat):Int):=by omega
    rw[ec]at h
    obtain⟨ok,e1,e2⟩:=zZu h (by dsimp only;omega) (by dsimp only;omega) hs hs (by dsimp only;omega)
    exact⟨ok,h0.1,h0.2,.inr ⟨by omega,by rw[e1];dsimp only;omega,by rw[e1];exact s2⟩⟩
   ·obtain⟨j,hj,h⟩:=yZl.1 h
    have hj:=yZy.1 hj
    rw[yXn]at hj
    have s1:=cJ hc (a:=j) (b:=k) (by omega) (by omega)
    have s2:=zPl hc (a:=j) (b:=k) (by omega) (by omega)
    obtain⟨ok,e1,e2⟩:=zZu h (by dsimp only;omega) (by dsimp only;omega) (by dsimp only;omega) hs (by dsimp only;omega)
    exact⟨ok,h0.1,h0.2,.inr ⟨by omega,by rw[e1];dsimp only;omega,by rw[e1];exact s2⟩⟩
theorem zPo {s:Int}:∀(r:List Quote) (q:Quote),r.foldl (fun b q=>if btr s q.price b.price then q else b) q∈q::r
 |[],q=>yWy
 |x::r,q=>by
  rw[y0o]
  have:=zPo (s:=s) r (if btr s x.price q.price then x else q)
  rcases yXl.1 this with e|h
  ·rw[e];split
   ·exact yWz _ yWy
   ·exact yWy
  ·exact yWz _ (yWz _ h)
theorem zFv {l:List Quote} {s:Int} (h:(zU l s).2=true):(zU l s).1∈l:=by
 cases l with
 |nil=>cases h
 |cons q r=>exact zPo r q
def yJb (B:List (List zJ)):Prop:=∀(k:Nat) (L:List zJ),B[k]?=some L→(∀o∈L,zJx o)∧(L.map (·.id)).Nodup∧L.length≤250
theorem MSt.Rep.ords {s:MSt} {p:Prd} {B:List (List zJ)} (h:s.Rep p B):yJb B:=by
 intro k L hL
 obtain⟨b,hb⟩:=zW (l:=s.books) (i:=k) (by rw[h.bl];exact(yWv.1 hL).1)
 exact(h.bk k b L hb hL).ords
theorem z5u:∀{l:List zJ} {v:Lv},(∀o∈l,zJx o)→v∈grp l→1≤v.qty∧v.qty≤1000000*l.length
 |[],v,_,h=>by cases h
 |o::l,v,ho,h=>by
  have h0:=(ho o yWy).q
  have ih:∀v∈grp l,1≤v.qty∧v.qty≤1000000*l.length:=fun v hv=>z5u (fun x hx=>ho x (yWz _ hx)) hv
  rw[grp]at h
  rw[yXa]
  split at h
  ·rw[yYl]at h
   subst h;dsimp only;omega
  ·rename_i w ws e
   rw[e]at ih
   have hw:=ih w yWy
   split at h
   ·rcases yXl.1 h with rfl|h
    ·dsimp only;omega
    ·have:=ih v (yWz _ h);omega
   ·rcases yXl.1 h with rfl|h
    ·dsimp only;omega
    ·have:=ih v h;omega
theorem zZf {L:List zJ} {s:Int} (h:∀o∈L,zJx o) (hl:L.length≤250) (hb:(bestL L s).2=true):1≤(bestL L s).1.qty∧(bestL L s).1.qty≤250000000:=by
 rw[bestL]at hb ⊢
 cases hl2:uR L s with
 |nil=>rw[hl2]at hb;cases hb
 |cons v vs=>
  dsimp only
  have hm:v∈grp (L.filter fun o=>decide (o.side=s)):=by rw[← uR,hl2];exact yWy
  have:=z5u (fun o ho=>h o (yYv.1 ho).1) hm
  have:=y0b (fun o:zJ=>decide (o.side=s)) L
  omega
theorem yEt {B:List (List zJ)} {k:Nat} {L:List zJ} (hL:B[k]? =some L):(B.map qO).getD k top0=qO L:=zT (by rw[yXq,hL];rfl)
theorem zJb (L:List zJ) {s:Int} (hs:s=1∨s=2):(qO L).has s=(bestL L s).2∧(qO L).qty s=(bestL L s).1.qty∧(qO L).price s=(bestL L s).1.price:=by
 obtain⟨e1,e2,e3,e4,e5,e6⟩:=zJc L
 rcases hs with rfl|rfl
 ·exact⟨e3,e2,e1⟩
 ·exact⟨e6,e5,e4⟩
theorem z4n {p:Prd} {B:List (List zJ)} (h:BOk p B) (ho:yJb B) {inst:Int} (hi:0≤inst∧inst<B.length) {s:Int} (hs:s=1∨s=2) (hn:(yQ p B inst s).2.2=true):
 (1≤(yQ p B inst s).1.qty∧(yQ p B inst s).1.qty≤250000000)∧((yQ p B inst s).2.1=true→(yQ p B inst s).1∈qU ⟨p,B.map qO,inst⟩ s∧QOk (B.map qO) (yQ p B inst s).1)∧
 ((yQ p B inst s).2.1=false→(bestL (B.getD inst.toNat []) s).2=true∧(yQ p B inst s).1.price=(bestL (B.getD inst.toNat []) s).1.price∧(yQ p B inst s).1.qty=(bestL (B.getD inst.toNat []) s).1.qty):=by
 obtain⟨k,rfl⟩:∃k:Nat,inst=k:=⟨inst.toNat,by omega⟩
 obtain⟨L,hL⟩:=zW (l:=B) (i:=k) (by omega)
 have hLo:=ho k L hL
 rw[yQ]at hn ⊢
 rw[yXn,zT hL]at hn ⊢
 split
 ·rename_i c
  simp only[yXg]at c
  exact⟨zZf hLo.1 hLo.2.2 c.1,⟨fun e=>(by cases e),fun _=>⟨c.1,rfl,rfl⟩⟩⟩
 ·rename_i c
  rw[yWs c]at hn
  dsimp only at hn ⊢
  have hm:=zFv hn
  have ha:(zU (xO ⟨p,B.map qO,k⟩ s) s).1∈qU ⟨p,B.map qO,k⟩ s:=(yYv.1 hm).1
  obtain⟨ok,_⟩:=z1y h.pc (by rw[yWu];exact h.bl) hs ha
  refine⟨?_,fun _=>⟨ha,ok⟩,fun e=>by rw[hn]at e;cases e⟩
  generalize (zU (xO ⟨p,B.map qO,k⟩ s) s).1=q at ok
  have a:=ok.a
  have b:=ok.b
  rw[yWu]at a b
  obtain⟨La,hLa⟩:=zW (l:=B) (i:=q.a.inst.toNat) (by omega)
  obtain⟨Lb,hLb⟩:=zW (l:=B) (i:=q.b.inst.toNat) (by omega)
  have e1:=ok.ha
  have e2:=ok.hb
  have e3:=ok.qty
  rw[yEt hLa]at e1 e3
  rw[yEt hLb]at e2 e3
  rw[(zJb La ok.sa).1]at e1
  rw[(zJb Lb ok.sb).1]at e2
  rw[(zJb La ok.sa).2.1,(zJb Lb ok.sb).2.1]at e3
  have:=zZf (ho _ _ hLa).1 (ho _ _ hLa).2.2 e1
  have:=zZf (ho _ _ hLb).1 (ho _ _ hLb).2.2 e2
  omega
theorem yFx {L:List zJ} {id q:Int} {o:zJ} (h:o∈(xS L id q).1):∃o'∈L,o.price=o'.price∧o.side=o'.side∧o.id=o'.id:=by
 rw[xS]at h
 split at h
 ·exact⟨o,h,rfl,rfl,rfl⟩
 split at h
 ·exact⟨o,h,rfl,rfl,rfl⟩
 obtain⟨o',ho',e⟩:=y2b.1 h
 refine⟨o',ho',?_⟩
 split at e
 ·split at e
  ·cases e
  ·cases e;exact⟨rfl,rfl,rfl⟩
 ·cases e;exact⟨rfl,rfl,rfl⟩
theorem BOk.take {p:Prd} {B:List (List zJ)} (h:BOk p B) (id q:Int):BOk p (qV B id q).1:=by
 refine⟨h.pc,h.ps,by rw[rW];exact h.bl,fun k L hL o ho=> ?_⟩
 rw[qV]at hL
 split at hL
 ·exact h.pr k L hL o ho
 ·rename_i j hj
  dsimp only at hL
  rcases dY hL with⟨rfl,rfl⟩|⟨_,hL⟩
  ·obtain⟨o',ho',e,_⟩:=yFx ho
   obtain⟨L',hL',_⟩:=uY hj
   rw[zT hL']at ho'
   rw[e];exact h.pr k L' hL' o' ho'
  ·exact h.pr k L hL o ho
theorem BOk.takes {p:Prd}:∀{fs:List dM} {B:List (List zJ)},BOk p B→BOk p (kB B fs)
 |[],B,h=>h
 |f::fs,B,h=>BOk.takes (fs:=fs) (h.take f.id f.qty)
theorem zXv (inst s:Int):∀(os:List zJ) (sh:List Int),(xN inst s os sh).length≤os.length
 |[],sh=>yYa 0
 |o::os,[]=>yYc _
 |o::os,k::sh=>by
  have:=zXv inst s os sh
  rw[xN]
  split
  ·simp only[yXa];omega
  ·simp only[yXa];omega
theorem mM {p:Prd} {B:List (List zJ)} (ho:yJb B) (inst s q:Int):(qH p B inst s q).length≤250:=by
 refine y0m (zXv _ _ _ _) (y0m (y0b _ _) ?_)
 by_cases h:inst.toNat<B.length
 ·obtain⟨L,hL⟩:=zW h
  rw[zT hL];exact(ho _ _ hL).2.2
 ·rw[yXb,yXw (by omega)];exact yYc _
theorem zMk {p:Prd} {B:List (List zJ)} {inst:Int} {sd:Bool} {price q:Int} {t:j8} {B':List (List zJ)} (hq:1≤q) (h:c9 p B inst sd price q=some (t,B')):1≤t.qty∧t.qty≤q:=by
 rw[c9]at h
 dsimp only at h
 split at h
 ·rename_i c
  simp only[yXg,yYz]at c
  split at h
  ·cases h;dsimp only;omega
  ·cases h;dsimp only;omega
 ·cases h
theorem zYd {p:Prd} {inst:Int} {sd:Bool} {price:Int}:∀(m n:Nat) (B:List (List zJ)) (q:Int),q.toNat≤m→q.toNat≤n→zIc p inst sd price m B q=zIc p inst sd price n B q
 |0,0,B,q,_,_=>rfl
 |0,n+1,B,q,h,_=>by rw[zIc,zIc,yWt (by omega)]
 |m+1,0,B,q,_,h=>by rw[zIc,zIc,yWt (by omega)]
 |m+1,n+1,B,q,h1,h2=>by
  rw[zIc,zIc]
  split
  ·rfl
  ·rename_i hq
   cases hs:c9 p B inst sd price q with
   |none=>rfl
   |some x=>
    obtain⟨t,B'⟩:=x
    have:=zMk (by omega) hs
    dsimp only
    rw[zYd m n B' (q-t.qty) (by omega) (by omega)]
theorem tF {p:Prd} {B:List (List zJ)} {inst:Int} {sd:Bool} {price q:Int} (h:q≤0∨c9 p B inst sd price q=none):j0 p B inst sd price q=⟨[],q,B⟩:=by
 rw[j0]
 cases hn:q.toNat with
 |zero=>rfl
 |succ n=>
  rw[zIc]
  rcases h with h|h
  ·rw[yWt h]
  ·rw[yWs (by omega),h]
theorem zJs {p:Prd} {B:List (List zJ)} {inst:Int} {sd:Bool} {price q:Int} {t:j8} {B':List (List zJ)} (hq:1≤q) (h:c9 p B inst sd price q=some (t,B')):
 j0 p B inst sd price q=⟨t::(j0 p B' inst sd price (q-t.qty)).steps,(j0 p B' inst sd price (q-t.qty)).left,(j0 p B' inst sd price (q-t.qty)).B⟩:=by
 have ht:=zMk hq h
 rw[j0]
 cases hn:q.toNat with
 |zero=>omega
 |succ n=>
  rw[zIc,yWs (by omega),h]
  dsimp only
  rw[zYd n (q-t.qty).toNat B' (q-t.qty) (by omega) (yYa _)]
  rfl
open Go Cv Go.Proofs
theorem gK {s:Int} (h:s=1∨s=2):zD (decide (s=2))=s:=by
 rcases h with rfl|rfl<;>rfl
theorem yWd (i:RunI) (h:runC.cnd i):ySe i:=by
 obtain⟨hR,hB,⟨h0,h1⟩,hq1,hq2⟩:i.s.Rep i.p i.B∧BOk i.p i.B∧(0≤i.inst∧i.inst<i.B.length)∧1≤i.q∧i.q≤1000000:=h
 have hbl:=hR.bl
 have hcl:=xP i.p
 have hbB:=hB.bl
 unfold ySe zUa fL sA hP zKl zDw zKj z9 dO dI
 refine(fun hT=>zK (fun c=>zK (fun c2=>Cv.cnd.mk (fun _=>zK (fun _=>Cv.cnd.mk (fun e=>absurd hq2 (by simpa using e)) (fun _=>hT)) (fun e=>absurd hq1 e)) (fun e1=>Cv.cnd.mk (fun _=>zK (fun _=>Cv.cnd.mk (fun e=>absurd hq2 (by simpa using e)) (fun _=>hT)) (fun e=>absurd hq1 e)) (fun e2=>by
  rcases zDk i.sd with e|e
  ·rw[e]at e1;cases e1
  ·rw[e]at e2;cases e2))) (fun c2=>absurd (by omega) c2)) (fun c=>absurd h0 c)) ?_
 refine⟨⟨i.s,i.B,[],i.q⟩,rfl,rfl,rfl,rfl,rfl,rfl,rfl,rfl,rfl,rfl,rfl,rfl,rfl,rfl,rfl,fun j=>j.s.Rep i.p j.B∧BOk i.p j.B∧j.B.length=i.B.length∧(0≤j.q∧j.q≤i.q)∧(j.steps.length:Int)≤i.q-j.q∧i.r=⟨j.steps++(j0 i.p j.B i.inst i.sd i.price j.q).steps,(j0 i.p j.B i.inst i.sd i.price j.q).left,(j0 i.p j.B i.inst i.sd i.price j.q).B⟩,fun j=>j.q.toNat,⟨hR,hB,rfl,⟨by dsimp only;omega,y1p _⟩,by dsimp only;simp,rfl⟩,?_⟩
 rintro⟨s,B,st,q⟩ ⟨r1,r2,r3,⟨r4,r4'⟩,r5,r6⟩
 dsimp only at r1 r2 r3 r4 r4' r5 r6 ⊢
 have hno (hn:q≤0∨c9 i.p B i.inst i.sd i.price q=none):∃(o:MSt),i.r.left=q∧AObj.adt MSt (5:Nat) xJ o=AObj.adt MSt (5:Nat) xJ s∧List.map jS i.r.steps=List.map jS st∧o.Rep i.p i.r.B:=by
  rw[tF hn,yXp]at r6
  rw[r6];exact⟨s,rfl,rfl,rfl,r1⟩
 refine zK (fun c=> ?_) (fun c=>hno (.inl (by omega)))
 have c:0<q:=c
 refine⟨i.sd,rfl,trivial,fun _ _=>⟨⟨s,i.p,B,i.inst,!i.sd⟩,rfl,rfl,rfl,⟨r1,r2,h0,by dsimp only;omega⟩,fun _ _=> ?_⟩⟩
 dsimp only
 have hni:=z4n r2 r1.ords (inst:=i.inst) ⟨h0,by omega⟩ (zDk (!i.sd))
 have hsb:c9 i.p B i.inst i.sd i.price q=(if((yQ i.p B i.inst (zD (!i.sd))).2.2 && (dV i.sd i.price (yQ i.p B i.inst (zD (!i.sd))).1.price && decide (1≤(yQ i.p B i.inst (zD (!i.sd))).1.qty)))=true then
  if(yQ i.p B i.inst (zD (!i.sd))).2.1=true then
   some (⟨(yQ i.p B i.inst (zD (!i.sd))).1.price,min q (yQ i.p B i.inst (zD (!i.sd))).1.qty,true,qH i.p B (yQ i.p B i.inst (zD (!i.sd))).1.a.inst (yQ i.p B i.inst (zD (!i.sd))).1.a.side (min q (yQ i.p B i.inst (zD (!i.sd))).1.qty)++qH i.p (kB B (qH i.p B (yQ i.p B i.inst (zD (!i.sd))).1.a.inst (yQ i.p B i.inst (zD (!i.sd))).1.a.side (min q (yQ i.p B i.inst (zD (!i.sd))).1.qty))) (yQ i.p B i.inst (zD (!i.sd))).1.b.inst (yQ i.p B i.inst (zD (!i.sd))).1.b.side (min q (yQ i.p B i.inst (zD (!i.sd))).1.qty)⟩,kB (kB B (qH i.p B (yQ i.p B i.inst (zD (!i.sd))).1.a.inst (yQ i.p B i.inst (zD (!i.sd))).1.a.side (min q (yQ i.p B i.inst (zD (!i.sd))).1.qty))) (qH i.p (kB B (qH i.p B (yQ i.p B i.inst (zD (!i.sd))).1.a.inst (yQ i.p B i.inst (zD (!i.sd))).1.a.side (min q (yQ i.p B i.inst (zD (!i.sd))).1.qty))) (yQ i.p B i.inst (zD (!i.sd))).1.b.inst (yQ i.p B i.inst (zD (!i.sd))).1.b.side (min q (yQ i.p B i.inst (zD (!i.sd))).1.qty)))
  else some (⟨(yQ i.p B i.inst (zD (!i.sd))).1.price,min q (yQ i.p B i.inst (zD (!i.sd))).1.qty,false,qH i.p B i.inst (zD (!i.sd)) (min q (yQ i.p B i.inst (zD (!i.sd))).1.qty)⟩,kB B (qH i.p B i.inst (zD (!i.sd)) (min q (yQ i.p B i.inst (zD (!i.sd))).1.qty)))else none):=rfl
 generalize yQ i.p B i.inst (zD (!i.sd))=nb at hni hsb ⊢
 refine Cv.cnd.mk (fun n1=> ?_) (fun n1=>⟨⟨i.sd,i.price,nb.1.price⟩,rfl,rfl,rfl,trivial,fun _ _=>Cv.cnd.mk (fun n2=> ?_) (fun n2=> ?_)⟩)
 ·have n1:nb.2.2=false:=by simpa using n1
  rw[n1,yWs (by simp)]at hsb
  exact hno (.inr hsb)
 ·have n2:dV i.sd i.price nb.1.price=false:=by simpa using n2
  rw[n2,yWs (by simp)]at hsb
  exact hno (.inr hsb)
 have n1:nb.2.2=true:=by simpa using n1
 have n2:dV i.sd i.price nb.1.price=true:=by simpa using n2
 obtain⟨⟨b1,b2⟩,hi,hr⟩:=hni n1
 rw[n1,n2,yXi b1,yWt (by rfl)]at hsb
 have hk:i64r (min q nb.1.qty):=by constructor<;>omega
 have hsl:(st.length+1)*48≤140737488355328:=by omega
 have beh:∀(t:j8) (B':List (List zJ)) (s':MSt),c9 i.p B i.inst i.sd i.price q=some (t,B')→s'.Rep i.p B'→BOk i.p B'→B'.length=B.length→
  (s'.Rep i.p B'∧BOk i.p B'∧B'.length=i.B.length∧(0≤q-t.qty∧q-t.qty≤i.q)∧((st++[t]).length:Int)≤i.q-(q-t.qty)∧i.r=⟨(st++[t])++(j0 i.p B' i.inst i.sd i.price (q-t.qty)).steps,(j0 i.p B' i.inst i.sd i.price (q-t.qty)).left,(j0 i.p B' i.inst i.sd i.price (q-t.qty)).B⟩)∧(q-t.qty).toNat<q.toNat:=by
  intro t B' s' h1 h2 h3 h4
  have ht:=zMk (by omega) h1
  refine⟨⟨h2,h3,by omega,⟨by omega,by omega⟩,by rw[yWx,yZg];omega,?_⟩,by omega⟩
  rw[zJs (by omega) h1]at r6
  rw[r6,yXc];rfl
 refine Cv.cnd.mk (fun n3=> ?_) (fun n3=> ?_)
 ·obtain⟨_,ok⟩:=hi n3
  rw[n3,yWt rfl]at hsb
  have oka:=ok.a
  have okb:=ok.b
  rw[yWu]at oka okb
  have ea:=gK ok.sa
  have eb:=gK ok.sb
  refine⟨⟨s,i.p,B,nb.1.a.inst,decide (nb.1.a.side=2),min q nb.1.qty⟩,rfl,ea,rfl,rfl,⟨r1,r2,oka.1,oka.2,hk⟩,fun s1 hs1=> ?_⟩
  dsimp only at hs1 ⊢
  rw[ea]at hs1 ⊢
  have l1:=mM (p:=i.p) r1.ords nb.1.a.inst nb.1.a.side (min q nb.1.qty)
  have hB1:=r2.takes (fs:=qH i.p B nb.1.a.inst nb.1.a.side (min q nb.1.qty))
  have l2:=mM (p:=i.p) hs1.ords nb.1.b.inst nb.1.b.side (min q nb.1.qty)
  refine⟨trivial,by rw[yWu];omega,⟨s1,i.p,kB B (qH i.p B nb.1.a.inst nb.1.a.side (min q nb.1.qty)),nb.1.b.inst,decide (nb.1.b.side=2),min q nb.1.qty⟩,rfl,eb,rfl,rfl,⟨hs1,hB1,okb.1,by dsimp only;rw[vW];exact okb.2,hk⟩,fun s2 hs2=> ?_⟩
  dsimp only at hs2 ⊢
  rw[eb]at hs2 ⊢
  obtain⟨g1,g2⟩:=beh _ _ s2 hsb hs2 hB1.takes (by rw[vW,vW])
  refine⟨trivial,by rw[yWu,yWu];omega,by rw[yWu];exact hsl,⟨s2,_,st++[_],_⟩,?_,rfl,?_,g1,g2,k0q⟩
  ·dsimp only;rw[w64 (by omega)]
  ·dsimp only
   rw[yXe,n3]
   simp[jS]
 ·rw[n3,yWs (by decide)]at hsb
  refine⟨i.sd,rfl,trivial,fun _ _=>⟨rfl,⟨s,i.p,B,i.inst,!i.sd,min q nb.1.qty⟩,rfl,rfl,rfl,rfl,⟨r1,r2,h0,by dsimp only;omega,hk⟩,fun s1 hs1=> ?_⟩⟩
  dsimp only at hs1 ⊢
  obtain⟨g1,g2⟩:=beh _ _ s1 hsb hs1 r2.takes (by rw[vW])
  refine⟨by rw[yWu];exact hsl,⟨s1,_,st++[_],_⟩,?_,rfl,?_,g1,g2,k0q⟩
  ·dsimp only;rw[w64 (by omega)]
  ·dsimp only
   rw[yXe,n3]
   simp[jS]
theorem z1n:runC.ok Tryz.prog 205:=okw mixed (gokc yJp (gokc zPw (gokc zWn (gokc yAg gok0)))) 2 (fun _=>[]) (fun _=>yVa) [0] Tryz.func205 yWd
open Go Cv Go.Proofs
open Go Cv Go.Proofs
open Go Cv Go.Proofs
theorem yEy {L:List zJ} {s id p q:Int} {o:zJ} (h:o∈zRe L s id p q):o.price=p∨∃o'∈L,o.price=o'.price:=by
 have key:∀X:List zJ,(o∈X.takeWhile (before s p)++⟨id,s,p,q,u9 L s p⟩::X.dropWhile (before s p))→o.price=p∨o∈X:=by
  intro X hX
  rcases yXy.1 hX with hX|hX
  ·exact .inr (List.takeWhile_sublist _|>.subset hX)
  ·rcases yXl.1 hX with rfl|hX
   ·exact .inl rfl
   ·exact .inr (List.dropWhile_sublist _|>.subset hX)
 rw[zRe]at h
 split at h
 ·rcases key _ h with h|h
  ·exact .inl h
  ·obtain⟨o',ho',_,_,e,_⟩:=z2d h
   exact .inr ⟨o',ho',e⟩
 ·rcases key _ h with h|h
  ·exact .inl h
  ·exact .inr ⟨o,h,rfl⟩
theorem BOk.add {p:Prd} {B:List (List zJ)} (h:BOk p B) (inst id s price q:Int):BOk p (z1w p B inst id s price q).1:=by
 rw[z1w]
 split
 ·exact h
 split
 ·exact h
 split
 ·exact h
 split
 ·exact h
 rename_i c1 _ _ c4
 have c4:p.price inst price=0:=by simpa using c4
 refine⟨h.pc,h.ps,by simpa using h.bl,fun k L hL o ho=> ?_⟩
 dsimp only at hL
 rcases dY hL with⟨rfl,rfl⟩|⟨_,hL⟩
 ·obtain⟨L',hL'⟩:=zW (l:=B) (i:=inst.toNat) (by omega)
  rw[zT hL',zIh]at ho
  have e:((inst.toNat:Nat):Int)=inst:=by omega
  repeat' split at ho
  ·exact h.pr _ L' hL' o ho
  ·exact h.pr _ L' hL' o ho
  ·exact h.pr _ L' hL' o ho
  ·rcases yEy ho with h1|⟨o',ho',h1⟩
   ·rw[h1,e];exact c4
   ·rw[h1];exact h.pr _ L' hL' o' ho'
 ·exact h.pr k L hL o ho
theorem BOk.new {p:Prd} (hc:p.check=0) (hp:p.small):BOk p (List.replicate p.count []):=by
 refine⟨hc,hp,by simp,fun k L hL o ho=> ?_⟩
 rw[y2k (yXd hL)]at ho
 cases ho
theorem MSt.Rep.fit {s:MSt} {p:Prd} {B:List (List zJ)} (h:s.Rep p B) (hb:BOk p B):s.fit:=by
 have:=xP p
 refine⟨by rw[h.ep];exact hb.ps,by rw[h.bl,hb.bl];omega,fun b hm=> ?_⟩
 obtain⟨k,hk⟩:=yZr.1 hm
 have hlt:=(yWv.1 hk).1
 rw[h.bl]at hlt
 obtain⟨L,hL⟩:=zW hlt
 exact(h.bk k b L hk hL).fit
open Go Cv Go.Proofs
def zNw (r:Nat):Bool:=decide (32≤r) && decide (r≠127) && decide (r≠65533)
def dK (s:List UInt8):Bool:=(kF s).all zNw && decide (1≤(kF s).length) && decide ((kF s).length≤12)
def labC:Con:=con1 (List UInt8) (fun s=>[sV s]) (fun _=>[]) (fun s=>s.length≤140737488355328) (fun s=>z7 (dK s)) (fun _=>[])
def yUu (s:List UInt8):List SAnn:=[{ι:=Nat×Nat,slots:=fun x=>[(3,zA x.2),(7,.nm 0 0)],rows:=fun x=>[.iter (sb s) x.1]}]
def fH (n:Int):Bool:=decide (-2000000≤n) && decide (n≤2000000)
def wU (n:Int):Bool:=decide (1≤n) && decide (n≤1000000)
def Cmd.orderE (c:Cmd):Int:=
 if c.side≠1∧c.side≠2 then 21 else if c.time<1∨3<c.time then 27 else if wU c.qty=false then 24 else if c.least<0∨c.qty<c.least then 28
 else if c.label≠[]∧dK c.label=false then 29 else if fH c.price=false then 23 else if c.inst<0∨255<c.inst then 20 else 0
def Cmd.right (c:Cmd):Int:=
 if c.kind<1∨4<c.kind then 31 else if c.id<1∨1099511627776<c.id then 1 else if c.kind=1 then c.orderE
 else if c.kind≠2∧wU c.qty=false then 24 else if c.kind=4∧fH c.price=false then 23 else 0
def cmdOrdC:Con:=con1 Cmd (fun c=>[zNy c]) (fun _=>[]) (fun c=>c.label.length≤140737488355328) (fun c=>zA c.orderE) (fun _=>[])
def cmdRtC:Con:=con1 Cmd (fun c=>[zNy c]) (fun _=>[]) (fun c=>c.label.length≤140737488355328) (fun c=>zA c.right) (fun _=>[])
open Go Cv Go.Proofs
def ySz (s:List UInt8):Prop:=
 ∃(a:Nat×Nat),(↑a.snd:Int)=0∧sb s=sb s∧a.fst=0∧∃(b:Nat×Nat→Prop),∃(c:Nat×Nat→Nat),b a∧∀(d:Nat×Nat),b d→cnd (d.fst.blt (sb s).size) (cnd (decide ((xW s d)<32)) (∃(e:Unit),dK s=false∧True) (cnd ((xW s d)==127) (∃(e:Unit),dK s=false∧True) (cnd ((xW s d)==65533) (∃(e:Unit),dK s=false∧True) (fE d s b c)))) (cnd (decide ((↑d.snd:Int)≥1)) (∃(e:Unit),dK s=decide ((↑d.snd:Int)≤12)∧True) (∃(e:Unit),dK s=false∧True))
def zGs (a:Cmd):Prop:=∃(b:List UInt8),sb b=sb a.label∧b.length≤140737488355328∧∀(c:Unit),True→cnd (!dK b) (∃(d:Unit),a.orderE=29∧True) (cnd (decide (a.price≥(-2000000))) (cnd (!decide (a.price≤2000000)) (∃(d:Unit),a.orderE=23∧True) (cnd (decide (a.inst<0)) (∃(d:Unit),a.orderE=20∧True) (cnd (decide (a.inst>255)) (∃(d:Unit),a.orderE=20∧True) (∃(d:Unit),a.orderE=0∧True)))) (∃(d:Unit),a.orderE=23∧True))
def yKk (c:Cmd):Prop:=
 cnd (c.side !=1) (cnd (c.side !=2) (∃(a:Unit),c.orderE=21∧True) (cnd (decide (c.time<1)) (∃(a:Unit),c.orderE=27∧True) (cnd (decide (c.time>3)) (∃(a:Unit),c.orderE=27∧True) (cnd (decide (c.qty≥1)) (cnd (!decide (c.qty≤1000000)) (∃(a:Unit),c.orderE=24∧True) (cnd (decide (c.least<0)) (∃(a:Unit),c.orderE=28∧True) (cnd (decide (c.least>c.qty)) (∃(a:Unit),c.orderE=28∧True) (cnd (!(sb c.label).toList==(ByteArray.mk #[]).toList) (zGs c) (cnd (decide (c.price≥(-2000000))) (cnd (!decide (c.price≤2000000)) (∃(a:Unit),c.orderE=23∧True) (cnd (decide (c.inst<0)) (∃(a:Unit),c.orderE=20∧True) (cnd (decide (c.inst>255)) (∃(a:Unit),c.orderE=20∧True) (∃(a:Unit),c.orderE=0∧True)))) (∃(a:Unit),c.orderE=23∧True)))))) (∃(a:Unit),c.orderE=24∧True))))) (cnd (decide (c.time<1)) (∃(a:Unit),c.orderE=27∧True) (cnd (decide (c.time>3)) (∃(a:Unit),c.orderE=27∧True) (cnd (decide (c.qty≥1)) (cnd (!decide (c.qty≤1000000)) (∃(a:Unit),c.orderE=24∧True) (cnd (decide (c.least<0)) (∃(a:Unit),c.orderE=28∧True) (cnd (decide (c.least>c.qty)) (∃(a:Unit),c.orderE=28∧True) (cnd (!(sb c.label).toList==(ByteArray.mk #[]).toList) (zGs c) (cnd (decide (c.price≥(-2000000))) (cnd (!decide (c.price≤2000000)) (∃(a:Unit),c.orderE=23∧True) (cnd (decide (c.inst<0)) (∃(a:Unit),c.orderE=20∧True) (cnd (decide (c.inst>255)) (∃(a:Unit),c.orderE=20∧True) (∃(a:Unit),c.orderE=0∧True)))) (∃(a:Unit),c.orderE=23∧True)))))) (∃(a:Unit),c.orderE=24∧True))))
def yFl (c:Cmd):Prop:=
 cnd (decide (c.kind<1)) (∃(a:Unit),c.right=31∧True) (cnd (decide (c.kind>4)) (∃(a:Unit),c.right=31∧True) (cnd (decide (c.id<1)) (∃(a:Unit),c.right=1∧True) (cnd (decide (c.id>1099511627776)) (∃(a:Unit),c.right=1∧True) (cnd (c.kind==1) (∃(a:Cmd),a.kind=c.kind∧a.id=c.id∧a.inst=c.inst∧a.side=c.side∧a.price=c.price∧a.qty=c.qty∧a.least=c.least∧a.time=c.time∧sb a.label=sb c.label∧a.label.length≤140737488355328∧∀(b:Unit),True→∃(d:Unit),c.right=a.orderE∧True) (cnd (c.kind !=2) (cnd (decide (c.qty≥1)) (cnd (!decide (c.qty≤1000000)) (∃(a:Unit),c.right=24∧True) (cnd (c.kind==4) (cnd (decide (c.price≥(-2000000))) (cnd (!decide (c.price≤2000000)) (∃(a:Unit),c.right=23∧True) (∃(a:Unit),c.right=0∧True)) (∃(a:Unit),c.right=23∧True)) (∃(a:Unit),c.right=0∧True))) (∃(a:Unit),c.right=24∧True)) (cnd (c.kind==4) (cnd (decide (c.price≥(-2000000))) (cnd (!decide (c.price≤2000000)) (∃(a:Unit),c.right=23∧True) (∃(a:Unit),c.right=0∧True)) (∃(a:Unit),c.right=23∧True)) (∃(a:Unit),c.right=0∧True)))))))
open Go Cv Go.Proofs
theorem yVu (s:List UInt8) (h:labC.cnd s):ySz s:=by
 have h:s.length≤140737488355328:=h
 have hr:=zFj s
 unfold ySz xW fE
 refine⟨(0,0),rfl,rfl,rfl,fun x=>x.1≤s.length∧x.2+(uV s x.1).length=(kF s).length∧(kF s).all zNw=(uV s x.1).all fun x=>zNw x.2,fun x=>s.length-x.1,⟨by omega,by rw[kF,yWu];simp,by rw[kF,List.all_map];rfl⟩,?_⟩
 rintro⟨p,n⟩ ⟨h1,h2,h3⟩
 dsimp only at h1 h2 h3 ⊢
 refine Cv.cnd.mk (fun hp=> ?_) (fun hp=> ?_)
 ·have hp:p<s.length:=by simpa[yZz]using hp
  have hw:=bZ s hp
  rw[j7 hp,yXa]at h2
  rw[j7 hp,List.all_cons]at h3
  generalize hc:(Utf8.decode (sb s) p).1=c at h2 h3 ⊢
  generalize hww:(Utf8.decode (sb s) p).2=w at h2 h3 hw ⊢
  dsimp only at h3
  have bad:zNw c=false→∃(o:Unit),dK s=false∧True:=fun e=>⟨(),by rw[dK,h3,e];rfl,trivial⟩
  refine zK (fun c1=>bad ?_) (fun c1=>Cv.cnd.mk (fun c2=>bad ?_) (fun c2=>Cv.cnd.mk (fun c3=>bad ?_) (fun c3=> ?_)))
  ·simp[zNw];omega
  ·have c2:(c:Int)=127:=by simpa using c2
   simp[zNw];omega
  ·have c3:(c:Int)=65533:=by simpa using c3
   simp[zNw];omega
  ·have c2:¬(c:Int)=127:=by simpa using c2
   have c3:¬(c:Int)=65533:=by simpa using c3
   have e:zNw c=true:=by simp[zNw];omega
   refine⟨(p+w,n+1),?_,rfl,rfl,⟨hw.2,by(first|omega|(dsimp only;omega)),by rw[h3,e];rfl⟩,by(first|omega|(dsimp only;omega)),trivial⟩
   rw[w64 (by omega)];rfl
 ·have hp:s.length≤p:=by have:=z5k hp;simpa using this
  rw[f7 hp]at h2 h3
  have h2:n=(kF s).length:=h2
  have h3:(kF s).all zNw=true:=h3
  refine zK (fun c=>⟨(),?_,trivial⟩) (fun c=>⟨(),?_,trivial⟩)
  ·rw[dK,h3,← h2,yXi (show 1≤n by omega)]
   simp only[yYx]
   congr 1
   simp only[eq_iff_iff];omega
  ·rw[dK,← h2,yXf (show ¬1≤n by omega)];simp
theorem yNg:labC.ok Tryz.prog 203:=okw mixed gok0 0 (fun _=>[]) (fun s=>yUu s) [] Tryz.func203 yVu
theorem yVv (a b:Int):(a==b)=decide (a=b):=by
 by_cases h:a=b
 ·subst h;simp
 ·simp[h]
theorem ySr (a b:Int):(a !=b)=decide (a≠b):=by
 by_cases h:a=b
 ·subst h;simp
 ·simp[h]
theorem eqB (a b:List UInt8):((sb a).toList==(sb b).toList)=decide (a=b):=by
 rw[mF,mF]
 by_cases h:a=b
 ·subst h;simp
 ·simp[h]
theorem yRl:ByteArray.mk #[]=sb []:=rfl
theorem yRt (c:Cmd) (h:cmdOrdC.cnd c):yKk c:=by
 have h:c.label.length≤140737488355328:=h
 unfold yKk zGs
 simp only[yRl,eqB,ySr]
 have tail:¬(c.side≠1∧c.side≠2)→cnd (decide (c.time<1)) (∃(o:Unit),c.orderE=27∧True) (cnd (decide (c.time>3)) (∃(o:Unit),c.orderE=27∧True) (cnd (decide (c.qty≥1)) (cnd (!decide (c.qty≤1000000)) (∃(o:Unit),c.orderE=24∧True) (cnd (decide (c.least<0)) (∃(o:Unit),c.orderE=28∧True) (cnd (decide (c.least>c.qty)) (∃(o:Unit),c.orderE=28∧True) (cnd (!decide (c.label=[])) (∃(i:List UInt8),sb i=sb c.label∧i.length≤140737488355328∧∀(o:Unit),True→cnd (!dK i) (∃(o:Unit),c.orderE=29∧True) (cnd (decide (c.price≥-2000000)) (cnd (!decide (c.price≤2000000)) (∃(o:Unit),c.orderE=23∧True) (cnd (decide (c.inst<0)) (∃(o:Unit),c.orderE=20∧True) (cnd (decide (c.inst>255)) (∃(o:Unit),c.orderE=20∧True) (∃(o:Unit),c.orderE=0∧True)))) (∃(o:Unit),c.orderE=23∧True))) (cnd (decide (c.price≥-2000000)) (cnd (!decide (c.price≤2000000)) (∃(o:Unit),c.orderE=23∧True) (cnd (decide (c.inst<0)) (∃(o:Unit),c.orderE=20∧True) (cnd (decide (c.inst>255)) (∃(o:Unit),c.orderE=20∧True) (∃(o:Unit),c.orderE=0∧True)))) (∃(o:Unit),c.orderE=23∧True)))))) (∃(o:Unit),c.orderE=24∧True))):=by
  intro hs
  have e1:c.orderE=if c.time<1∨3<c.time then 27 else if wU c.qty=false then 24 else if c.least<0∨c.qty<c.least then 28
   else if c.label≠[]∧dK c.label=false then 29 else if fH c.price=false then 23 else if c.inst<0∨255<c.inst then 20 else 0:=by rw[Cmd.orderE,yWs hs]
  refine zK (fun d1=>⟨(),by rw[e1,yWt (.inl d1)],trivial⟩) fun d1=>zK (fun d2=>⟨(),by rw[e1,yWt (.inr d2)],trivial⟩) fun d2=> ?_
  rw[yWs (by omega)]at e1
  have q (hq:wU c.qty=false):∃(o:Unit),c.orderE=24∧True:=⟨(),by rw[e1,yWt hq],trivial⟩
  refine zK (fun d3=>Cv.cnd.mk (fun d4=>q ?_) fun d4=> ?_) fun d3=>q ?_
  ·have d4:¬c.qty≤1000000:=by simpa using d4
   simp[wU,d4]
  ·have d4:c.qty≤1000000:=by simpa using d4
   have hq:¬wU c.qty=false:=by simp[wU,d4];omega
   rw[yWs hq]at e1
   refine zK (fun d5=>⟨(),by rw[e1,yWt (.inl d5)],trivial⟩) fun d5=>zK (fun d6=>⟨(),by rw[e1,yWt (.inr d6)],trivial⟩) fun d6=> ?_
   rw[yWs (by omega)]at e1
   have last:¬(c.label≠[]∧dK c.label=false)→cnd (decide (c.price≥-2000000)) (cnd (!decide (c.price≤2000000)) (∃(o:Unit),c.orderE=23∧True) (cnd (decide (c.inst<0)) (∃(o:Unit),c.orderE=20∧True) (cnd (decide (c.inst>255)) (∃(o:Unit),c.orderE=20∧True) (∃(o:Unit),c.orderE=0∧True)))) (∃(o:Unit),c.orderE=23∧True):=by
    intro hl
    rw[yWs hl]at e1
    have pr (hq:fH c.price=false):∃(o:Unit),c.orderE=23∧True:=⟨(),by rw[e1,yWt hq],trivial⟩
    refine zK (fun g1=>Cv.cnd.mk (fun g2=>pr ?_) fun g2=> ?_) fun g1=>pr ?_
    ·have g2:¬c.price≤2000000:=by simpa using g2
     simp[fH,g2]
    ·have g2:c.price≤2000000:=by simpa using g2
     have hp:¬fH c.price=false:=by simp[fH,g2];omega
     rw[yWs hp]at e1
     refine zK (fun g3=>⟨(),by rw[e1,yWt (.inl g3)],trivial⟩) fun g3=>zK (fun g4=>⟨(),by rw[e1,yWt (.inr g4)],trivial⟩) fun g4=>⟨(),by rw[e1,yWs (by omega)],trivial⟩
    ·simp[fH];omega
   refine Cv.cnd.mk (fun d7=>⟨c.label,rfl,h,fun _ _=>Cv.cnd.mk (fun d8=> ?_) fun d8=>last ?_⟩) fun d7=>last ?_
   ·have d7:¬c.label=[]:=by simpa using d7
    have d8:dK c.label=false:=by simpa using d8
    exact⟨(),by rw[e1,yWt ⟨d7,d8⟩],trivial⟩
   ·have d8:dK c.label=true:=by simpa using d8
    simp[d8]
   ·have d7:c.label=[]:=by simpa using d7
    simp[d7]
  ·simp[wU];omega
 refine zK (fun c1=>zK (fun c2=>⟨(),by rw[Cmd.orderE,yWt ⟨c1,c2⟩],trivial⟩) fun c2=>tail ?_) fun c1=>tail ?_
 ·omega
 ·omega
theorem yIa:cmdOrdC.ok Tryz.prog 163:=okw mixed (gokc yNg gok0) 1 (fun _=>[]) (fun _=>[]) [] Tryz.func163 yRt
theorem yRe (c:Cmd) (h:cmdRtC.cnd c):yFl c:=by
 have h:c.label.length≤140737488355328:=h
 unfold yFl
 simp only[yVv,ySr]
 refine zK (fun c1=>⟨(),by rw[Cmd.right,yWt (.inl c1)],trivial⟩) fun c1=>zK (fun c2=>⟨(),by rw[Cmd.right,yWt (.inr c2)],trivial⟩) fun c2=> ?_
 refine zK (fun c3=>⟨(),by rw[Cmd.right,yWs (by omega),yWt (.inl c3)],trivial⟩) fun c3=>zK (fun c4=>⟨(),by rw[Cmd.right,yWs (by omega),yWt (.inr c4)],trivial⟩) fun c4=> ?_
 have e0:c.right=if c.kind=1 then c.orderE else if c.kind≠2∧wU c.qty=false then 24 else if c.kind=4∧fH c.price=false then 23 else 0:=by rw[Cmd.right,yWs (by omega),yWs (by omega)]
 refine zK (fun c5=>⟨c,?_⟩) fun c5=> ?_
 ·rw[yWt c5]at e0
  exact kp
 rw[yWs c5]at e0
 have last (hn:¬(c.kind≠2∧wU c.qty=false)):cnd (decide (c.kind=4)) (cnd (decide (c.price≥-2000000)) (cnd (!decide (c.price≤2000000)) (∃(o:Unit),c.right=23∧True) (∃(o:Unit),c.right=0∧True)) (∃(o:Unit),c.right=23∧True)) (∃(o:Unit),c.right=0∧True):=by
  rw[yWs hn]at e0
  refine zK (fun d1=>zK (fun d2=>Cv.cnd.mk (fun d3=> ?_) fun d3=> ?_) fun d2=> ?_) fun d1=> ?_
  ·have d3:¬c.price≤2000000:=by simpa using d3
   exact⟨(),by rw[e0,yWt ⟨d1,by simp[fH,d3]⟩],trivial⟩
  ·have d3:c.price≤2000000:=by simpa using d3
   exact⟨(),by rw[e0,yWs (by simp[fH,d3];omega)],trivial⟩
  ·exact⟨(),by rw[e0,yWt ⟨d1,by simp[fH];omega⟩],trivial⟩
  ·exact⟨(),by rw[e0,yWs (by simp[d1])],trivial⟩
 refine zK (fun d1=>zK (fun d2=>Cv.cnd.mk (fun d3=> ?_) fun d3=>last ?_) fun d2=> ?_) fun d1=>last ?_
 ·have d3:¬c.qty≤1000000:=by simpa using d3
  exact⟨(),by rw[e0,yWt ⟨d1,by simp[wU,d3]⟩],trivial⟩
 ·have d3:c.qty≤1000000:=by simpa using d3
  simp[wU,d3];omega
 ·exact⟨(),by rw[e0,yWt ⟨d1,by simp[wU];omega⟩],trivial⟩
 ·omega
theorem yEz:cmdRtC.ok Tryz.prog 111:=okw mixed (gokc yIa gok0) 1 (fun _=>[]) (fun _=>[]) [] Tryz.func111 yRe
open Go Cv Go.Proofs
structure SoI where
 s:MSt
 p:Prd
 B:List (List zJ)
 inst:Int
 sd:Bool
@[reducible] def SoI.ok (i:SoI):Prop:=i.s.Rep i.p i.B∧i.B.length≤1000
def atB (B:List (List zJ)) (inst:Int):List zJ:=if inst<0 then[]else B.getD inst.toNat []
def sladC:Con:=con1 SoI (fun i=>[.nm 0 0,zA i.inst,zA (zD i.sd)]) (fun i=>[zF i.s]) (fun i=>i.ok) (fun _=> .own 1) (fun i=>[zF i.s,.own 41 3 ((uR (atB i.B i.inst) (zD i.sd)).map lvE)])
open Go Cv Go.Proofs
def cP (a:SoI):=(uR (atB a.B a.inst) (zD a.sd))
def zEz (a:SoI):Prop:=∃(b:Unit),sb a.s.p.code=sb a.s.p.code∧a.s.p.tick=a.s.p.tick∧a.s.p.low=a.s.p.low∧a.s.p.high=a.s.p.high∧a.s.p.wide=a.s.p.wide∧a.s.p.rule=a.s.p.rule∧a.s.p.top=a.s.p.top∧a.s.p.least=a.s.p.least∧a.s.p.part=a.s.p.part∧AObj.objs 241 Book 6 zS a.s.books none=AObj.objs 241 Book 6 zS a.s.books none∧yU a.s.wh=yU a.s.wh∧AObj.fro 1 (iE a.s.p.months)=AObj.fro 1 (iE a.s.p.months)∧AObj.fro 1 (iE a.s.p.settle)=AObj.fro 1 (iE a.s.p.settle)∧List.map lvE (cP a)=[]∧True
def yLc (i:SoI):Prop:=
 cnd (decide (i.inst≥0)) (cnd (!decide (i.inst<(↑i.s.books.length:Int))) (zEz i) ((0≤i.inst∧i.inst<(↑i.s.books.length:Int))∧i.inst.toNat<i.s.books.length∧∃(a:Book),i.s.books[i.inst.toNat]?=some a∧∃(b:BkT),zD b.s=zD i.sd∧z8 b.b=z8 a∧b.b.Rep b.L∧∀(c:Unit),True→∃(d:Book),z8 b.b=z8 d∧i.inst.toNat=i.inst.toNat∧i.inst.toNat<i.s.books.length∧∃(e:Unit),sb i.s.p.code=sb i.s.p.code∧i.s.p.tick=i.s.p.tick∧i.s.p.low=i.s.p.low∧i.s.p.high=i.s.p.high∧i.s.p.wide=i.s.p.wide∧i.s.p.rule=i.s.p.rule∧i.s.p.top=i.s.p.top∧i.s.p.least=i.s.p.least∧i.s.p.part=i.s.p.part∧AObj.objs 241 Book 6 zS i.s.books none=AObj.objs 241 Book 6 zS (i.s.books.set i.inst.toNat d) none∧yU i.s.wh=yU i.s.wh∧AObj.fro 1 (iE i.s.p.months)=AObj.fro 1 (iE i.s.p.months)∧AObj.fro 1 (iE i.s.p.settle)=AObj.fro 1 (iE i.s.p.settle)∧List.map lvE (cP i)=List.map lvE (uR b.L (zD b.s))∧True)) (zEz i)
open Go Cv Go.Proofs
theorem yGj {B:List (List zJ)} {inst:Int} {L:List zJ} (h0:0≤inst) (hL:B[inst.toNat]? =some L):atB B inst=L:=by
 rw[atB,yWs (by omega),zT hL]
theorem yHx {B:List (List zJ)} {inst:Int} (h:inst<0∨(B.length:Int)≤inst):atB B inst=[]:=by
 rw[atB]
 split
 ·rfl
 ·rw[yXb,yXw (by omega)];rfl
theorem yUp (i:SoI) (h:sladC.cnd i):yLc i:=by
 obtain⟨hR,hB⟩:i.s.Rep i.p i.B∧i.B.length≤1000:=h
 have hbl:=hR.bl
 have out (hx:i.inst<0∨(i.B.length:Int)≤i.inst):List.map lvE (uR (atB i.B i.inst) (zD i.sd))=[]:=by
  rw[yHx hx];rfl
 unfold yLc zEz cP
 refine zK (fun c=>Cv.cnd.mk (fun d=> ?_) (fun d=> ?_)) (fun c=> ?_)
 ·have d:¬i.inst<(i.s.books.length:Int):=by simpa using d
  rw[out (.inr (by omega))];exact⟨(),k0q⟩
 ·have d:i.inst<(i.s.books.length:Int):=by simpa using d
  obtain⟨b,hb⟩:=zW (l:=i.s.books) (i:=i.inst.toNat) (by omega)
  obtain⟨L,hL⟩:=zW (l:=i.B) (i:=i.inst.toNat) (by omega)
  refine⟨⟨c,d⟩,by omega,b,hb,⟨b,L,i.sd⟩,rfl,rfl,hR.bk _ b L hb hL,fun _ _=>⟨b,rfl,rfl,by omega,?_⟩⟩
  rw[vV hb,yGj c hL]
  exact⟨(),k0q⟩
 ·rw[out (.inl (by omega))];exact⟨(),k0q⟩
theorem yIz:sladC.ok Tryz.prog 107:=okw mixed (gokc yQk gok0) 1 (fun _=>[]) (fun _=>[]) [0] Tryz.func107 yUp
open Go Cv Go.Proofs
def zWy (s:Int) (F:List zJ):Prop:=F.Pairwise fun o o'=>btr s o'.price o.price=false
def r9 (L:List zJ) (s:Int):List zJ:=L.filter fun o=>decide (o.side=s)
structure BWf (p:Prd) (B:List (List zJ)):Prop where
 ok:BOk p B
 od:yJb B
 ub:((whL 0 B).map (·.1)).Nodup
 srt:∀(k:Nat) (L:List zJ),B[k]? =some L→∀s,s=1∨s=2→zWy s (r9 L s)
theorem zXa {s:Int} {b:Book} {Q:List (List Nat)}:∀{R:List xE},(R.Pairwise fun r r'=>btr s r.price r'.price=true)→zWy s (R.flatMap (b.rOrds Q s))
 |[],_=>List.Pairwise.nil
 |r::R,h=>by
  rw[yYy]at h
  rw[yYm,zWy,List.pairwise_append]
  refine⟨List.pairwise_of_forall_mem_list fun o ho o' ho'=> ?_,zXa h.2,fun o ho o' ho'=> ?_⟩
  ·rw[(x4 ho).2,(x4 ho').2];exact tQ _ _
  ·obtain⟨r',hr',ho'⟩:=yZl.1 ho'
   rw[(x4 ho).2,(x4 ho').2];exact zXd (h.1 r' hr')
theorem Book.Rep.srt {b:Book} {L:List zJ} (h:b.Rep L) {s:Int} (hs:s=1∨s=2):zWy s (r9 L s):=by
 obtain⟨Q,c,ht,rfl⟩:=h
 rw[r9,zPi hs]
 exact zXa (c.srt s hs)
theorem MSt.Rep.wf {s:MSt} {p:Prd} {B:List (List zJ)} (h:s.Rep p B) (hb:BOk p B):BWf p B:=by
 refine⟨hb,h.ords,h.ids,fun k L hL=> ?_⟩
 obtain⟨b,hb⟩:=zW (l:=s.books) (i:=k) (by rw[h.bl];exact(yWv.1 hL).1)
 exact fun s hs=>(h.bk k b L hb hL).srt hs
theorem yBf {L:List zJ} (h:∀o∈L,zJx o) (hn:(L.map (·.id)).Nodup) (id q:Int):∀o∈(xS L id q).1,zJx o:=by
 intro o ho
 rw[xS]at ho
 split at ho
 ·exact h o ho
 split at ho
 ·exact h o ho
 rename_i hb
 obtain⟨o',ho',e⟩:=y2b.1 ho
 have h0:=h o' ho'
 split at e
 ·rename_i e1
  have hg:=p8 hn ho'
  rw[e1]at hg
  rw[hg]at hb
  split at e
  ·cases e
  ·rename_i e2
   cases e
   have:=h0.q
   exact⟨h0.s,by dsimp only;omega⟩
 ·cases e;exact h0
theorem yFg (L:List zJ) (id q:Int):(xS L id q).1.length≤L.length:=by
 rw[xS]
 split
 ·exact yYa _
 split
 ·exact yYa _
 exact List.length_filterMap_le _ _
theorem yFz {L:List zJ} {s:Int} (h:zWy s (r9 L s)) (id q:Int):zWy s (r9 (xS L id q).1 s):=by
 rw[xS]
 split
 ·exact h
 split
 ·exact h
 have e:r9 (uD L id q) s=uD (r9 L s) id q:=by
  rw[r9,r9,uD,uD,List.filter_filterMap,List.filterMap_filter]
  refine bJ fun o _=> ?_
  by_cases e1:o.id=id
  ·rw[yWt e1]
   by_cases e2:o.qty=q
   ·rw[yWt e2];simp
   ·rw[yWs e2];by_cases e3:o.side=s<;>simp[Option.filter,e3]
  ·rw[yWs e1];by_cases e3:o.side=s<;>simp[Option.filter,e3]
 rw[e,uD]
 refine List.Pairwise.filterMap _ (fun a a' haa b hb b' hb'=> ?_) h
 have g:∀{a b:zJ},(if a.id=id then(if a.qty=q then none else some {a with qty:=a.qty-q})else some a)=some b→b.price=a.price:=by
  intro a b e
  split at e
  ·split at e
   ·cases e
   ·cases e;rfl
  ·cases e;rfl
 rw[g hb,g hb'];exact haa
theorem yGi {B:List (List zJ)} (h:((whL 0 B).map (·.1)).Nodup) {k:Nat} {L L':List zJ} (hL:B[k]? =some L) (hs:(L'.map (·.id)).Sublist (L.map (·.id))):((whL 0 (B.set k L')).map (·.1)).Nodup:=by
 have hk:=(yWv.1 hL).1
 obtain⟨rest,hr⟩:=zJf (B:=B) 0 k hk
 have h0:=hr L
 rw[vV hL]at h0
 have h1:=(h0.map (·.1)).nodup_iff.1 h
 refine((hr L').map (·.1)).nodup_iff.2 ?_
 rw[yXe,yZp]at h1 ⊢
 exact h1.sublist (List.Sublist.append hs (List.Sublist.refl _))
theorem BWf.take {p:Prd} {B:List (List zJ)} (h:BWf p B) (id q:Int):BWf p (qV B id q).1:=by
 refine⟨h.ok.take id q,?_,?_,?_⟩
 all_goals
  rw[qV]
  cases hi:cZ B id with
  |none=>first|exact h.od|exact h.ub|exact h.srt
  |some k=>
   obtain⟨L,hL,hh⟩:=uY hi
   have ho:=h.od k L hL
   dsimp only
   rw[zT hL]
   first
   |(intro j M hM
     rcases dY hM with⟨rfl,rfl⟩|⟨_,hM⟩
     ·refine⟨yBf ho.1 ho.2.1 id q,?_,y0m (yFg L id q) ho.2.2⟩
      rcases zLd ho.2.1 id q with⟨e,_⟩|⟨e,_⟩
      ·rw[e];exact ho.2.1
      ·rw[e];exact ho.2.1.sublist (List.Sublist.map _ y2m)
     ·exact h.od j M hM)
   |(refine yGi h.ub hL ?_
     rcases zLd ho.2.1 id q with⟨e,_⟩|⟨e,_⟩
     ·rw[e];exact List.Sublist.refl _
     ·rw[e];exact List.Sublist.map _ y2m)
   |(intro j M hM s hs
     rcases dY hM with⟨rfl,rfl⟩|⟨_,hM⟩
     ·exact yFz (h.srt _ L hL s hs) id q
     ·exact h.srt j M hM s hs)
theorem BWf.takes {p:Prd}:∀{fs:List dM} {B:List (List zJ)},BWf p B→BWf p (kB B fs)
 |[],B,h=>h
 |f::fs,B,h=>BWf.takes (fs:=fs) (h.take f.id f.qty)
open Go Cv Go.Proofs
theorem zPz {p:Prd} {B:List (List zJ)} (h:BWf p B) {inst:Int} {sd:Bool} {price q:Int} {t:j8} {B':List (List zJ)} (e:c9 p B inst sd price q=some (t,B')):BWf p B'∧B'.length=B.length:=by
 rw[c9]at e
 dsimp only at e
 split at e
 ·split at e
  ·cases e;exact⟨h.takes.takes,by rw[vW,vW]⟩
  ·cases e;exact⟨h.takes,by rw[vW]⟩
 ·cases e
theorem mR {p:Prd} {inst:Int} {sd:Bool} {price:Int}:∀(m:Nat) (q:Int) (B:List (List zJ)),q.toNat≤m→BWf p B→BWf p (j0 p B inst sd price q).B∧(j0 p B inst sd price q).B.length=B.length∧(0≤q→0≤(j0 p B inst sd price q).left∧(j0 p B inst sd price q).left≤q)
 |m,q,B,hm,h=>by
  by_cases hq:q≤0
  ·rw[tF (.inl hq)]
   exact⟨h,rfl,fun x=>⟨x,y1p _⟩⟩
  cases hs:c9 p B inst sd price q with
  |none=>
   rw[tF (.inr hs)]
   exact⟨h,rfl,fun x=>⟨x,y1p _⟩⟩
  |some x=>
   obtain⟨t,C⟩:=x
   obtain⟨k1,k2⟩:=zPz h hs
   have hq2:=zMk (by omega) hs
   cases m with
   |zero=>omega
   |succ m=>
   obtain⟨i1,i2,i3⟩:=mR (p:=p) (inst:=inst) (sd:=sd) (price:=price) m (q-t.qty) C (by omega) k1
   rw[zJs (by omega) hs]
   exact⟨i1,i2.trans k2,fun _=>⟨(i3 (by omega)).1,by dsimp only;have:=(i3 (by omega)).2;omega⟩⟩
open Go Cv Go.Proofs
@[reducible] def RunI.ok (i:RunI):Prop:=i.s.Rep i.p i.B∧BOk i.p i.B∧(0≤i.inst∧i.inst<i.B.length)∧1≤i.q∧i.q≤1000000
def scouldC:Con:=con1 RunI (fun i=>[.nm 0 0,zA i.inst,zA (zD i.sd),zA i.price,zA i.q]) (fun i=>[zF i.s]) (fun i=>i.ok) (fun i=>zA (i.q-i.r.left)) (fun i=>[zF i.s])
def bD (p:Prd) (B:List (List zJ)) (inst:Int) (sd:Bool) (price q:Int):Bool:=
 decide ((j0 p B inst sd price q).left≠0) && (qU ⟨p,(j0 p B inst sd price q).B.map qO,inst⟩ (zD (!sd))).any fun x=>dV sd price x.price
def stuckC:Con:=con1 RunI (fun i=>[.nm 0 0,zA i.inst,zA (zD i.sd),zA i.price,zA i.q]) (fun i=>[zF i.s]) (fun i=>i.ok) (fun i=>z7 (bD i.p i.B i.inst i.sd i.price i.q)) (fun i=>[zF i.s])
def z6m (B:List (List zJ)):Nat:=(whL 0 B).length
def countC16:Con:=con1 SoI (fun i=>[.nm 0 0]) (fun i=>[zF i.s]) (fun i=>i.ok) (fun i=>zA (z6m i.B)) (fun i=>[zF i.s])
def g7 (p:Prd) (inst price:Int):Int×Int×Int:=
 if(p.legs inst).2.2=false then(0,0,20)else if p.price inst price≠0 then(0,0,p.price inst price)else
 let far:=p.settle.getD (p.legs inst).2.1.toNat 0
 let a:=if p.high<far+price then(p.high,p.high-price)else(far+price,far)
 if a.1<p.low then(p.low,p.low-price,0)else(a.1,a.2,0)
structure LpI where
 p:Prd
 inst:Int
 price:Int
def lpricesC:Con:=con1 LpI (fun i=>[prdV i.p,zA i.inst,zA i.price]) (fun _=>[]) (fun i=>i.p.check=0∧i.p.small∧i64r i.price) (fun i=> .tup [zA (g7 i.p i.inst i.price).1,zA (g7 i.p i.inst i.price).2.1,zA (g7 i.p i.inst i.price).2.2]) (fun _=>[])
def ijj (t u:Nat):SAnn:={ι:=Int×Int,slots:=fun n=>[(t,zA n.1),(u,zA n.2)],rows:=fun _=>[]}
def lpJ:List (Nat×SAnn):=[(50,ijj 15 14),(58,ijj 15 14)]
def yNk:List SAnn:=[{ι:=Nat,slots:=fun j=>[(40,zA j)],rows:=fun _=>[]}]
def yMf:List (Nat×SAnn):=[(8,{ι:=Unit,slots:=fun _=>[],rows:=fun _=>[],opn:=[11]})]
open Go Cv Go.Proofs
def wC (a:Book):Prop:=(a.a.slots.length≤1000000∧a.a.queues.length≤1000000)∧a.buys.length≤1000000∧a.sells.length≤1000000∧a.spare.length≤1000000
def h8 (a:MSt):Prop:=a.books.length≤1000000∧∀(b:Book),b∈a.books→wC b
def qB (a:RunI):Prop:=a.s.Rep a.p a.B∧BOk a.p a.B∧(0≤a.inst∧a.inst<(↑a.B.length:Int))∧1≤a.q∧a.q≤1000000
def zBr (a:RunI):Prop:=∃(b:MSt),sb b.p.code=sb a.s.p.code∧b.p.tick=a.s.p.tick∧b.p.low=a.s.p.low∧b.p.high=a.s.p.high∧b.p.wide=a.s.p.wide∧b.p.rule=a.s.p.rule∧b.p.top=a.s.p.top∧b.p.least=a.s.p.least∧b.p.part=a.s.p.part∧AObj.objs 241 Book 6 zS b.books none=AObj.objs 241 Book 6 zS a.s.books none∧yU b.wh=yU a.s.wh∧AObj.fro 1 (iE b.p.months)=AObj.fro 1 (iE a.s.p.months)∧AObj.fro 1 (iE b.p.settle)=AObj.fro 1 (iE a.s.p.settle)∧(h8 b)∧∀(c:Unit),True→∃(d:RunI),d.inst=a.inst∧zD d.sd=zD a.sd∧d.price=a.price∧d.q=a.q∧zF d.s=zF b∧(qB d)∧∀(e:MSt),e.Rep d.p d.r.B→∃(f:Unit),a.q-a.r.left=IntKind.i64.wrap (a.q-d.r.left)∧zF a.s=zF b∧True
def j6 (a:RunI):Prop:=∃(b:Unit),a.q-a.r.left=0∧sb a.s.p.code=sb a.s.p.code∧a.s.p.tick=a.s.p.tick∧a.s.p.low=a.s.p.low∧a.s.p.high=a.s.p.high∧a.s.p.wide=a.s.p.wide∧a.s.p.rule=a.s.p.rule∧a.s.p.top=a.s.p.top∧a.s.p.least=a.s.p.least∧a.s.p.part=a.s.p.part∧AObj.objs 241 Book 6 zS a.s.books none=AObj.objs 241 Book 6 zS a.s.books none∧yU a.s.wh=yU a.s.wh∧AObj.fro 1 (iE a.s.p.months)=AObj.fro 1 (iE a.s.p.months)∧AObj.fro 1 (iE a.s.p.settle)=AObj.fro 1 (iE a.s.p.settle)∧True
def z5s (i:RunI):Prop:=
 cnd (decide (i.inst≥0)) (cnd (decide (i.inst<(↑i.s.books.length:Int))) (cnd (zD i.sd==1) (cnd (decide (i.q≥1)) (cnd (!decide (i.q≤1000000)) (j6 i) (zBr i)) (j6 i)) (cnd (zD i.sd==2) (cnd (decide (i.q≥1)) (cnd (!decide (i.q≤1000000)) (j6 i) (zBr i)) (j6 i)) (j6 i))) (j6 i)) (j6 i)
def zVg (i:SoI):Prop:=
 ∃(a:Unit),(↑(z6m i.B):Int)=(↑(yU i.s.wh).length:Int)∧sb i.s.p.code=sb i.s.p.code∧i.s.p.tick=i.s.p.tick∧i.s.p.low=i.s.p.low∧i.s.p.high=i.s.p.high∧i.s.p.wide=i.s.p.wide∧i.s.p.rule=i.s.p.rule∧i.s.p.top=i.s.p.top∧i.s.p.least=i.s.p.least∧i.s.p.part=i.s.p.part∧AObj.objs 241 Book 6 zS i.s.books none=AObj.objs 241 Book 6 zS i.s.books none∧yU i.s.wh=yU i.s.wh∧AObj.fro 1 (iE i.s.p.months)=AObj.fro 1 (iE i.s.p.months)∧AObj.fro 1 (iE i.s.p.settle)=AObj.fro 1 (iE i.s.p.settle)∧True
def gO (a:Int×Int→Prop) (b:Int×Int) (c:LpI):Prop:=a b∧Sx.AObj.cells [V.d (D.v (Value.string (sb c.p.code))),V.own 0,V.d (dI c.p.tick),V.d (dI c.p.low),V.d (dI c.p.high),V.d (dI c.p.wide),V.d (dI c.p.rule),V.d (dI c.p.top),V.d (dI c.p.least),V.d (dI c.p.part),V.own ((0:Nat)+(1:Nat))] 25=Sx.AObj.cells [V.d (D.v (Value.string (sb c.p.code))),V.own 0,V.d (dI c.p.tick),V.d (dI c.p.low),V.d (dI c.p.high),V.d (dI c.p.wide),V.d (dI c.p.rule),V.d (dI c.p.top),V.d (dI c.p.least),V.d (dI c.p.part),V.own ((0:Nat)+(1:Nat))] 25∧AObj.fro 1 (iE c.p.settle)=AObj.fro 1 (iE c.p.settle)∧AObj.fro 1 (iE c.p.months)=AObj.fro 1 (iE c.p.months)
def yV (a:LpI):=(g7 a.p a.inst a.price)
def zUb (i:LpI):Prop:=
 ∃(a:Prd),sb a.code=sb i.p.code∧iE a.months=iE i.p.months∧a.tick=i.p.tick∧a.low=i.p.low∧a.high=i.p.high∧a.wide=i.p.wide∧a.rule=i.p.rule∧a.top=i.p.top∧a.least=i.p.least∧a.part=i.p.part∧iE a.settle=iE i.p.settle∧(zY a)∧∀(b:Unit),True→cnd (a.check !=0) (∃(c:Unit),(yV i).fst=0∧(yV i).snd.fst=0∧(yV i).snd.snd=1∧True) (∃(c:dR),sb c.p.code=sb i.p.code∧iE c.p.months=iE i.p.months∧c.p.tick=i.p.tick∧c.p.low=i.p.low∧c.p.high=i.p.high∧c.p.wide=i.p.wide∧c.p.rule=i.p.rule∧c.p.top=i.p.top∧c.p.least=i.p.least∧c.p.part=i.p.part∧iE c.p.settle=iE i.p.settle∧c.n=i.inst∧(kM c)∧∀(d:Unit),True→cnd (!(c.p.legs c.n).snd.snd) (∃(e:Unit),(yV i).fst=0∧(yV i).snd.fst=0∧(yV i).snd.snd=20∧True) (∃(e:rR),sb e.p.code=sb i.p.code∧iE e.p.months=iE i.p.months∧e.p.tick=i.p.tick∧e.p.low=i.p.low∧e.p.high=i.p.high∧e.p.wide=i.p.wide∧e.p.rule=i.p.rule∧e.p.top=i.p.top∧e.p.least=i.p.least∧e.p.part=i.p.part∧iE e.p.settle=iE i.p.settle∧e.a=i.inst∧e.b=i.price∧(xU e)∧∀(f:Unit),True→cnd (e.p.price e.a e.b !=0) (∃(g:Unit),(yV i).fst=0∧(yV i).snd.fst=0∧(yV i).snd.snd=e.p.price e.a e.b∧True) ((0≤(c.p.legs c.n).snd.fst∧(c.p.legs c.n).snd.fst<(↑(iE i.p.settle).length:Int))∧∃(g:Int),zE (iE i.p.settle) (c.p.legs c.n).snd.fst.toNat 0 1=some [dI g]∧∃(h:Int×Int),∃(j:Int×Int→Prop),cnd (decide (IntKind.i64.wrap (g+i.price)>i.p.high)) (∃(k:Int×Int),k.fst=i.p.high∧k.snd=IntKind.i64.wrap (i.p.high-i.price)∧gO j k i) (∃(k:Int×Int),k.fst=IntKind.i64.wrap (g+i.price)∧k.snd=g∧gO j k i)∧∀(k:Int×Int),j k→∃(l:Int×Int),∃(m:Int×Int→Prop),cnd (decide (k.fst<i.p.low)) (∃(n:Int×Int),n.fst=i.p.low∧n.snd=IntKind.i64.wrap (i.p.low-i.price)∧gO m n i) (∃(n:Int×Int),n.fst=k.fst∧n.snd=k.snd∧gO m n i)∧∀(n:Int×Int),m n→∃(p:Unit),(yV i).fst=n.fst∧(yV i).snd.fst=n.snd∧(yV i).snd.snd=0∧True)))
def zBw (a:MSt) (b:MSt):Prop:=sb a.p.code=sb b.p.code∧True∧a.p.tick=b.p.tick∧a.p.low=b.p.low∧a.p.high=b.p.high∧a.p.wide=b.p.wide∧a.p.rule=b.p.rule∧a.p.top=b.p.top∧a.p.least=b.p.least∧a.p.part=b.p.part∧True∧True
def yBu (i:RunI):Prop:=
 ∃(a:MSt),zF a=zF i.s∧(h8 a)∧∀(b:Unit),True→∃(c:RunI),c.inst=i.inst∧zD c.sd=zD i.sd∧c.price=i.price∧c.q=i.q∧zF c.s=zF a∧(qB c)∧∀(d:MSt),d.Rep c.p c.r.B→cnd (c.r.left==0) (∃(e:Unit),bD i.p i.B i.inst i.sd i.price i.q=false∧zF i.s=zF a∧True) (∃(e:MSt),sb e.p.code=sb d.p.code∧e.p.tick=d.p.tick∧e.p.low=d.p.low∧e.p.high=d.p.high∧e.p.wide=d.p.wide∧e.p.rule=d.p.rule∧e.p.top=d.p.top∧e.p.least=d.p.least∧e.p.part=d.p.part∧AObj.objs 241 Book 6 zS e.books none=AObj.objs 241 Book 6 zS d.books none∧yU e.wh=yU d.wh∧AObj.fro 1 (iE e.p.months)=AObj.fro 1 (iE d.p.months)∧AObj.fro 1 (iE e.p.settle)=AObj.fro 1 (iE d.p.settle)∧(fY e)∧∀(f:Unit),True→(zBw e d)∧∃(g:Bool),zD g=zD i.sd∧True∧∀(h:Unit),True→(zBw e d)∧∃(j:sU),sb j.i.p.code=sb d.p.code∧iE j.i.p.months=iE e.p.months∧j.i.p.tick=d.p.tick∧j.i.p.low=d.p.low∧j.i.p.high=d.p.high∧j.i.p.wide=d.p.wide∧j.i.p.rule=d.p.rule∧j.i.p.top=d.p.top∧j.i.p.least=d.p.least∧j.i.p.part=d.p.part∧iE j.i.p.settle=iE e.p.settle∧List.map zZ j.i.tops=List.map zZ e.tops∧j.i.inst=i.inst∧zD j.s=zD !g∧(qT j)∧∀(k:Unit),True→∃(l:Nat),(↑l:Int)=0∧∃(m:Nat→Prop),∃(n:Nat→Nat),m l∧∀(p:Nat),m p→cnd (decide ((↑p:Int)<(gL j))) ((0≤(↑p:Int)∧(↑p:Int)<(gL j))∧∃(q:Int),∃(r:Int),∃(s:Int),∃(t:Int),∃(u:Int),∃(v:Int),zE (kT j) (↑p:Int).toNat 0 6=some [dI q,dI r,dI s,dI t,dI u,dI v]∧∃(w:GoI),zD w.s=zD i.sd∧w.p=i.price∧w.x=q∧True∧∀(x:Unit),True→cnd (dV w.s w.p w.x) (∃(y:Unit),bD i.p i.B i.inst i.sd i.price i.q=true∧zF i.s=zF a∧True) (∃(y:Nat),(↑y:Int)=IntKind.i64.wrap ((↑p:Int)+1)∧m y∧n y<n p∧AObj.own 259 6 (kT j)=AObj.own 259 6 (kT j)∧Sx.AObj.cells (jZ (dX 5 (1+((2:Nat)-(1:Nat))+((2:Nat)-(1:Nat))+((5:Nat)-(1:Nat))) ((6:Nat)-(5:Nat)) [((2:Nat),1+((2:Nat)-(1:Nat))+((2:Nat)-(1:Nat))+nat_lit 1),((1:Nat),1+((2:Nat)-(1:Nat))+((2:Nat)-(1:Nat))+nat_lit 0),((4:Nat),1+((2:Nat)-(1:Nat))+((2:Nat)-(1:Nat))+nat_lit 3),((3:Nat),1+((2:Nat)-(1:Nat))+((2:Nat)-(1:Nat))+nat_lit 2),((0:Nat),1+nat_lit 0)]) [sV e.p.code,V.own 3,zA e.p.tick,zA e.p.low,zA e.p.high,zA e.p.wide,zA e.p.rule,zA e.p.top,zA e.p.least,zA e.p.part,V.own 4,V.own 1,V.mp 2]) (240:TypeId)=Sx.AObj.cells (jZ (dX 5 (1+((2:Nat)-(1:Nat))+((2:Nat)-(1:Nat))+((5:Nat)-(1:Nat))) ((6:Nat)-(5:Nat)) [((2:Nat),1+((2:Nat)-(1:Nat))+((2:Nat)-(1:Nat))+nat_lit 1),((1:Nat),1+((2:Nat)-(1:Nat))+((2:Nat)-(1:Nat))+nat_lit 0),((4:Nat),1+((2:Nat)-(1:Nat))+((2:Nat)-(1:Nat))+nat_lit 3),((3:Nat),1+((2:Nat)-(1:Nat))+((2:Nat)-(1:Nat))+nat_lit 2),((0:Nat),1+nat_lit 0)]) [sV e.p.code,V.own 3,zA e.p.tick,zA e.p.low,zA e.p.high,zA e.p.wide,zA e.p.rule,zA e.p.top,zA e.p.least,zA e.p.part,V.own 4,V.own 1,V.mp 2]) (240:TypeId)∧AObj.objs 241 Book 6 zS e.books none=AObj.objs 241 Book 6 zS e.books none∧Sx.AObj.map (yU e.wh)=Sx.AObj.map (yU e.wh)∧AObj.fro 1 (iE e.p.months)=AObj.fro 1 (iE e.p.months)∧AObj.fro 1 (iE e.p.settle)=AObj.fro 1 (iE e.p.settle)∧AObj.fro 6 (List.map zZ e.tops)=AObj.fro 6 (List.map zZ e.tops)∧AObj.fro 1 (iE d.p.months)=AObj.fro 1 (iE d.p.months)∧AObj.fro 1 (iE d.p.settle)=AObj.fro 1 (iE d.p.settle)∧AObj.own 321 4 (List.map jS c.r.steps)=AObj.own 321 4 (List.map jS c.r.steps)∧zF a=zF a)) (∃(q:Unit),bD i.p i.B i.inst i.sd i.price i.q=false∧zF i.s=zF a∧True))
open Go Cv Go.Proofs
theorem MSt.Rep.small {s:MSt} {p:Prd} {B:List (List zJ)} (h:s.Rep p B) (hb:BOk p B):s.small:=by
 have:=xP p
 refine⟨by rw[h.bl,hb.bl];omega,fun b hm=> ?_⟩
 obtain⟨k,hk⟩:=yZr.1 hm
 have hlt:=(yWv.1 hk).1
 rw[h.bl]at hlt
 obtain⟨L,hL⟩:=zW hlt
 obtain⟨Q,c,_⟩:=h.bk k b L hk hL
 exact c.small
theorem yHk (i:RunI) (h:scouldC.cnd i):z5s i:=by
 have h':i.ok:=h
 obtain⟨hR,hB,⟨h0,h1⟩,hq1,hq2⟩:=h'
 have hbl:=hR.bl
 have hl:=(mR (inst:=i.inst) (sd:=i.sd) (price:=i.price) _ i.q i.B (yYa _) (hR.wf hB)).2.2 (by omega)
 have er:i.r=j0 i.p i.B i.inst i.sd i.price i.q:=rfl
 unfold z5s zBr qB h8 wC j6
 refine(fun hT=>zK (fun c=>zK (fun c2=>Cv.cnd.mk (fun _=>zK (fun _=>Cv.cnd.mk (fun e=>absurd hq2 (by simpa using e)) (fun _=>hT)) (fun e=>absurd hq1 e)) (fun e1=>Cv.cnd.mk (fun _=>zK (fun _=>Cv.cnd.mk (fun e=>absurd hq2 (by simpa using e)) (fun _=>hT)) (fun e=>absurd hq1 e)) (fun e2=>by
  rcases zDk i.sd with e|e
  ·rw[e]at e1;cases e1
  ·rw[e]at e2;cases e2))) (fun c2=>absurd (by omega) c2)) (fun c=>absurd h0 c)) ?_
 refine⟨i.s,rfl,rfl,rfl,rfl,rfl,rfl,rfl,rfl,rfl,rfl,rfl,rfl,rfl,hR.small hB,fun _ _=>⟨i,rfl,rfl,rfl,rfl,rfl,h,fun o ho=>⟨(),?_,rfl,trivial⟩⟩⟩
 rw[w64 (by rw[er];omega)]
theorem z6f:scouldC.ok Tryz.prog 167:=okw mixed (gokc zEf (gokc z1n gok0)) 2 (fun _=>[]) (fun _=>[]) [0] Tryz.func167 yHk
theorem yBg (i:SoI) (h:countC16.cnd i):zVg i:=by
 obtain⟨hR,hB⟩:i.s.Rep i.p i.B∧i.B.length≤1000:=h
 unfold zVg
 have e:(yU i.s.wh).length=z6m i.B:=by rw[yU,yWu,hR.wh.length_eq,z6m]
 exact⟨(),by rw[e],k0q⟩
theorem zZr:countC16.ok Tryz.prog 166:=okw mixed gok0 0 (fun _=>[]) (fun _=>[]) [0] Tryz.func166 yBg
theorem zVk {p:Prd} {i n:Int} (h:p.price i n=0):0≤i∧i<p.count:=by
 rw[Prd.price]at h
 split at h
 ·cases h
 split at h
 ·cases h
 omega
theorem yAa (i:LpI) (h:lpricesC.cnd i):zUb i:=by
 obtain⟨hc,hp,hpr⟩:i.p.check=0∧i.p.small∧i64r i.price:=h
 unfold zUb yV gO zY kM xU dI
 refine⟨i.p,rfl,rfl,rfl,rfl,rfl,rfl,rfl,rfl,rfl,rfl,rfl,hp,fun _ _=>Cv.cnd.mk (fun e=>by rw[hc]at e;cases e) (fun _=> ?_)⟩
 refine⟨⟨i.p,i.inst⟩,rfl,rfl,rfl,rfl,rfl,rfl,rfl,rfl,rfl,rfl,rfl,rfl,hp,fun _ _=>Cv.cnd.mk (fun e=> ?_) (fun e=> ?_)⟩
 ·have e:(i.p.legs i.inst).2.2=false:=by simpa using e
  have h0:g7 i.p i.inst i.price=(0,0,20):=by rw[g7,yWt e]
  rw[h0];exact⟨(),rfl,rfl,rfl,trivial⟩
 have e:(i.p.legs i.inst).2.2=true:=by simpa using e
 refine⟨⟨i.p,i.inst,i.price⟩,rfl,rfl,rfl,rfl,rfl,rfl,rfl,rfl,rfl,rfl,rfl,rfl,rfl,hp,fun _ _=>Cv.cnd.mk (fun e2=> ?_) (fun e2=> ?_)⟩
 ·have e2:¬i.p.price i.inst i.price=0:=by simpa using e2
  have h0:g7 i.p i.inst i.price=(0,0,i.p.price i.inst i.price):=by rw[g7,yWs (by rw[e];decide),yWt e2]
  rw[h0];exact⟨(),rfl,rfl,rfl,trivial⟩
 have e2:i.p.price i.inst i.price=0:=by simpa using e2
 have hin:=zVk e2
 have hbd:=tE hc e2
 have ok:=jI hc
 have b1:=ok.b1
 have b2:=ok.b2
 have b3:=ok.b3
 have s1:=ok.s1
 have s2:=ok.s2
 have s3:=ok.s3
 obtain⟨k,hk⟩:∃k:Nat,i.inst=k:=⟨i.inst.toNat,by omega⟩
 have hl:=dN hc (k:=k) (by omega)
 rw[← hk]at hl
 rcases hl with⟨_,_,_,l3,l4⟩|⟨x,_⟩
 rotate_left
 ·rw[e]at x;cases x
 have hsl:(iE i.p.settle).length=i.p.settle.length:=xC _
 obtain⟨n,hn⟩:=zW (l:=i.p.settle) (i:=(i.p.legs i.inst).2.1.toNat) (by omega)
 have hm:=yXd hn
 have m1:=z5x hm
 have m2:=z2c hm
 have hg:i.p.settle.getD (i.p.legs i.inst).2.1.toNat 0=n:=zT hn
 have h0:g7 i.p i.inst i.price=(if(if i.p.high<n+i.price then(i.p.high,i.p.high-i.price)else(n+i.price,n)).1<i.p.low then(i.p.low,i.p.low-i.price,0)else((if i.p.high<n+i.price then(i.p.high,i.p.high-i.price)else(n+i.price,n)).1,(if i.p.high<n+i.price then(i.p.high,i.p.high-i.price)else(n+i.price,n)).2,0)):=by
  rw[g7,yWs (by rw[e];decide),yWs (by rw[e2];decide)]
  dsimp only
  rw[hg]
 dsimp only
 refine⟨⟨l3,by omega⟩,n,elI hn,(0,0),fun a=>a=if i.p.high<n+i.price then(i.p.high,i.p.high-i.price)else(n+i.price,n),zK (fun c=>⟨(i.p.high,i.p.high-i.price),rfl,(w64 (by omega)).symm,?_,k0q⟩) (fun c=>⟨(n+i.price,n),(w64 (by omega)).symm,rfl,?_,k0q⟩),?_⟩
 ·rw[w64 (by omega)]at c;rw[yWt c]
 ·rw[w64 (by omega)]at c;rw[yWs c]
 rintro _ rfl
 generalize (if i.p.high<n+i.price then(i.p.high,i.p.high-i.price)else(n+i.price,n))=a at h0 ⊢
 refine⟨(0,0),fun b=>b=if a.1<i.p.low then(i.p.low,i.p.low-i.price)else a,zK (fun c=>⟨(i.p.low,i.p.low-i.price),rfl,(w64 (by omega)).symm,by rw[yWt c],k0q⟩) (fun c=>⟨a,rfl,rfl,by rw[yWs c],k0q⟩),?_⟩
 rintro _ rfl
 rw[h0]
 by_cases c:a.1<i.p.low
 ·rw[yWt c,yWt c];exact⟨(),rfl,rfl,rfl,trivial⟩
 ·rw[yWs c,yWs c];exact⟨(),rfl,rfl,rfl,trivial⟩
theorem z0i:lpricesC.ok Tryz.prog 264:=okw mixed (gokc sS (gokc lE (gokc sD gok0))) 0 (fun _=>lpJ) (fun _=>[]) [] Tryz.func264 yAa
theorem yHo {l:List Quote} {k:Nat} {q:Quote} (h:l[k]? =some q):zE (l.map zL) k 0 6=some [D.v (.int .i64 q.price),D.v (.int .i64 q.qty),D.v (.int .i64 q.a.inst),D.v (.int .i64 q.a.side),D.v (.int .i64 q.b.inst),D.v (.int .i64 q.b.side)]:=elA h (by simp[zL]) rfl
theorem yQn (i:RunI) (h:stuckC.cnd i):yBu i:=by
 have h':i.ok:=h
 obtain⟨hR,hB,⟨h0,h1⟩,hq1,hq2⟩:=h'
 have hwf:=hR.wf hB
 obtain⟨k1,k2,k3⟩:=mR (inst:=i.inst) (sd:=i.sd) (price:=i.price) _ i.q i.B (yYa _) hwf
 have hcl:=xP i.p
 unfold yBu zBw qB h8 wC gL kT qT gA fY dI
 refine⟨i.s,rfl,hR.small hB,fun _ _=>⟨i,rfl,rfl,rfl,rfl,rfl,h,fun o ho=> ?_⟩⟩
 have er:i.r=j0 i.p i.B i.inst i.sd i.price i.q:=rfl
 have es:bD i.p i.B i.inst i.sd i.price i.q=(decide ((j0 i.p i.B i.inst i.sd i.price i.q).left≠0) && (qU ⟨i.p,(j0 i.p i.B i.inst i.sd i.price i.q).B.map qO,i.inst⟩ (zD (!i.sd))).any fun x=>dV i.sd i.price x.price):=rfl
 rw[er]at ho ⊢
 rw[es]
 generalize j0 i.p i.B i.inst i.sd i.price i.q=R at*
 obtain⟨ts,lf,RB⟩:=R
 dsimp only at*
 refine Cv.cnd.mk (fun e=>⟨(),?_,rfl,trivial⟩) (fun e=> ?_)
 ·have e:lf=0:=by simpa using e
  rw[e];rfl
 have e:lf≠0:=by simpa using e
 rw[yXi e,yYx]
 have ep:=ho.ep
 have hB':=k1.ok
 have hbl:=hB'.bl
 have hcnt:o.cntOk:=ho.cnt (by omega)
 have hps:o.p.small:=by rw[ep];exact hB'.ps
 have hto:wV (RB.map qO):=hB'.tops
 have hle:=zCf ⟨o.p,RB.map qO,i.inst⟩ (zD (!i.sd))
 refine⟨o,rfl,rfl,rfl,rfl,rfl,rfl,rfl,rfl,rfl,rfl,rfl,rfl,rfl,hcnt,fun _ _=>⟨⟨rfl,trivial,rfl,rfl,rfl,rfl,rfl,rfl,rfl,rfl,trivial,trivial⟩,i.sd,rfl,trivial,fun _ _=>⟨⟨rfl,trivial,rfl,rfl,rfl,rfl,rfl,rfl,rfl,rfl,trivial,trivial⟩,⟨⟨o.p,RB.map qO,i.inst⟩,!i.sd⟩,rfl,rfl,rfl,rfl,rfl,rfl,rfl,rfl,rfl,rfl,rfl,by rw[ho.tops],rfl,rfl,⟨hps,hto⟩,fun _ _=> ?_⟩⟩⟩
 dsimp only
 rw[← ep]
 generalize qU ⟨o.p,RB.map qO,i.inst⟩ (zD (!i.sd))=Q at*
 have e4:(Q.map zL).length=Q.length:=yWu ..
 refine⟨0,rfl,fun j=>j≤Q.length∧(Q.take j).any (fun x=>dV i.sd i.price x.price)=false,fun j=>Q.length-j,⟨yYc _,rfl⟩,?_⟩
 rintro j ⟨j1,j2⟩
 refine zK (fun c=> ?_) (fun c=>⟨(),?_,rfl,trivial⟩)
 ·obtain⟨q,hq⟩:=zW (l:=Q) (i:=j) (by omega)
  refine⟨⟨by omega,by omega⟩,_,_,_,_,_,_,yHo hq,⟨i.sd,i.price,q.price⟩,rfl,rfl,rfl,trivial,fun _ _=>Cv.cnd.mk (fun g=>⟨(),?_,rfl,trivial⟩) (fun g=>⟨j+1,wjn (by omega),⟨by omega,?_⟩,by dsimp only;omega,k0q⟩)⟩
  ·rw[List.any_eq_true];exact⟨q,yXd hq,g⟩
  ·rw[yXx,hq,List.any_append,j2]
   show(false||([q].any fun x=>dV i.sd i.price x.price))=false
   simp only[List.any_cons,List.any_nil,Bool.or_false,y2o]
   exact g
 ·have:j=Q.length:=by omega
  rw[this,yXk (yYa _)]at j2
  exact j2
theorem zXz:stuckC.ok Tryz.prog 168:=okw mixed (gokc zEf (gokc z1n (gokc zXw (gokc yDy (gokc zPw (gokc zWn gok0)))))) 0 (fun _=>yMf) (fun _=>yNk) [] Tryz.func168 yQn
open Go Cv Go.Proofs
def nG (c:Cmd) (why:Int):List Rep:=[⟨2,c.id,0,0,0,0,0,why⟩]
def ofF (x:j8) (k:Int):Int:=match x.fills.find? fun f=>decide (f.inst=k)with
 |some f=>f.price
 |none=>x.price
def wJ (p:Prd) (inst:Int) (x:j8):Int×Int:=if x.implied=false then((g7 p inst x.price).1,(g7 p inst x.price).2.1)else(ofF x (p.legs inst).1,ofF x (p.legs inst).2.1)
def zJe (p:Prd) (r:Rep) (near far:Int):List Rep:=[{r with inst:=(p.legs r.inst).1,price:=near},{r with inst:=(p.legs r.inst).2.1,side:=3-r.side,price:=far}]
def rM (p:Prd) (x:j8) (r:Rep):List Rep:=r::if(p.legs r.inst).2.2=true then zJe p r (wJ p r.inst x).1 (wJ p r.inst x).2 else[]
def zDj (f:dM):Rep:=⟨3,f.id,f.inst,f.side,f.price,f.qty,f.left,0⟩
def mD (p:Prd) (c:Cmd) (x:j8) (left:Int):List Rep:=x.fills.flatMap (fun f=>rM p x (zDj f))++rM p x ⟨3,c.id,c.inst,c.side,x.price,x.qty,left,0⟩
def rF (p:Prd) (c:Cmd):List j8→Int→List Rep
 |[],_=>[]
 |x::l,left=>mD p c x (left-x.qty)++rF p c l (left-x.qty)
structure MkX where
 B:List (List zJ)
 U:List Int
 R:List Rep
def zOd (U:List Int) (id:Int):List Int:=if id∈U then U else U++[id]
def aW (p:Prd) (B:List (List zJ)) (U:List Int) (c:Cmd):MkX:=match j0 p B c.inst (decide (c.side=2)) c.price c.qty with
 |⟨ts,left,B'⟩=>⟨if left≠0∧c.time=1 then(z1w p B' c.inst c.id c.side c.price left).1 else B',zOd U c.id,
  (⟨1,c.id,c.inst,c.side,c.price,c.qty,c.qty,0⟩::rF p c ts c.qty)++if left≠0∧c.time≠1 then[⟨4,c.id,c.inst,c.side,c.price,left,0,0⟩]else[]⟩
def Cmd.lst (c:Cmd):Int:=if c.time=3 then c.qty else c.least
def sQ (p:Prd) (B:List (List zJ)) (U:List Int) (c:Cmd):MkX:=
 if p.price c.inst c.price≠0 then⟨B,U,nG c (p.price c.inst c.price)⟩
 else if c.id∈U then⟨B,U,nG c 25⟩
 else if 250≤z6m B then⟨B,U,nG c 13⟩
 else if 0<c.lst∧c.qty-(j0 p B c.inst (decide (c.side=2)) c.price c.qty).left<c.lst then⟨B,U,nG c 28⟩
 else if c.time=1∧bD p B c.inst (decide (c.side=2)) c.price c.qty=true then⟨B,U,nG c 23⟩
 else aW p B U c
def aR (B:List (List zJ)) (U:List Int) (id inst:Int) (o:zJ):MkX:=⟨(qV B id o.qty).1,U,[⟨4,id,inst,o.side,o.price,o.qty,0,0⟩]⟩
def zDd (B:List (List zJ)) (U:List Int) (id q inst:Int) (o:zJ):MkX:=⟨(qV B id q).1,U,[⟨5,id,inst,o.side,o.price,q,o.qty-q,0⟩]⟩
def bT (p:Prd) (B:List (List zJ)) (U:List Int) (c:Cmd) (inst:Int) (o:zJ):MkX:=
 if p.price inst c.price≠0 then⟨B,U,nG c (p.price inst c.price)⟩
 else if c.price=o.price∧c.qty≤o.qty then zDd B U c.id (o.qty-c.qty) inst o
 else if bD p (qV B c.id o.qty).1 inst (decide (o.side=2)) c.price c.qty=true then⟨B,U,nG c 23⟩
 else
  let x:=aR B U c.id inst o
  let y:=aW p x.B U ⟨1,c.id,inst,o.side,c.price,c.qty,0,1,[]⟩
  ⟨y.B,y.U,x.R++y.R⟩
def doF (p:Prd) (B:List (List zJ)) (U:List Int) (c:Cmd):MkX:=
 if c.right≠0 then⟨B,U,nG c c.right⟩
 else if c.kind=1 then sQ p B U c
 else if(yF B c.id).2.2=false then⟨B,U,nG c 26⟩
 else if c.kind=4 then bT p B U c (yF B c.id).1 (yF B c.id).2.1
 else if c.kind=2∨(yF B c.id).2.1.qty≤c.qty then aR B U c.id (yF B c.id).1 (yF B c.id).2.1
 else zDd B U c.id c.qty (yF B c.id).1 (yF B c.id).2.1
structure Mkt.Rep (m:Mkt) (p:Prd) (B:List (List zJ)) (U:List Int):Prop where
 ep:m.p=p
 s:m.s.Rep p B
 u:m.used=U
@[reducible] def zEd (m:Mkt):List AObj:=[yZ m 0,yZ m 1,yZ m 2,yZ m 3,yZ m 4]
@[reducible] def yKw (x:j8):V:= .agg [zA x.price,zA x.qty,z7 x.implied,roV 6 (x.fills.map yS)]
@[reducible] def tRp:Nat:=85
@[reducible] def z0z (l:List Rep):AObj:= .own tRp 8 (l.map xZ)
structure RjI where
 c:Cmd
 why:Int
def rejC:Con:=con1 RjI (fun i=>[zNy i.c,zA i.why]) (fun _=>[]) (fun _=>True) (fun _=> .own 0) (fun i=>[z0z (nG i.c i.why)])
structure MsI where
 m:Mkt
 r:Rep
 near:Int
 far:Int
@[reducible] def Mkt.fine (m:Mkt):Prop:=m.p.check=0∧m.p.small
def mspreadC:Con:=con1 MsI (fun i=>[.nm 0 0,yVr i.r,zA i.near,zA i.far]) (fun i=>zEd i.m) (fun i=>i.m.fine∧(i.r.side=1∨i.r.side=2)) (fun _=> .own 5) (fun i=>zEd i.m++[z0z (zJe i.m.p i.r i.near i.far)])
structure MiN where
 m:Mkt
 inst:Int
def misC:Con:=con1 MiN (fun i=>[.nm 0 0,zA i.inst]) (fun i=>zEd i.m) (fun i=>i.m.fine) (fun i=>z7 (i.m.p.legs i.inst).2.2) (fun i=>zEd i.m)
structure OfI where
 x:j8
 k:Int
@[reducible] def zVh (x:j8) (n:Nat):List AObj:=[.cells [zA x.price,zA x.qty,z7 x.implied,.own n] 321,.fro 6 (x.fills.map yS)]
def ofC:Con:=con1 OfI (fun i=>[zA i.k,.nm 0 0]) (fun i=>zVh i.x 1) (fun i=>i.x.fills.length≤1000000) (fun i=>zA (ofF i.x i.k)) (fun i=>zVh i.x 1)
def ofA:List SAnn:=[{ι:=Nat,slots:=fun j=>[(9,zA j)],rows:=fun _=>[]}]
structure MpI where
 m:Mkt
 inst:Int
 x:j8
def mpricesC:Con:=con1 MpI (fun i=>[.nm 0 0,zA i.inst,yKw i.x]) (fun i=>zEd i.m) (fun i=>i.m.fine∧i64r i.x.price∧i.x.fills.length≤1000000) (fun i=> .tup [zA (wJ i.m.p i.inst i.x).1,zA (wJ i.m.p i.inst i.x).2]) (fun i=>zEd i.m)
structure StI' where
 m:Mkt
 c:Cmd
 x:j8
 left:Int
def StI'.out (i:StI') (j:Nat):List Rep:=(i.x.fills.take j).flatMap fun f=>rM i.m.p i.x (zDj f)
def mstepC:Con:=con1 StI' (fun i=>[.nm 0 0,zNy i.c,yKw i.x,zA i.left]) (fun i=>zEd i.m) (fun i=>i.m.fine∧i64r i.x.price∧i.x.fills.length≤1000000∧(i.c.side=1∨i.c.side=2)∧∀f∈i.x.fills,f.side=1∨f.side=2) (fun _=> .own 5) (fun i=>zEd i.m++[z0z (mD i.m.p i.c i.x i.left)])
def yOc (i:StI'):List SAnn:=[{ι:=Nat,slots:=fun j=>[(9,.nm 0 0),(17,zA j)],rows:=fun j=>[.cells [.own 1] 106,z0z (i.out j)]}]
end Sx
