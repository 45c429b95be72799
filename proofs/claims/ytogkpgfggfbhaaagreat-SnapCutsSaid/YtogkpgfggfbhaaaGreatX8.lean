/- Texts of ours, one behind the other: a walk that the kernel reckons, and contracts of functions. No condition. -/
import Derived.Test.YtogkpgfggfbhaaaGreatX7
namespace Sx
set_option linter.unusedVariables false
set_option maxRecDepth 100000
open Go Cv Go.Proofs
def zCs (a:Nat→Prop) (b:Nat) (c:Nat→Nat) (d:Nat) (e:BkL) (f:ArN):Prop:=a b∧c b<c d∧Sx.AObj.cells (gY (jH 0 1 6) [V.nm 1 0,V.own 2,V.own 3,V.mp 4,zA e.b.top1,zA e.b.top2,V.own 5,yF e.b.has1,yF e.b.has2]) (244:TypeId)=Sx.AObj.cells (gY (jH 0 1 6) [V.nm 1 0,V.own 2,V.own 3,V.mp 4,zA e.b.top1,zA e.b.top2,V.own 5,yF e.b.has1,yF e.b.has2]) (244:TypeId)∧AObj.adt Arena 3 zG f.a=AObj.adt Arena 3 zG e.b.a∧AObj.own 301 2 (List.map zB e.b.buys)=AObj.own 301 2 (List.map zB e.b.buys)∧AObj.own 301 2 (List.map zB e.b.sells)=AObj.own 301 2 (List.map zB e.b.sells)∧Sx.AObj.map (atE e.b.at_)=Sx.AObj.map (atE e.b.at_)∧AObj.own 3 1 (iE e.b.spare)=AObj.own 3 1 (iE e.b.spare)
def cP (a:Nat) (b:BkL):=(List.take a (uP b.L (zC false)))
def yJm (i:BkL):Prop:=
 ∃(a:Int),a=zC false∧True∧∀(b:Unit),True→cnd (qX a) (∃(c:Unit),i.b.top1=i.b.top1∧i.b.top2=i.b.top2∧i.b.has1=i.b.has1∧i.b.has2=i.b.has2∧AObj.adt Arena 3 zG i.b.a=AObj.adt Arena 3 zG i.b.a∧List.map zB i.b.buys=List.map zB i.b.buys∧List.map zB i.b.sells=List.map zB i.b.sells∧atE i.b.at_=atE i.b.at_∧iE i.b.spare=iE i.b.spare∧List.map lvE (uP i.L (zC false))=[]∧True) (∃(c:Nat),(↑c:Int)=0∧List.map lvE (cP c i)=[]∧∃(d:Nat→Prop),∃(e:Nat→Nat),d c∧∀(f:Nat),d f→cnd (decide ((↑f:Int)<(↑(List.map zB i.b.buys).length:Int))) ((0≤(↑f:Int)∧(↑f:Int)<(↑(List.map zB i.b.buys).length:Int))∧∃(g:Int),∃(h:Int),zE (List.map zB i.b.buys) (↑f:Int).toNat 0 2=some [dI g,dI h]∧∃(j:ArN),j.n=h∧AObj.adt Arena 3 zG j.a=AObj.adt Arena 3 zG i.b.a∧True∧∀(k:Unit),True→h=h∧True∧g=g∧∃(l:ArN),l.n=h∧AObj.adt Arena 3 zG l.a=AObj.adt Arena 3 zG j.a∧True∧∀(m:Unit),True→g=g∧((List.map lvE (cP f i)).length+1)*(24:Nat)≤(140737488355328:Nat)∧∃(n:Nat),(↑n:Int)=IntKind.i64.wrap ((↑f:Int)+1)∧List.map lvE (cP n i)=List.map lvE (cP f i)++[[dI g,dI ((j.a.qAt j.n).total),dI ((l.a.qAt l.n).count)]]∧zCs d n e f i l) (∃(g:Unit),i.b.top1=i.b.top1∧i.b.top2=i.b.top2∧i.b.has1=i.b.has1∧i.b.has2=i.b.has2∧AObj.adt Arena 3 zG i.b.a=AObj.adt Arena 3 zG i.b.a∧List.map zB i.b.buys=List.map zB i.b.buys∧List.map zB i.b.sells=List.map zB i.b.sells∧atE i.b.at_=atE i.b.at_∧iE i.b.spare=iE i.b.spare∧List.map lvE (uP i.L (zC false))=List.map lvE (cP f i)∧True))
def cF (a:Nat) (b:BkL):=(List.take a (uP b.L (zC true)))
def yIr (i:BkL):Prop:=
 ∃(a:Int),a=zC true∧True∧∀(b:Unit),True→cnd (qX a) (∃(c:Unit),i.b.top1=i.b.top1∧i.b.top2=i.b.top2∧i.b.has1=i.b.has1∧i.b.has2=i.b.has2∧AObj.adt Arena 3 zG i.b.a=AObj.adt Arena 3 zG i.b.a∧List.map zB i.b.buys=List.map zB i.b.buys∧List.map zB i.b.sells=List.map zB i.b.sells∧atE i.b.at_=atE i.b.at_∧iE i.b.spare=iE i.b.spare∧List.map lvE (uP i.L (zC true))=[]∧True) (∃(c:Nat),(↑c:Int)=0∧List.map lvE (cF c i)=[]∧∃(d:Nat→Prop),∃(e:Nat→Nat),d c∧∀(f:Nat),d f→cnd (decide ((↑f:Int)<(↑(List.map zB i.b.sells).length:Int))) ((0≤(↑f:Int)∧(↑f:Int)<(↑(List.map zB i.b.sells).length:Int))∧∃(g:Int),∃(h:Int),zE (List.map zB i.b.sells) (↑f:Int).toNat 0 2=some [dI g,dI h]∧∃(j:ArN),j.n=h∧AObj.adt Arena 3 zG j.a=AObj.adt Arena 3 zG i.b.a∧True∧∀(k:Unit),True→h=h∧True∧g=g∧∃(l:ArN),l.n=h∧AObj.adt Arena 3 zG l.a=AObj.adt Arena 3 zG j.a∧True∧∀(m:Unit),True→g=g∧((List.map lvE (cF f i)).length+1)*(24:Nat)≤(140737488355328:Nat)∧∃(n:Nat),(↑n:Int)=IntKind.i64.wrap ((↑f:Int)+1)∧List.map lvE (cF n i)=List.map lvE (cF f i)++[[dI g,dI ((j.a.qAt j.n).total),dI ((l.a.qAt l.n).count)]]∧zCs d n e f i l) (∃(g:Unit),i.b.top1=i.b.top1∧i.b.top2=i.b.top2∧i.b.has1=i.b.has1∧i.b.has2=i.b.has2∧AObj.adt Arena 3 zG i.b.a=AObj.adt Arena 3 zG i.b.a∧List.map zB i.b.buys=List.map zB i.b.buys∧List.map zB i.b.sells=List.map zB i.b.sells∧atE i.b.at_=atE i.b.at_∧iE i.b.spare=iE i.b.spare∧List.map lvE (uP i.L (zC true))=List.map lvE (cF f i)∧True))
def nN (a:Nat×Top→Prop) (b:Nat×Top) (c:MSt) (d:Nat) (e:Book):Prop:=a b∧AObj.own 3 1 [[dI 1],[dI 2]]=AObj.own 3 1 [[dI 1],[dI 2]]∧xK c 0=xK c 0∧AObj.objs 184 Book 6 zQ (c.books.set (↑d:Int).toNat e) none=xK c 1∧xK c 2=xK c 2∧xK c 3=xK c 3∧xK c 4=xK c 4
def zAo (a:MSt) (b:Nat×Top) (c:Nat×Top→Prop) (d:Nat) (e:Book):Prop:=∃(f:Nat×Top),List.map zY (xR a f.fst f.snd)=List.map zY (xR a b.fst b.snd)∧nN c f a d e
def yAe (s:MSt):Prop:=
 (eK s)∧∃(a:Nat),(↑a:Int)=0∧List.map zY (x3 s a)=List.replicate (↑s.books.length:Int).toNat [D.v (.bool false),D.v (.bool false),dI 0,dI 0,dI 0,dI 0]∧∃(b:Nat→Prop),∃(c:Nat→Nat),b a∧∀(d:Nat),b d→cnd (decide ((↑d:Int)<(↑s.books.length:Int))) ((0≤(↑d:Int)∧(↑d:Int)<(↑s.books.length:Int))∧(↑d:Int).toNat<s.books.length∧∃(e:Nat×Top),List.map zY (xR s e.fst e.snd)=List.map zY (x3 s d)∧∃(f:Nat×Top→Prop),(((0:Int)≤(0:Int)∧0<(↑(2:Nat):Int))∧∃(g:Int),zE [[dI 1],[dI 2]] (Int.toNat 0) 0 1=some [dI g]∧∃(h:Book),s.books[(↑d:Int).toNat]?=some h∧∃(j:BkS),zC j.side=g∧zZ j.b=zZ h∧(wR j)∧∀(k:Unit),True→∃(l:Book),zZ j.b=zZ l∧(↑d:Int).toNat=(↑d:Int).toNat∧(↑d:Int).toNat<s.books.length∧cnd (zV j).snd ((qQ d s e)∧(qQ d s e)∧(qQ d s e)∧(↑d:Int).toNat<(v9 s e).length∧(cI d s e)∧(cI d s e)∧(zV j).fst.qty=(zV j).fst.qty∧(zV j).fst.price=(zV j).fst.price∧(↑d:Int).toNat<(cM s e d).length∧(tN d s e j)∧(zV j).fst.qty=(zV j).fst.qty∧(↑d:Int).toNat<(fL s e d j).length∧∃(m:Nat×Top),List.map zY (xR s m.fst m.snd)=yH (fL s e d j) (↑d:Int).toNat ((0:Nat)+(4:Nat)+nat_lit 0*1) [dI (vT j)]∧nN f m s d l) (zAo s e f d l))∧∀(g:Nat×Top),f g→∃(h:Nat×Top),List.map zY (xR s h.fst h.snd)=List.map zY (xR s g.fst g.snd)∧∃(j:Nat×Top→Prop),((cL)∧∃(k:Int),zE [[dI 1],[dI 2]] (IntKind.i64.wrap ((0:Int)+(1:Int))).toNat 0 1=some [dI k]∧∃(l:Book),s.books[(↑d:Int).toNat]?=some l∧∃(m:BkS),zC m.side=k∧zZ m.b=zZ l∧(wR m)∧∀(n:Unit),True→∃(p:Book),zZ m.b=zZ p∧(↑d:Int).toNat=(↑d:Int).toNat∧(↑d:Int).toNat<s.books.length∧cnd (zV m).snd ((qQ d s h)∧(qQ d s h)∧(qQ d s h)∧(↑d:Int).toNat<(v9 s h).length∧(cN d s h)∧(cN d s h)∧(zV m).fst.qty=(zV m).fst.qty∧(zV m).fst.price=(zV m).fst.price∧(↑d:Int).toNat<(cQ s h d).length∧(tU d s h m)∧(zV m).fst.qty=(zV m).fst.qty∧(↑d:Int).toNat<(fE s h d m).length∧∃(q:Nat×Top),List.map zY (xR s q.fst q.snd)=yH (fE s h d m) (↑d:Int).toNat ((0:Nat)+(4:Nat)+(nat_lit 0+nat_lit 1) % ((2:Int) ^ IntKind.i64.bits).natAbs*1) [dI (vT m)]∧nN j q s d p) (zAo s h j d p))∧∀(k:Nat×Top),j k→∃(l:Nat),(↑l:Int)=IntKind.i64.wrap ((↑d:Int)+1)∧List.map zY (x3 s l)=List.map zY (xR s k.fst k.snd)∧b l∧c l<c d∧xK s 0=xK s 0∧xK s 1=xK s 1∧xK s 2=xK s 2∧xK s 3=xK s 3∧xK s 4=xK s 4) (∃(e:Unit),sb s.p.code=sb s.p.code∧s.p.tick=s.p.tick∧s.p.low=s.p.low∧s.p.high=s.p.high∧s.p.wide=s.p.wide∧s.p.rule=s.p.rule∧s.p.top=s.p.top∧s.p.least=s.p.least∧s.p.part=s.p.part∧AObj.objs 184 Book 6 zQ s.books none=xK s 1∧yU s.wh=yU s.wh∧AObj.fro 1 (iE s.p.months)=xK s 3∧AObj.fro 1 (iE s.p.settle)=xK s 4∧List.map zY s.tops=List.map zY (x3 s d)∧True)
def lO (a:MSt) (b:StI):Prop:=AObj.fro 1 (iE a.p.months)=AObj.fro 1 (iE b.s.p.months)∧AObj.fro 1 (iE a.p.settle)=AObj.fro 1 (iE b.s.p.settle)∧a.Rep b.p (kK b.B b.id b.q).fst
def lX (a:MSt) (b:StI):Prop:=yU a.wh=yU b.s.wh∧lO a b
def nK (a:StI) (b:Int) (c:Bool):Prop:=vY (Value.int IntKind.i64 a.id) (yU a.s.wh)=some [dI b]∧c=true∨vY (Value.int IntKind.i64 a.id) (yU a.s.wh)=none∧[dI b]=[dI 0]∧c=false
def cZ (a:StI):Prop:=∀(b:Value×List D),b∈yU a.s.wh→like (Value.int IntKind.i64 a.id) b.fst=true
def z8k (i:StI):Prop:=
 (cZ i)∧∃(a:Bool),∃(b:Int),(nK i b a)∧cnd (!a) (∃(c:MSt),(kK i.B i.id i.q).snd=26∧sb c.p.code=sb i.s.p.code∧c.p.tick=i.s.p.tick∧c.p.low=i.s.p.low∧c.p.high=i.s.p.high∧c.p.wide=i.s.p.wide∧c.p.rule=i.s.p.rule∧c.p.top=i.s.p.top∧c.p.least=i.s.p.least∧c.p.part=i.s.p.part∧AObj.objs 184 Book 6 zQ c.books none=AObj.objs 184 Book 6 zQ i.s.books none∧lX c i) ((0≤b∧b<(↑i.s.books.length:Int))∧b.toNat<i.s.books.length∧∃(c:Book),i.s.books[b.toNat]?=some c∧∃(d:FlI),d.id=i.id∧d.qty=i.q∧zZ d.b=zZ c∧d.b.Rep d.L∧∀(e:Book),e.Rep (xY d.L d.id d.qty).fst→∃(f:Book),zZ e=zZ f∧b.toNat=b.toNat∧b.toNat<i.s.books.length∧(0≤b∧b<(↑(i.s.books.set b.toNat f).length:Int))∧b.toNat<(i.s.books.set b.toNat f).length∧∃(g:Book),(i.s.books.set b.toNat f)[b.toNat]?=some g∧∃(h:FlI),h.id=i.id∧zZ h.b=zZ g∧h.b.Rep h.L∧∀(j:Unit),True→∃(k:Book),zZ h.b=zZ k∧b.toNat=b.toNat∧b.toNat<(i.s.books.set b.toNat f).length∧cnd (!wB h.L h.id) ((cZ i)∧∃(l:MSt),(kK i.B i.id i.q).snd=(xY d.L d.id d.qty).snd∧sb l.p.code=sb i.s.p.code∧l.p.tick=i.s.p.tick∧l.p.low=i.s.p.low∧l.p.high=i.s.p.high∧l.p.wide=i.s.p.wide∧l.p.rule=i.s.p.rule∧l.p.top=i.s.p.top∧l.p.least=i.s.p.least∧l.p.part=i.s.p.part∧AObj.objs 184 Book 6 zQ l.books none=AObj.objs 184 Book 6 zQ ((i.s.books.set b.toNat f).set b.toNat k) none∧yU l.wh=eM (Value.int IntKind.i64 i.id) (yU i.s.wh)∧lO l i) (∃(l:MSt),(kK i.B i.id i.q).snd=(xY d.L d.id d.qty).snd∧sb l.p.code=sb i.s.p.code∧l.p.tick=i.s.p.tick∧l.p.low=i.s.p.low∧l.p.high=i.s.p.high∧l.p.wide=i.s.p.wide∧l.p.rule=i.s.p.rule∧l.p.top=i.s.p.top∧l.p.least=i.s.p.least∧l.p.part=i.s.p.part∧AObj.objs 184 Book 6 zQ l.books none=AObj.objs 184 Book 6 zQ ((i.s.books.set b.toNat f).set b.toNat k) none∧lX l i))
set_option linter.unusedSimpArgs false
open Go Cv Go.Proofs
theorem yQh (i:BkL) (h:lad1C.cnd i):yJm i:=by
 obtain⟨Q,c,ht,hL⟩:i.b.Rep i.L:=h
 have hsm:=c.small
 obtain⟨⟨ha1,ha2⟩,hb1,hb2,hsp⟩:=id hsm
 have hlad:=c.lad (.inl rfl)
 rw[← hL]at hlad
 have hlad:uP i.L (zC false)=i.b.buys.map i.b.told:=hlad
 unfold yJm zCs cP qX dI
 simp only[hlad,yVk]
 refine⟨1,rfl,trivial,fun _ _=>Cv.cnd.mk (fun e=>absurd e (by decide)) fun _=>⟨0,by(first|exact rfl|exact trivial),by(first|exact rfl|exact trivial),fun j=>j≤i.b.buys.length,fun j=>i.b.buys.length-j,yXf _,fun j hj=>zJ (fun e=> ?_) (fun e=> ?_)⟩⟩
 ·obtain⟨r,hr⟩:=yD (l:=i.b.buys) (i:=j) (by omega)
  have hi:=c.cnt
  refine⟨⟨by omega,by omega⟩,r.price,r.queue,elA hr (by simp[zB]) rfl,⟨i.b.a,r.queue⟩,by(first|exact rfl|exact trivial),by(first|exact rfl|exact trivial),trivial,fun _ _=>⟨by(first|exact rfl|exact trivial),by(first|exact rfl|exact trivial),by(first|exact rfl|exact trivial),⟨i.b.a,r.queue⟩,by(first|exact rfl|exact trivial),by(first|exact rfl|exact trivial),by(first|exact rfl|exact trivial),fun _ _=>⟨by(first|exact rfl|exact trivial),by simp only[yWe,yVk];omega,j+1,wjn (by omega),?_,by omega,by dsimp only;omega,by(repeat'(first|exact trivial|exact rfl|apply And.intro))⟩⟩⟩
  have hrt:(i.b.buys.map i.b.told)[j]? =some (i.b.told r):=by rw[yWt,hr];rfl
  rw[yWs,hrt];simp[lvE,Book.told]
 ·rw[yVx (by rw[yVk];omega)]
  exact⟨(),by(repeat'(first|exact trivial|exact rfl|apply And.intro))⟩
theorem yHr:lad1C.ok Tryz.prog 165:=okw mixed (gokc rB (gokc zEk (gokc a6 gok0))) 1 (fun _=>[]) (fun i=>yQk false i) [0] Tryz.func165 yQh
theorem yPl (i:BkL) (h:lad2C.cnd i):yIr i:=by
 obtain⟨Q,c,ht,hL⟩:i.b.Rep i.L:=h
 have hsm:=c.small
 obtain⟨⟨ha1,ha2⟩,hb1,hb2,hsp⟩:=id hsm
 have hlad:=c.lad (.inr rfl)
 rw[← hL]at hlad
 have hlad:uP i.L (zC true)=i.b.sells.map i.b.told:=hlad
 unfold yIr cF zCs qX dI
 simp only[hlad,yVk]
 refine⟨2,rfl,trivial,fun _ _=>Cv.cnd.mk (fun e=>absurd e (by decide)) fun _=>⟨0,by(first|exact rfl|exact trivial),by(first|exact rfl|exact trivial),fun j=>j≤i.b.sells.length,fun j=>i.b.sells.length-j,yXf _,fun j hj=>zJ (fun e=> ?_) (fun e=> ?_)⟩⟩
 ·obtain⟨r,hr⟩:=yD (l:=i.b.sells) (i:=j) (by omega)
  have hi:=c.cnt
  refine⟨⟨by omega,by omega⟩,r.price,r.queue,elA hr (by simp[zB]) rfl,⟨i.b.a,r.queue⟩,by(first|exact rfl|exact trivial),by(first|exact rfl|exact trivial),trivial,fun _ _=>⟨by(first|exact rfl|exact trivial),by(first|exact rfl|exact trivial),by(first|exact rfl|exact trivial),⟨i.b.a,r.queue⟩,by(first|exact rfl|exact trivial),by(first|exact rfl|exact trivial),by(first|exact rfl|exact trivial),fun _ _=>⟨by(first|exact rfl|exact trivial),by simp only[yWe,yVk];omega,j+1,wjn (by omega),?_,by omega,by dsimp only;omega,by(repeat'(first|exact trivial|exact rfl|apply And.intro))⟩⟩⟩
  have hrt:(i.b.sells.map i.b.told)[j]? =some (i.b.told r):=by rw[yWt,hr];rfl
  rw[yWs,hrt];simp[lvE,Book.told]
 ·rw[yVx (by rw[yVk];omega)]
  exact⟨(),by(repeat'(first|exact trivial|exact rfl|apply And.intro))⟩
theorem yEh:lad2C.ok Tryz.prog 165:=okw mixed (gokc rB (gokc zEk (gokc a6 gok0))) 1 (fun _=>[]) (fun i=>yQk true i) [0] Tryz.func165 yPl
theorem yLu:ladC.ok Tryz.prog 165:=fun j=>match j with
 |⟨b,L,false⟩=>yHr ⟨b,L⟩
 |⟨b,L,true⟩=>yEh ⟨b,L⟩
theorem yNt (s:MSt) (h:topsOC.cnd s):yAe s:=by
 obtain⟨h1,h2⟩:s.cntOk:=h
 unfold yAe vT qQ wR cL eK cI cN tN fL cM tU fE fP zV cQ v9 zAo nN dI
 have p48:(2:Int) ^ (48:Nat)=281474976710656:=by decide
 refine⟨⟨by omega,by omega,by omega,by rw[p48];omega⟩,0,rfl,?_,fun j=>j≤s.books.length,fun j=>s.books.length-j,by omega,fun j hj=>zJ (fun hlt=> ?_) (fun hlt=> ?_)⟩
 ·rw[x3,yVu,List.map_replicate];rfl
 ·have hj':j<s.books.length:=by omega
  obtain⟨b,hb⟩:=yD hj'
  have hc:=h2 b (yVv hb)
  simp only[yWb]
  have ha:∀x,(List.map zY (xR s j x)).length=s.books.length:=fun x=>by rw[yVk,zHt hj']
  have w1:IntKind.i64.wrap (0+1)=1:=by decide
  have w2:(0+1) % ((2:Int) ^ IntKind.i64.bits).natAbs=1:=by decide
  refine⟨⟨by omega,by omega⟩,by omega,(j,top0),by rw[zFq hj'],fun x=>x=(j,top0.buy (b.best b.buys)),⟨⟨by decide,by decide⟩,1,rfl,b,hb,⟨false,b⟩,rfl,rfl,hc,fun _ _=>⟨b,rfl,kp,by omega,?_⟩⟩,?_⟩
  ·refine Cv.cnd.mk (fun c=> ?_) (fun c=> ?_)
   ·have c:(b.best b.buys).2=true:=c
    have e1:=qV (s:=s) hj' (x:=top0) (y:={top0 with has1:=true}) (f:=0+0+0*1) (ds:=[D.v (.bool true)]) rfl
    have e2:=qV (s:=s) hj' (x:={top0 with has1:=true}) (y:={top0 with has1:=true,p1:=(b.best b.buys).1.price}) (f:=0+2+0*1) (ds:=[D.v (.int .i64 (b.best b.buys).1.price)]) rfl
    have e3:=qV (s:=s) hj' (x:={top0 with has1:=true,p1:=(b.best b.buys).1.price}) (y:={top0 with has1:=true,p1:=(b.best b.buys).1.price,q1:=(b.best b.buys).1.qty}) (f:=0+4+0*1) (ds:=[D.v (.int .i64 (b.best b.buys).1.qty)]) rfl
    dsimp only
    simp only[show b.side false=b.buys from rfl,e1,e2,e3,ha]
    (repeat'(first|exact rfl|exact trivial|assumption|apply And.intro|refine fun(_:Unit) (_:True)=>?_|refine Exists.intro () ?_|omega|(dsimp only;omega)))
    refine⟨(j,{top0 with has1:=true,p1:=(b.best b.buys).1.price,q1:=(b.best b.buys).1.qty}),rfl,?_,?_⟩
    ·rw[Top.buy,yVl c]
    ·(repeat'(first|exact rfl|exact trivial|assumption|apply And.intro|refine fun(_:Unit) (_:True)=>?_|refine Exists.intro () ?_|omega|(dsimp only;omega)))
     rw[gZ hb];rfl
   ·have c:(b.best b.buys).2=false:=c
    refine⟨(j,top0),rfl,?_,?_⟩
    ·rw[Top.buy,yVj (by rw[c];simp)]
    ·(repeat'(first|exact rfl|exact trivial|assumption|apply And.intro|refine fun(_:Unit) (_:True)=>?_|refine Exists.intro () ?_|omega|(dsimp only;omega)))
     rw[gZ hb];rfl
  ·rintro _ rfl
   rw[w1]
   generalize hx:top0.buy (b.best b.buys)=x
   have hx2:b.top=x.sell (b.best b.sells):=by rw[Book.top,hx]
   refine⟨(j,x),rfl,fun y=>y=(j,b.top),⟨⟨by decide,by decide⟩,2,rfl,b,hb,⟨true,b⟩,rfl,rfl,hc,fun _ _=>⟨b,rfl,kp,by omega,?_⟩⟩,?_⟩
   ·refine Cv.cnd.mk (fun c=> ?_) (fun c=> ?_)
    ·have c:(b.best b.sells).2=true:=c
     have e1:=qV (s:=s) hj' (x:=x) (y:={x with has2:=true}) (f:=0+0+1*1) (ds:=[D.v (.bool true)]) rfl
     have e2:=qV (s:=s) hj' (x:={x with has2:=true}) (y:={x with has2:=true,p2:=(b.best b.sells).1.price}) (f:=0+2+1*1) (ds:=[D.v (.int .i64 (b.best b.sells).1.price)]) rfl
     have e3:=qV (s:=s) hj' (x:={x with has2:=true,p2:=(b.best b.sells).1.price}) (y:={x with has2:=true,p2:=(b.best b.sells).1.price,q2:=(b.best b.sells).1.qty}) (f:=0+4+1*1) (ds:=[D.v (.int .i64 (b.best b.sells).1.qty)]) rfl
     dsimp only
     simp only[w2,show b.side true=b.sells from rfl,e1,e2,e3,ha]
     (repeat'(first|exact rfl|exact trivial|assumption|apply And.intro|refine fun(_:Unit) (_:True)=>?_|refine Exists.intro () ?_|omega|(dsimp only;omega)))
     refine⟨(j,{x with has2:=true,p2:=(b.best b.sells).1.price,q2:=(b.best b.sells).1.qty}),rfl,?_,?_⟩
     ·rw[hx2,Top.sell,yVl c]
     ·(repeat'(first|exact rfl|exact trivial|assumption|apply And.intro|refine fun(_:Unit) (_:True)=>?_|refine Exists.intro () ?_|omega|(dsimp only;omega)))
      rw[gZ hb];rfl
    ·have c:(b.best b.sells).2=false:=c
     refine⟨(j,x),rfl,?_,?_⟩
     ·rw[hx2,Top.sell,yVj (by rw[c];simp)]
     ·(repeat'(first|exact rfl|exact trivial|assumption|apply And.intro|refine fun(_:Unit) (_:True)=>?_|refine Exists.intro () ?_|omega|(dsimp only;omega)))
      rw[gZ hb];rfl
   ·rintro _ rfl
    refine⟨j+1,by rw[w64 (by omega)];rfl,?_⟩
    refine⟨by dsimp only;rw[zFo hb],?_⟩
    exact kp
 ·have hj:j≤s.books.length:=hj
  obtain rfl:j=s.books.length:=by omega
  have e:x3 s s.books.length=s.tops:=by
   rw[x3,y0w,List.replicate_zero,yWg,yVx (by rw[MSt.tops,yVk];omega)]
  rw[e]
  exact kp
theorem zVb:topsOC.ok Tryz.prog 115:=okw mixed (gokc zGy gok0) 0 (fun s=>yIv s) (fun s=>yKe s) [] Tryz.func115 yNt
theorem yMt (i:StI) (h:stakeC.cnd i):z8k i:=by
 obtain⟨hR,hB⟩:i.s.Rep i.p i.B∧i.B.length≤1000:=h
 have hat:=hR.at_ i.id
 unfold z8k cZ nK lX lO dI
 cases hi:bH i.B i.id with
 |none=>
  rw[hi]at hat
  refine⟨fG _ _,false,0,.inr ⟨by rw[mH,hat];rfl,rfl,rfl⟩,Cv.cnd.mk (fun _=>⟨i.s,?_⟩) (fun e=>absurd e (by decide))⟩
  have ht:kK i.B i.id i.q=(i.B,26):=by rw[kK,hi]
  rw[ht]
  exact⟨rfl,rfl,rfl,rfl,rfl,rfl,rfl,rfl,rfl,rfl,rfl,rfl,rfl,rfl,hR⟩
 |some k=>
  rw[hi]at hat
  obtain⟨L,hL,hh⟩:=u6 hi
  have hk:=(yVn.1 hL).1
  obtain⟨b,hb⟩:=yD (l:=i.s.books) (i:=k) (by rw[hR.bl];exact hk)
  have hbR:=hR.bk k b L hb hL
  have hbl:=hR.bl
  have hnd:=hbR.ords.2.1
  refine⟨fG _ _,true,k,.inl ⟨by rw[mH,hat];rfl,rfl⟩,Cv.cnd.mk (fun e=>absurd e (by decide)) (fun _=> ?_)⟩
  rw[yWb]
  refine⟨⟨by omega,by omega⟩,by omega,b,hb,⟨b,L,i.id,i.q⟩,rfl,rfl,rfl,hbR,fun b' hb'=> ?_⟩
  have hT:=hR.take (q:=i.q) hi hL hnd hb'
  have hk2:(kK i.B i.id i.q).2=(xY L i.id i.q).2:=by simp only[kK,hi,zT hL]
  refine⟨b',rfl,rfl,by omega,by rw[yWq];omega,by rw[yWq];omega,b',gV (by omega),⟨b',(xY L i.id i.q).1,i.id,0⟩,rfl,rfl,hb',fun _ _=>⟨b',rfl,rfl,by rw[yWq];omega,Cv.cnd.mk (fun e=>⟨fG _ _,?_⟩) (fun e=> ?_)⟩⟩
  ·have e:wB (xY L i.id i.q).1 i.id=false:=by simpa using e
   rw[e,yVj (by decide)]at hT
   refine⟨{i.s with books:=i.s.books.set k b',wh:=zWv i.id i.s.wh},hk2,rfl,rfl,rfl,rfl,rfl,rfl,rfl,rfl,rfl,?_,(zVw _ _).symm,rfl,rfl,hT⟩
   rw[yZn]
  ·have e:wB (xY L i.id i.q).1 i.id=true:=by simpa using e
   rw[e,yVl rfl]at hT
   refine⟨{i.s with books:=i.s.books.set k b',wh:=i.s.wh},hk2,rfl,rfl,rfl,rfl,rfl,rfl,rfl,rfl,rfl,?_,rfl,rfl,rfl,hT⟩
   rw[yZn]
theorem zBv:stakeC.ok Tryz.prog 113:=okw mixed (gokc yGq (gokc zVf gok0)) 0 (fun _=>[]) (fun _=>[]) [0] Tryz.func113 yMt
open Go Cv Go.Proofs
structure BOk (p:Prd) (B:List (List zI)):Prop where
 pc:p.check=0
 ps:p.small
 bl:B.length=p.count
 pr:∀(k:Nat) (L:List zI),B[k]? =some L→∀o∈L,p.price k o.price=0
def motherC:Con:=con1 Bool (fun b=>[zA (zC b)]) (fun _=>[]) (fun _=>True) (fun b=>zA (zC (!b))) (fun _=>[])
def dU (s:Bool) (p x:Int):Bool:=if s then decide (p≤x)else decide (x≤p)
structure GoI where
 s:Bool
 p:Int
 x:Int
def mgoodC:Con:=con1 GoI (fun i=>[zA (zC i.s),zA i.p,zA i.x]) (fun _=>[]) (fun _=>True) (fun i=>yF (dU i.s i.p i.x)) (fun _=>[])
def yQ (p:Prd) (B:List (List zI)) (inst:Int) (s:Int):Quote×Bool×Bool:=
 let bq:=zU (xV ⟨p,B.map kB,inst⟩ s) s
 let l:=bestL (B.getD inst.toNat []) s
 if(l.2 && !(bq.2 && btr s bq.1.price l.1.price))=true then(⟨l.1.price,l.1.qty,⟨0,0⟩,⟨0,0⟩⟩,false,true)else(bq.1,bq.2,bq.2)
structure NxI where
 s:MSt
 p:Prd
 B:List (List zI)
 inst:Int
 sd:Bool
def nextC:Con:=con1 NxI (fun i=>[.nm 0 0,zA i.inst,zA (zC i.sd)]) (fun i=>[zD i.s]) (fun i=>i.s.Rep i.p i.B∧BOk i.p i.B∧0≤i.inst∧i.inst<i.B.length)
 (fun i=> .tup [zQt (yQ i.p i.B i.inst (zC i.sd)).1,yF (yQ i.p i.B i.inst (zC i.sd)).2.1,yF (yQ i.p i.B i.inst (zC i.sd)).2.2]) (fun i=>[zD i.s])
structure dR where
 id:Int
 inst:Int
 side:Int
 price:Int
 qty:Int
 left:Int
 deriving DecidableEq
def yR (f:dR):List D:=[.v (.int .i64 f.id),.v (.int .i64 f.inst),.v (.int .i64 f.side),.v (.int .i64 f.price),.v (.int .i64 f.qty),.v (.int .i64 f.left)]
def xW (inst s:Int):List zI→List Int→List dR
 |o::os,k::ks=>if 0<k then⟨o.id,inst,s,o.price,k,o.qty-k⟩::xW inst s os ks else xW inst s os ks
 |_,_=>[]
def kO (B:List (List zI)) (fs:List dR):List (List zI):=fs.foldl (fun B f=>(kK B f.id f.qty).1) B
def zQe (B:List (List zI)) (inst s:Int):List zI:=atL (B.getD inst.toNat []) s (bestL (B.getD inst.toNat []) s).1.price
def qS (p:Prd) (B:List (List zI)) (inst s q:Int):List dR:=xW inst s (zQe B inst s) (kE ⟨p,zQe B inst s,q⟩)
structure TrI where
 s:MSt
 p:Prd
 B:List (List zI)
 inst:Int
 sd:Bool
 q:Int
def TrI.os (i:TrI):List zI:=zQe i.B i.inst (zC i.sd)
def TrI.sh (i:TrI):List Int:=kE ⟨i.p,i.os,i.q⟩
def TrI.fs (i:TrI) (j:Nat):List dR:=xW i.inst (zC i.sd) (i.os.take j) (i.sh.take j)
def tradeC:Con where
 ι:=TrI
 pat:=fun i=>[.nm 0 0,.agg [zA i.inst,zA (zC i.sd)],zA i.q]
 pre:=fun i=>[zD i.s]
 cnd:=fun i=>i.s.Rep i.p i.B∧BOk i.p i.B∧0≤i.inst∧i.inst<i.B.length∧yO i.q
 alts:=fun i=>[{o:=MSt,res:=fun _=> .own 1,post:=fun s=>[zD s,.own 319 6 ((qS i.p i.B i.inst (zC i.sd) i.q).map yR)],rel:=fun s=>s.Rep i.p (kO i.B (qS i.p i.B i.inst (zC i.sd) i.q))}]
def yOq (i:TrI):List SAnn:=[{ι:=Nat×MSt,slots:=fun j=>[(0,.nm 0 0),(11,.own 1),(44,zA j.1)],rows:=fun j=>[zD j.2,.own 319 6 ((i.fs j.1).map yR)]}]
open Go Cv Go.Proofs
def z1x (b:Bool):Prop:=
 ∃(a:Unit),(zC !b)=IntKind.i64.wrap (3-zC b)∧True
def z9x (i:GoI):Prop:=
 cnd (zC i.s==1) (cnd (decide (i.x≤i.p)) (∃(a:Unit),dU i.s i.p i.x=true∧True) (cnd (zC i.s==2) (∃(a:Unit),dU i.s i.p i.x=decide (i.x≥i.p)∧True) (∃(a:Unit),dU i.s i.p i.x=false∧True))) (cnd (zC i.s==2) (∃(a:Unit),dU i.s i.p i.x=decide (i.x≥i.p)∧True) (∃(a:Unit),dU i.s i.p i.x=false∧True))
def zDs (a:MSt) (b:NxI):Prop:=sb a.p.code=sb b.s.p.code∧True∧a.p.tick=b.s.p.tick∧a.p.low=b.s.p.low∧a.p.high=b.s.p.high∧a.p.wide=b.s.p.wide∧a.p.rule=b.s.p.rule∧a.p.top=b.s.p.top∧a.p.least=b.s.p.least∧a.p.part=b.s.p.part∧True∧True
def fN (a:BsI):Prop:=(a.s=1∨a.s=2)∧a.l.length≤1000000
def zDp (a:NxI) (b:MSt) (c:Book):Prop:=sb a.s.p.code=sb b.p.code∧a.s.p.tick=b.p.tick∧a.s.p.low=b.p.low∧a.s.p.high=b.p.high∧a.s.p.wide=b.p.wide∧a.s.p.rule=b.p.rule∧a.s.p.top=b.p.top∧a.s.p.least=b.p.least∧a.s.p.part=b.p.part∧AObj.objs 184 Book 6 zQ a.s.books none=AObj.objs 184 Book 6 zQ (b.books.set a.inst.toNat c) none∧yU a.s.wh=yU b.wh∧AObj.fro 1 (iE a.s.p.months)=AObj.fro 1 (iE b.p.months)∧AObj.fro 1 (iE a.s.p.settle)=AObj.fro 1 (iE b.p.settle)∧True
def z5 (a:NxI):=(yQ a.p a.B a.inst (zC a.sd))
def zHo (a:NxI) (b:BsI) (c:MSt) (d:Book):Prop:=∃(e:Unit),(z5 a).fst.price=(zU b.l b.s).fst.price∧(z5 a).fst.qty=(zU b.l b.s).fst.qty∧(z5 a).fst.a.inst=(zU b.l b.s).fst.a.inst∧(z5 a).fst.a.side=(zU b.l b.s).fst.a.side∧(z5 a).fst.b.inst=(zU b.l b.s).fst.b.inst∧(z5 a).fst.b.side=(zU b.l b.s).fst.b.side∧(z5 a).snd.fst=(zU b.l b.s).snd∧(z5 a).snd.snd=(zU b.l b.s).snd∧zDp a c d
def zLb (a:NxI) (b:BkS) (c:MSt) (d:Book):Prop:=∃(e:Unit),(z5 a).fst.price=(zV b).fst.price∧(z5 a).fst.qty=(zV b).fst.qty∧(z5 a).fst.a.inst=0∧(z5 a).fst.a.side=0∧(z5 a).fst.b.inst=0∧(z5 a).fst.b.side=0∧(z5 a).snd.fst=false∧(z5 a).snd.snd=true∧zDp a c d
def zHd (a:sO) (b:NxI) (c:MSt):Prop:=∃(d:BsI),List.map zK d.l=List.map zK (xV a.i (zC a.s))∧d.s=zC b.sd∧(fN d)∧∀(e:Unit),True→(0≤b.inst∧b.inst<(↑c.books.length:Int))∧b.inst.toNat<c.books.length∧∃(f:Book),c.books[b.inst.toNat]?=some f∧∃(g:BkS),zC g.side=zC b.sd∧zZ g.b=zZ f∧(wR g)∧∀(h:Unit),True→∃(j:Book),zZ g.b=zZ j∧b.inst.toNat=b.inst.toNat∧b.inst.toNat<c.books.length∧cnd (zV g).snd (cnd (zU d.l d.s).snd (∃(k:I3'),k.side=zC b.sd∧k.x=(zU d.l d.s).fst.price∧k.y=(zV g).fst.price∧True∧∀(l:Unit),True→cnd (!btr k.side k.x k.y) (zLb b g c j) (zHo b d c j)) (zLb b g c j)) (zHo b d c j)
def zQa (a:MSt) (b:NxI):Prop:=(zDs a b)∧∃(c:sO),sb c.i.p.code=sb b.s.p.code∧iE c.i.p.months=iE a.p.months∧c.i.p.tick=b.s.p.tick∧c.i.p.low=b.s.p.low∧c.i.p.high=b.s.p.high∧c.i.p.wide=b.s.p.wide∧c.i.p.rule=b.s.p.rule∧c.i.p.top=b.s.p.top∧c.i.p.least=b.s.p.least∧c.i.p.part=b.s.p.part∧iE c.i.p.settle=iE a.p.settle∧List.map zY c.i.tops=List.map zY a.tops∧c.i.inst=b.inst∧zC c.s=zC b.sd∧(kF c)∧∀(d:Unit),True→zHd c b a
def fS (a:MSt):Prop:=a.books.length≤1000000∧∀(b:Book),b∈a.books→∀(c:dJ),c∈b.a.queues→(-9223372036854775808)≤c.count∧c.count≤9223372036854775807
def yIt (i:NxI):Prop:=
 (∃(a:MSt),sb a.p.code=sb i.s.p.code∧a.p.tick=i.s.p.tick∧a.p.low=i.s.p.low∧a.p.high=i.s.p.high∧a.p.wide=i.s.p.wide∧a.p.rule=i.s.p.rule∧a.p.top=i.s.p.top∧a.p.least=i.s.p.least∧a.p.part=i.s.p.part∧AObj.objs 184 Book 6 zQ a.books none=AObj.objs 184 Book 6 zQ i.s.books none∧yU a.wh=yU i.s.wh∧AObj.fro 1 (iE a.p.months)=AObj.fro 1 (iE i.s.p.months)∧AObj.fro 1 (iE a.p.settle)=AObj.fro 1 (iE i.s.p.settle)∧(fS a)∧∀(b:Unit),True→(zDs a i)∧(∃(c:sO),sb c.i.p.code=sb i.s.p.code∧iE c.i.p.months=iE a.p.months∧c.i.p.tick=i.s.p.tick∧c.i.p.low=i.s.p.low∧c.i.p.high=i.s.p.high∧c.i.p.wide=i.s.p.wide∧c.i.p.rule=i.s.p.rule∧c.i.p.top=i.s.p.top∧c.i.p.least=i.s.p.least∧c.i.p.part=i.s.p.part∧iE c.i.p.settle=iE a.p.settle∧List.map zY c.i.tops=List.map zY a.tops∧c.i.inst=i.inst∧zC c.s=zC i.sd∧(kF c)∧∀(d:Unit),True→(zHd c i a)∧zHd c i a)∧zQa a i)∧(sb i.s.p.code=sb i.s.p.code∧True∧i.s.p.tick=i.s.p.tick∧i.s.p.low=i.s.p.low∧i.s.p.high=i.s.p.high∧i.s.p.wide=i.s.p.wide∧i.s.p.rule=i.s.p.rule∧i.s.p.top=i.s.p.top∧i.s.p.least=i.s.p.least∧i.s.p.part=i.s.p.part∧True∧True)∧∃(a:MSt),sb a.p.code=sb i.s.p.code∧a.p.tick=i.s.p.tick∧a.p.low=i.s.p.low∧a.p.high=i.s.p.high∧a.p.wide=i.s.p.wide∧a.p.rule=i.s.p.rule∧a.p.top=i.s.p.top∧a.p.least=i.s.p.least∧a.p.part=i.s.p.part∧AObj.objs 184 Book 6 zQ a.books none=AObj.objs 184 Book 6 zQ i.s.books none∧yU a.wh=yU i.s.wh∧AObj.fro 1 (iE a.p.months)=AObj.fro 1 (iE i.s.p.months)∧AObj.fro 1 (iE a.p.settle)=AObj.fro 1 (iE i.s.p.settle)∧(fS a)∧∀(b:Unit),True→zQa a i
def bR (a:AtI):=(List.map wL (atL a.L (zC a.s) a.price))
def zDi (a:Nat×MSt→Prop) (b:Nat×MSt) (c:Nat×MSt→Nat) (d:Nat×MSt) (e:AlI) (f:AtI) (g:BkS) (h:TrI):Prop:=a b∧c b<c d∧AObj.own 2 1 (iE (kE e))=AObj.own 2 1 (iE (kE e))∧AObj.fro 5 (bR f)=AObj.fro 5 (bR f)∧Sx.AObj.cells [V.d (dI (fP g)),V.d (dI (vT g)),V.d (dI ((zV g).fst.count))] 76=Sx.AObj.cells [V.d (dI (fP g)),V.d (dI (vT g)),V.d (dI ((zV g).fst.count))] 76∧Sx.AObj.cells [V.d (dI h.inst),V.d (dI (zC h.sd))] 254=Sx.AObj.cells [V.d (dI h.inst),V.d (dI (zC h.sd))] 254∧AObj.fro 1 (iE h.s.p.months)=AObj.fro 1 (iE h.s.p.months)∧AObj.fro 1 (iE h.s.p.settle)=AObj.fro 1 (iE h.s.p.settle)
def uX (a:TrI):=(qS a.p a.B a.inst (zC a.sd) a.q)
def fJ (a:TrI):=(kO a.B (uX a))
def yAt (i:TrI):Prop:=
 (0≤i.inst∧i.inst<(↑i.s.books.length:Int))∧i.inst.toNat<i.s.books.length∧∃(a:Book),i.s.books[i.inst.toNat]?=some a∧∃(b:BkS),zC b.side=zC i.sd∧zZ b.b=zZ a∧(wR b)∧∀(c:Unit),True→∃(d:Book),zZ b.b=zZ d∧i.inst.toNat=i.inst.toNat∧i.inst.toNat<i.s.books.length∧∃(e:Book),(i.s.books.set i.inst.toNat d)[i.inst.toNat]?=some e∧∃(f:AtI),zC f.s=zC i.sd∧f.price=(zV b).fst.price∧zZ f.b=zZ e∧f.b.Rep f.L∧∀(g:Unit),True→∃(h:Book),zZ f.b=zZ h∧i.inst.toNat=i.inst.toNat∧i.inst.toNat<(i.s.books.set i.inst.toNat d).length∧∃(j:AlI),sb j.p.code=sb i.s.p.code∧iE j.p.months=iE i.s.p.months∧j.p.tick=i.s.p.tick∧j.p.low=i.s.p.low∧j.p.high=i.s.p.high∧j.p.wide=i.s.p.wide∧j.p.rule=i.s.p.rule∧j.p.top=i.s.p.top∧j.p.least=i.s.p.least∧j.p.part=i.s.p.part∧iE j.p.settle=iE i.s.p.settle∧List.map wL j.l=List.map wL (atL f.L (zC f.s) f.price)∧j.q=i.q∧(j.l.length≤1000∧((-9223372036854775808)≤j.q∧j.q≤9223372036854775807)∧((-9223372036854775808)≤j.p.least∧j.p.least≤9223372036854775807)∧((-9223372036854775808)≤j.p.top∧j.p.top≤9223372036854775807)∧(-9223372036854775808)≤j.p.part∧j.p.part≤9223372036854775807)∧∀(k:Unit),True→∃(l:Nat×MSt),(↑l.fst:Int)=0∧sb l.snd.p.code=sb i.s.p.code∧l.snd.p.tick=i.s.p.tick∧l.snd.p.low=i.s.p.low∧l.snd.p.high=i.s.p.high∧l.snd.p.wide=i.s.p.wide∧l.snd.p.rule=i.s.p.rule∧l.snd.p.top=i.s.p.top∧l.snd.p.least=i.s.p.least∧l.snd.p.part=i.s.p.part∧AObj.objs 184 Book 6 zQ l.snd.books none=AObj.objs 184 Book 6 zQ ((i.s.books.set i.inst.toNat d).set i.inst.toNat h) none∧yU l.snd.wh=yU i.s.wh∧AObj.fro 1 (iE l.snd.p.months)=AObj.fro 1 (iE i.s.p.months)∧AObj.fro 1 (iE l.snd.p.settle)=AObj.fro 1 (iE i.s.p.settle)∧List.map yR (i.fs l.fst)=[]∧∃(m:Nat×MSt→Prop),∃(n:Nat×MSt→Nat),m l∧∀(p:Nat×MSt),m p→cnd (decide ((↑p.fst:Int)<(↑(iE (kE j)).length:Int))) ((0≤(↑p.fst:Int)∧(↑p.fst:Int)<(↑(iE (kE j)).length:Int))∧∃(q:Int),zE (iE (kE j)) (↑p.fst:Int).toNat 0 1=some [dI q]∧cnd (decide (q>0)) ((0≤(↑p.fst:Int)∧(↑p.fst:Int)<(↑(bR f).length:Int))∧∃(r:Int),∃(s:Int),∃(t:Int),∃(u:Int),∃(v:Bool),zE (bR f) (↑p.fst:Int).toNat 0 5=some [dI r,dI s,dI t,dI u,D.v (.bool v)]∧∃(w:StI),w.id=r∧w.q=q∧zD w.s=zD p.snd∧(w.s.Rep w.p w.B∧w.B.length≤1000)∧∀(x:MSt),x.Rep w.p (kK w.B w.id w.q).fst→((List.map yR (i.fs p.fst)).length+1)*(48:Nat)≤(140737488355328:Nat)∧∃(y:Nat×MSt),(↑y.fst:Int)=IntKind.i64.wrap ((↑p.fst:Int)+1)∧zD y.snd=zD x∧List.map yR (i.fs y.fst)=List.map yR (i.fs p.fst)++[[dI r,dI i.inst,dI (zC i.sd),dI t,dI q,dI (IntKind.i64.wrap (u-q))]]∧zDi m y n p j f b i) (∃(r:Nat×MSt),(↑r.fst:Int)=IntKind.i64.wrap ((↑p.fst:Int)+1)∧zD r.snd=zD p.snd∧List.map yR (i.fs r.fst)=List.map yR (i.fs p.fst)∧zDi m r n p j f b i)) (∃(q:MSt),zD q=zD p.snd∧List.map yR (uX i)=List.map yR (i.fs p.fst)∧q.Rep i.p (fJ i))
open Go Cv Go.Proofs
theorem sI {p:Prd} (hc:p.check=0) {k v:Int} (h:p.price k v=0): -2000000≤v∧v≤2000000:=by
 have ok:=jO hc
 have:=ok.b1
 have:=ok.b2
 have:=ok.b3
 have:=ok.b4
 have:=ok.b5
 rw[Prd.price]at h
 by_cases c1:p.count=0
 ·rw[yVl c1]at h;cases h
 by_cases c2:k<0∨(p.count:Int)≤k
 ·rw[yVj c1,yVl c2]at h;cases h
 cases c3:qM p.tick v with
 |true=>rw[yVj c1,yVj c2,yVl c3]at h;cases h
 |false=>
  rw[yVj c1,yVj c2,yVj (by rw[c3];decide)]at h
  by_cases c4:(p.months.length:Int)≤k
  ·simp only[yVl c4]at h
   by_cases c5:v< -p.wide∨p.wide<v
   ·rw[yVl c5]at h;cases h
   ·omega
  ·simp only[yVj c4]at h
   by_cases c5:v<p.low∨p.high<v
   ·rw[yVl c5]at h;cases h
   ·omega
theorem zGz {t:Int} (k:Int):qM t (t*k)=false:=by
 simp[qM,Int.mul_tmod_right]
theorem zWb (x:Prd):(jR x).small:=by
 have:=z8s x
 refine⟨by simp[jR],?_,?_⟩
 ·show(qG _).length≤_
  rw[sA];omega
 ·show(kT _ _).length≤_
  rw[aG];omega
theorem zTi (x:Prd):(jR x).check=0:=by
 have ht:=zWd x
 have hn:=z8s x
 have hw:=xI (n:=x.wide) (lo:=0) (hi:=60) (by omega)
 have hr:=xI (n:=x.rule) (lo:=0) (hi:=2) (by omega)
 have ho:=xI (n:=x.top) (lo:=0) (hi:=9) (by omega)
 have hl:=xI (n:=x.least) (lo:=0) (hi:=4) (by omega)
 have hp:=xI (n:=x.part) (lo:=0) (hi:=100) (by omega)
 have h1:j5 (jR x).code=true:=by show j5 [206,169]=true;decide+kernel
 obtain⟨k,hk,hk1⟩:∃k:Nat,(kN x).toNat=k∧(2≤k∧k≤5):=⟨_,rfl,by omega⟩
 have h2:xC (jR x).months=true:=by
  show xC (qG (kN x).toNat)=true
  rw[hk]
  have:k=2∨k=3∨k=4∨k=5:=by omega
  rcases this with rfl|rfl|rfl|rfl<;>decide
 have h3:qJ (jR x)=true:=by
  have a:qM (zW x) (-20*zW x)=false:=by rw[y0o];exact zGz _
  have b:qM (zW x) (100*zW x)=false:=by rw[y0o];exact zGz _
  have c:(kT (zW x) (kN x).toNat).any (qM (zW x))=false:=by
   rw[y1i]
   intro y hy
   obtain⟨j,_,rfl⟩:=yWy.1 hy
   rw[zGz];decide
  simp only[qJ,jR,a,b,c,zGz,y0h,Bool.and_true,yVy]
  exact⟨yWd (by omega),yWd (by omega)⟩
 have mw:=zIg (a:=zW x) (b:=5+zH x.wide 0 60) (m:=zW x) (n:=65) (by omega) (by omega)
 have h4:qI (jR x)=false:=by
  simp only[qI,jR,yZh]
  exact⟨⟨⟨⟨yVw (by omega),yVw (by omega)⟩,yVw (by omega)⟩,yVw (by omega)⟩,yVw (by omega)⟩
 have h5:xE (jR x)=false:=by
  have e:(kT (zW x) (kN x).toNat).length=(qG (kN x).toNat).length:=by rw[aG,sA]
  have ne:kT (zW x) (kN x).toNat≠[]:=by
   intro hc
   have:=aG (zW x) (kN x).toNat
   rw[hc]at this
   simp at this
   omega
  have bd:∀y∈kT (zW x) (kN x).toNat,0≤y∧y≤zW x*15:=by
   intro y hy
   obtain⟨j,hj,rfl⟩:=yWy.1 hy
   have:=yYh.1 hj
   exact zIg (by omega) (by omega)
  have m1:=bd _ (zTl ne)
  have m2:=bd _ (zVm ne)
  simp only[xE,jR,e,ne_eq,not_true_eq_false,decide_false,y1e,yZh]
  exact⟨yVw (by omega),yVw (by omega)⟩
 have h6:kD (jR x)=false:=by
  simp only[kD,jR,yZh]
  exact⟨yVw (by omega),yVw (by omega)⟩
 have h7:x0 (jR x)=false:=by
  simp only[x0,jR,yZh]
  exact⟨⟨⟨⟨⟨yVw (by omega),yVw (by omega)⟩,yVw (by omega)⟩,yVw (by omega)⟩,yVw (by omega)⟩,yVw (by omega)⟩
 rw[Prd.check,h1,h2,h3,h4,h5,h6,h7]
 rfl
open Go Cv Go.Proofs
structure zPh (qs sh:List Int) (q:Int):Prop where
 len:sh.length=qs.length
 bd:∀n,0≤sh.getD n 0∧sh.getD n 0≤qs.getD n 0
 sum:sh.sum=q
theorem yAu:∀{l:List Int},(∀x∈l,0≤x)→0≤l.sum
 |[],_=>yZw 0
 |a::l,h=>by
  have:=yAu (l:=l) fun x hx=>h x (yVr _ hx)
  have:=h a yVp
  rw[yWw];omega
theorem z2a:∀{z:List (Int×Int)},(∀y∈z,0≤y.2∧y.2≤y.1)→(z.map (·.2)).sum≤(z.map (·.1)).sum
 |[],_=>yZw 0
 |a::l,h=>by
  have:=z2a (z:=l) fun x hx=>h x (yVr _ hx)
  have:=h a yVp
  rw[yVz,yVz,yWw,yWw];omega
theorem r9:∀(l:List Int) (q:Int),(∀x∈l,0≤x)→0≤q→q≤l.sum→zPh l (uG l q) q
 |[],q,_,h0,h1=>⟨rfl,fun n=>by simp[uG],by simp at h1;simp[uG];omega⟩
 |n::l,q,h,h0,h1=>by
  have hn:=h n yVp
  rw[yWw]at h1
  have:=yAu fun x hx=>h x (yVr _ hx)
  have ih:=r9 l (q-min n q) (fun x hx=>h x (yVr _ hx)) (by omega) (by omega)
  refine⟨by rw[uG,yVt,yVt,ih.len],fun k=> ?_,by rw[uG,yWw,ih.sum];omega⟩
  cases k with
  |zero=>exact⟨by show 0≤min n q;omega,by show min n q≤n;omega⟩
  |succ k=>exact ih.bd k
theorem eO:∀(z:List (Int×Int)) (q:Int),(∀y∈z,0≤y.2∧y.2≤y.1)→0≤q→q≤(z.map (·.1)).sum-(z.map (·.2)).sum→(jX z q).length=z.length∧(∀n,0≤(jX z q).getD n 0∧(jX z q).getD n 0≤(z.map (·.1)).getD n 0)∧(jX z q).sum=(z.map (·.2)).sum+q
 |[],q,_,h0,h1=>⟨rfl,fun n=>by simp[jX],by simp at h1;simp[jX];omega⟩
 |(n,x)::r,q,h,h0,h1=>by
  have hn:=h (n,x) yVp
  simp only[yVz,yWw]at h1
  have:=z2a fun y hy=>h y (yVr _ hy)
  have ih:=eO r (q-min (n-x) q) (fun y hy=>h y (yVr _ hy)) (by omega) (by omega)
  refine⟨by rw[jX,yVt,yVt,ih.1],fun k=> ?_,by rw[jX,yWw,ih.2.2,yVz,yWw];omega⟩
  cases k with
  |zero=>exact⟨by show 0≤x+min (n-x) q;have:=hn.1;have:=hn.2;dsimp only at*;omega,by show x+min (n-x) q≤n;have:=hn.2;dsimp only at*;omega⟩
  |succ k=>exact ih.2.1 k
theorem yBb {l:List Int} {q:Int} (h1:l.length≤250) (h2:0≤q) (h3:∀x∈l,1≤x∧x≤1000000) (h4:q≤l.sum):yS l q=true:=by
 rw[yS,yWd h1,yWd h2,yWd h4]
 simp only[yYc,Bool.and_true,yYk,yVy,yXd]
 exact h3
theorem zQu {i:PlI} (h:yS i.l i.q=true) (hl:1≤i.least):zPh i.l (kW i) i.q:=by
 obtain⟨r1,r2,r3,r4⟩:=kY h
 rw[kW,yVl ⟨h,hl⟩]
 by_cases hne:i.l.length=0
 ·have e:i.l=[]:=yWl hne
  have hq:i.q=0:=by rw[e]at r4;simp at r4;omega
  have e0:i.p1=[]:=by rw[PlI.p1,e];rfl
  rw[e0,e,hq]
  exact⟨rfl,fun n=>by simp,rfl⟩
 ·obtain⟨_,_,f1,f2⟩:=zBi h (by omega)
  have hpl:=zZk i
  have m1:(i.l.zip i.p0).map (·.1)=i.l:=List.map_fst_zip (by omega)
  have m2:(i.l.zip i.p0).map (·.2)=i.p0:=List.map_snd_zip (by omega)
  have hp:=eO (i.l.zip i.p0) (i.q-i.p0.sum) (fun y hy=>by
   obtain⟨j,hj⟩:=yYb.1 hy
   rw[yZu]at hj
   exact f1 j _ _ hj.1 hj.2) (by omega) (by rw[m1,m2];omega)
  rw[m1,m2]at hp
  refine⟨?_,hp.2.1,?_⟩
  ·rw[PlI.p1,hp.1,List.length_zip,hpl,Nat.min_self]
  ·rw[PlI.p1,hp.2.2];omega
theorem zQp:∀{l:List Int} {k:Nat} {x:Int},k<l.length→(l.set k x).sum=l.sum+(x-l.getD k 0)
 |[],k,x,h=>absurd h (by simp)
 |a::l,0,x,_=>by
  show x+l.sum=a+l.sum+(x-a);omega
 |a::l,k+1,x,h=>by
  have:=zQp (l:=l) (k:=k) (x:=x) (by simpa using h)
  show a+(l.set k x).sum=a+l.sum+(x-l.getD k 0)
  omega
theorem zLc {l:List Int} {k n:Nat} {x:Int} (h:k<l.length):(l.set k x).getD n 0=if n=k then x else l.getD n 0:=by
 rw[yVs,y0s]
 by_cases e:k=n
 ·subst e;rw[yVl rfl,yVl h,yVl rfl];rfl
 ·rw[yVj e,yVj (fun e2=>e e2.symm),yVs]
theorem zVg {l:List Int}:∀(z:List (Nat×Int)) (o:List Int),(z.map (·.1)).Nodup→(∀y∈z,y.1<o.length∧0≤y.2∧o.getD y.1 0+y.2≤l.getD y.1 0)→(∀n,0≤o.getD n 0∧o.getD n 0≤l.getD n 0∧l.getD n 0≤1000000)→
 (z.foldl (fun o y=>o.set y.1 (IntKind.i64.wrap (o.getD y.1 0+y.2))) o).length=o.length∧(z.foldl (fun o y=>o.set y.1 (IntKind.i64.wrap (o.getD y.1 0+y.2))) o).sum=o.sum+(z.map (·.2)).sum∧∀n,0≤(z.foldl (fun o y=>o.set y.1 (IntKind.i64.wrap (o.getD y.1 0+y.2))) o).getD n 0∧(z.foldl (fun o y=>o.set y.1 (IntKind.i64.wrap (o.getD y.1 0+y.2))) o).getD n 0≤l.getD n 0
 |[],o,_,_,h=>⟨rfl,by simp,fun n=>⟨(h n).1,(h n).2.1⟩⟩
 |y::z,o,hn,hz,h=>by
  obtain⟨h1,h2,h3⟩:=hz y yVp
  rw[yVz,yXy]at hn
  have hw:IntKind.i64.wrap (o.getD y.1 0+y.2)=o.getD y.1 0+y.2:=by
   have:=h y.1
   exact w64 (by omega)
  rw[yYv,hw]
  have ih:=zVg (l:=l) z (o.set y.1 (o.getD y.1 0+y.2)) hn.2 (fun x hx=>by
   obtain⟨g1,g2,g3⟩:=hz x (yVr _ hx)
   have hne:x.1≠y.1:=fun e=>hn.1 (e▸yWo (f:=(·.1)) hx)
   rw[yWq,zLc h1,yVj hne]
   exact⟨g1,g2,g3⟩) (fun n=>by
   rw[zLc h1]
   split
   ·rename_i e
    rw[e]
    exact⟨by have:=h y.1;omega,h3,(h y.1).2.2⟩
   ·exact h n)
  refine⟨by rw[ih.1,yWq],?_,ih.2.2⟩
  rw[ih.2.1,zQp h1,yVz,yWw];omega
theorem zJy (l:List Int):(List.range l.length).map (fun n=>l.getD n 0)=l:=by
 apply y0b
 intro n
 rw[yWt]
 by_cases h:n<l.length
 ·rw[yZk h,yWp h,yXi,yVs,yWp h];rfl
 ·rw[yWk (by simpa using h),yWk (by omega)];rfl
theorem z0t {f g:Nat→Int}:∀l:List Nat,(l.map fun n=>f n-g n).sum=(l.map f).sum-(l.map g).sum
 |[]=>rfl
 |a::l=>by rw[yVz,yVz,yVz,yWw,yWw,yWw,z0t l];omega
theorem zIr {f:Nat→Int} {p:Nat→Bool}:∀{l:List Nat},(∀n∈l,p n=false→f n=0)→((l.filter p).map f).sum=(l.map f).sum
 |[],_=>rfl
 |a::l,h=>by
  have ih:=zIr (l:=l) fun n hn=>h n (yVr _ hn)
  rw[yVz,yWw]
  by_cases e:p a=true
  ·rw[y0d e,yVz,yWw,ih]
  ·rw[y0e e,ih,h a yVp (by simpa using e)];omega
theorem rG {i:RsI} (hl:i.l.length≤250) (ho:i.out.length=i.l.length) (hn:∀n,0≤i.out.getD n 0∧i.out.getD n 0≤i.l.getD n 0∧i.l.getD n 0≤1000000) (hq:0≤i.q∧i.q≤i.l.sum-i.out.sum) (hle:1≤i.least):
 zPh i.l (mG i) (i.out.sum+i.q):=by
 have hidx:(i.idx i.l.length).length≤250:=yYp (yYq _ _) (by simpa using hl)
 have hmem:∀n∈i.idx i.l.length,n<i.l.length∧i.out.getD n 0<i.l.getD n 0:=by
  intro n hn
  obtain⟨a,b⟩:=yXl.1 hn
  exact⟨yYh.1 a,yXu b⟩
 have hls:(i.left i.l.length).sum=i.l.sum-i.out.sum:=by
  rw[RsI.left,RsI.idx,zIr,z0t,zJy]
  ·rw[← ho,zJy]
  ·intro n _ e
   have:=yZr e
   have:=hn n
   omega
 have hr:yS (i.left i.l.length) i.q=true:=by
  refine yBb (by rw[RsI.left,yVk];exact hidx) hq.1 (fun x hx=> ?_) (by omega)
  obtain⟨n,hm,rfl⟩:=yWy.1 hx
  have:=hmem n hm
  have:=hn n
  omega
 have hp:=zQu (i:=⟨i.left i.l.length,i.least,i.q⟩) hr hle
 have hpl:i.pl.length=(i.idx i.l.length).length:=by
  have:=hp.len
  rw[RsI.pl,this,RsI.left,yVk]
 have hnd:(i.idx i.l.length).Nodup:=List.nodup_range.sublist y1c
 have z1:((i.idx i.l.length).zip i.pl).map (·.1)=i.idx i.l.length:=List.map_fst_zip (by omega)
 have z2:((i.idx i.l.length).zip i.pl).map (·.2)=i.pl:=List.map_snd_zip (by omega)
 have hf:=zVg (l:=i.l) ((i.idx i.l.length).zip i.pl) i.out (by rw[z1];exact hnd) (fun y hy=>by
  obtain⟨j,hj⟩:=yYb.1 hy
  rw[yZu]at hj
  have hm:=hmem y.1 (yVv hj.1)
  have hb:=hp.bd j
  have e1:(kW ⟨i.left i.l.length,i.least,i.q⟩).getD j 0=y.2:=by
   rw[yVs]
   have:(kW ⟨i.left i.l.length,i.least,i.q⟩)[j]? =some y.2:=hj.2
   rw[this];rfl
  have e2:(i.left i.l.length).getD j 0=i.l.getD y.1 0-i.out.getD y.1 0:=by
   rw[yVs,RsI.left,yWt,hj.1];rfl
  dsimp only at hb
  rw[e1,e2]at hb
  exact⟨by omega,hb.1,by omega⟩) hn
 have hall:mG i=((i.idx i.l.length).zip i.pl).foldl (fun o y=>o.set y.1 (IntKind.i64.wrap (o.getD y.1 0+y.2))) i.out:=by
  rw[mG,RsI.add,yVx (by rw[List.length_zip];omega)]
 rw[hall]
 refine⟨by rw[hf.1,ho],hf.2.2,?_⟩
 rw[hf.2.1,z2]
 have:=hp.sum
 rw[RsI.pl,this]
theorem z3g {l:List Int} (h:∀x∈l,1≤x∧x≤1000000) (n:Nat):0≤l.getD n 0∧l.getD n 0≤1000000:=by
 by_cases hn:n<l.length
 ·obtain⟨x,hx⟩:=yD hn
  have:=h x (yVv hx)
  rw[zT hx];omega
 ·rw[yVs,yWk (by omega)];decide
theorem yLy (n k:Nat):(List.replicate n (0:Int)).getD k 0=0:=by
 rw[yVs,List.getElem?_replicate]
 split<;>rfl
theorem zLh (n:Nat):(List.replicate n (0:Int)).sum=0:=by
 induction n with
 |zero=>rfl
 |succ n ih=>rw[yZj,yWw,ih];rfl
theorem yKi {q part:Int} (hq:0≤q) (h0:0≤part) (h1:part≤100):0≤q*part / 100∧q*part / 100≤q:=by
 have h2:0≤q*part:=y1j hq h0
 have h3:q*part≤q*100:=y0c h1 hq
 constructor<;>omega
theorem zPm {p:Prd} (hc:p.check=0) {l:List zI} {q:Int} (hr:yS (l.map (·.qty)) q=true):zPh (l.map (·.qty)) (kE ⟨p,l,q⟩) q:=by
 have ok:=jO hc
 obtain⟨r1,r2,r3,r4⟩:=kY hr
 have q1:=ok.q1
 have q3:=ok.q3
 have q5:=ok.q5
 have q6:=ok.q6
 have r5:=ok.r1
 have r6:=ok.r2
 have gb:=z3g r3
 have eqs:(AlI.qs ⟨p,l,q⟩)=l.map (·.qty):=rfl
 rw[kE]
 simp only[eqs]
 generalize l.map (·.qty)=qs at*
 by_cases c1:p.rule=1
 ·rw[yVl c1,uQ,yVl hr]
  exact r9 _ _ (fun x hx=>by have:=r3 x hx;omega) r2 r4
 by_cases c2:p.rule=2
 ·rw[yVj c1,yVl c2,zBj,yVl ⟨hr,q3,q1⟩]
  rw[PsI.rs]
  dsimp only
  split
  ·rename_i ht
   have hk:(topI l).toNat<(List.replicate qs.length (0:Int)).length:=by simp;omega
   have hf:0≤PsI.first ⟨qs,topI l,p.top,p.least,q⟩∧PsI.first ⟨qs,topI l,p.top,p.least,q⟩≤qs.getD (topI l).toNat 0∧PsI.first ⟨qs,topI l,p.top,p.least,q⟩≤q:=by
    have:=gb (topI l).toNat
    simp only[PsI.first]
    omega
   have hs:((List.replicate qs.length (0:Int)).set (topI l).toNat (PsI.first ⟨qs,topI l,p.top,p.least,q⟩)).sum=PsI.first ⟨qs,topI l,p.top,p.least,q⟩:=by
    rw[zQp hk,zLh,yLy];omega
   have:=rG (i:=⟨qs,(List.replicate qs.length 0).set (topI l).toNat (PsI.first ⟨qs,topI l,p.top,p.least,q⟩),p.least,q-PsI.first ⟨qs,topI l,p.top,p.least,q⟩⟩) r1 (by simp) (fun n=>by
    dsimp only
    rw[zLc hk,yLy]
    have:=gb n
    split
    ·rename_i e;rw[e];exact⟨hf.1,hf.2.1,(gb _).2⟩
    ·omega) (by dsimp only;rw[hs];omega) q3
   dsimp only at this
   rw[hs]at this
   have e:PsI.first ⟨qs,topI l,p.top,p.least,q⟩+(q-PsI.first ⟨qs,topI l,p.top,p.least,q⟩)=q:=by omega
   rw[e]at this
   exact this
  ·have:=rG (i:=⟨qs,List.replicate qs.length 0,p.least,q⟩) r1 (by simp) (fun n=>by
    dsimp only
    rw[yLy]
    have:=gb n
    omega) (by dsimp only;rw[zLh];omega) q3
   dsimp only at this
   rw[zLh,Int.zero_add]at this
   exact this
 ·have c3:p.rule=3:=by omega
  rw[yVj c1,yVj c2,yVl c3,lY,yVl ⟨hr,q5,q6,q3⟩]
  rw[SpI.rs]
  dsimp only
  obtain⟨d1,d2⟩:=yKi r2 q5 q6
  have hr2:yS qs (q*p.part / 100)=true:=yBb r1 d1 r3 (by omega)
  have hfs:=r9 qs (q*p.part / 100) (fun x hx=>by have:=r3 x hx;omega) d1 (by omega)
  have e0:uQ qs (q*p.part / 100)=uG qs (q*p.part / 100):=by rw[uQ,yVl hr2]
  have:=rG (i:=⟨qs,uQ qs (q*p.part / 100),p.least,q-q*p.part / 100⟩) r1 (by dsimp only;rw[e0];exact hfs.len) (fun n=>by
   dsimp only
   rw[e0]
   exact⟨(hfs.bd n).1,(hfs.bd n).2,(gb n).2⟩) (by dsimp only;rw[e0,hfs.sum];omega) q3
  dsimp only at this
  rw[e0,hfs.sum]at this
  rw[e0]
  have e:q*p.part / 100+(q-q*p.part / 100)=q:=by omega
  rw[e]at this
  exact this
theorem zYr {p:Prd} {l:List zI} {q:Int} (hr:yS (l.map (·.qty)) q=false):kE ⟨p,l,q⟩=[]:=by
 have eqs:(AlI.qs ⟨p,l,q⟩)=l.map (·.qty):=rfl
 rw[kE]
 simp only[eqs,uQ,zBj,lY,hr]
 simp
open Go Cv Go.Proofs
theorem zNn:motherC.ok Tryz.prog 153:=okw (V:=z1x) mixed gok0 0 (fun _=>[]) (fun _=>[]) [] Tryz.func153 fun(b:Bool) _=>by
 unfold z1x
 cases b<;>exact⟨(),by decide,trivial⟩
theorem zUh:mgoodC.ok Tryz.prog 154:=okw (V:=z9x) mixed gok0 0 (fun _=>[]) (fun _=>[]) [] Tryz.func154 fun(i:GoI) _=>by
 obtain⟨s,p,x⟩:=i
 unfold z9x
 cases s
 ·refine Cv.cnd.mk (fun _=>zJ (fun c=>⟨(),?_,trivial⟩) (fun c=>Cv.cnd.mk (fun e=>by simp[zC]at e) (fun _=>⟨(),?_,trivial⟩))) (fun e=>by simp[zC]at e)
  ·exact yWd c
  ·exact yVw c
 ·exact Cv.cnd.mk (fun e=>by simp[zC]at e) (fun _=>Cv.cnd.mk (fun _=>⟨(),rfl,trivial⟩) (fun e=>by simp[zC]at e))
theorem zRz {L:List zI} {s:Int}:((bestL L s).2=true∧∃o∈L,o.side=s∧o.price=(bestL L s).1.price)∨(bestL L s=(⟨0,0,0⟩,false)∧∀o∈L,o.side≠s):=by
 rw[bestL]
 cases hl:uP L s with
 |nil=>
  refine .inr ⟨rfl,fun o ho e=> ?_⟩
  rw[uP]at hl
  cases hf:L.filter fun o=>decide (o.side=s)with
  |nil=>
   rw[List.filter_eq_nil_iff]at hf
   have:=hf o ho
   simp[e]at this
  |cons x y=>
   rw[hf,grp]at hl
   split at hl
   ·cases hl
   ·split at hl<;>cases hl
 |cons v vs=>
  refine .inl ⟨rfl,?_⟩
  rw[uP]at hl
  obtain⟨o,r,e1,e2⟩:=zJj hl
  have:o∈L.filter fun o=>decide (o.side=s):=by rw[e1];exact yVp
  rw[yXl]at this
  exact⟨o,this.1,by simpa using this.2,e2⟩
theorem zRm {L:List zI} {s:Int} (h:∀o∈L,-2000000≤o.price∧o.price≤2000000): -2000000≤(bestL L s).1.price∧(bestL L s).1.price≤2000000:=by
 rcases zRz (L:=L) (s:=s)with⟨_,o,ho,_,e⟩|⟨e,_⟩
 ·rw[← e];exact h o ho
 ·rw[e];constructor<;>decide
theorem zHe (L:List zI):(kB L).p1=(bestL L 1).1.price∧(kB L).q1=(bestL L 1).1.qty∧(kB L).has1=(bestL L 1).2∧(kB L).p2=(bestL L 2).1.price∧(kB L).q2=(bestL L 2).1.qty∧(kB L).has2=(bestL L 2).2:=by
 have h:∀s,(bestL L s).2=true∨bestL L s=(⟨0,0,0⟩,false):=fun s=>by
  rcases zRz (L:=L) (s:=s)with⟨h,_⟩|⟨h,_⟩
  ·exact .inl h
  ·exact .inr h
 rw[kB,Top.sell,Top.buy]
 rcases h 1 with h1|h1<;>rcases h 2 with h2|h2<;>simp[h1,h2,top0]
theorem BOk.prices {p:Prd} {B:List (List zI)} (h:BOk p B) {k:Nat} {L:List zI} (hL:B[k]? =some L):∀o∈L,-2000000≤o.price∧o.price≤2000000:=fun o ho=>sI h.pc (h.pr k L hL o ho)
theorem BOk.tops {p:Prd} {B:List (List zI)} (h:BOk p B):wY (B.map kB):=by
 have:=xZ p
 refine⟨by rw[yVk,h.bl];omega,fun t ht=> ?_⟩
 obtain⟨L,hL,rfl⟩:=yWy.1 ht
 obtain⟨k,hk⟩:=yYb.1 hL
 have b1:=zRm (s:=1) (h.prices hk)
 have b2:=zRm (s:=2) (h.prices hk)
 rw[(zHe L).1,(zHe L).2.2.2.1]
 exact⟨by constructor<;>omega,by constructor<;>omega⟩
theorem MSt.Rep.tops {s:MSt} {p:Prd} {B:List (List zI)} (h:s.Rep p B):s.tops=B.map kB:=by
 rw[MSt.tops]
 apply y0b
 intro k
 rw[yWt,yWt]
 by_cases hk:k<B.length
 ·obtain⟨L,hL⟩:=yD hk
  obtain⟨b,hb⟩:=yD (l:=s.books) (i:=k) (by rw[h.bl];exact hk)
  rw[hL,hb,yXi,yXi,(h.bk k b L hb hL).top]
 ·rw[yWk (by rw[h.bl];omega),yWk (by omega)];rfl
theorem MSt.Rep.cnt {s:MSt} {p:Prd} {B:List (List zI)} (h:s.Rep p B) (hB:B.length≤1000000):s.cntOk:=by
 refine⟨by rw[h.bl];exact hB,fun b hb=> ?_⟩
 obtain⟨k,hk⟩:=yYb.1 hb
 have hlt:=(yVn.1 hk).1
 rw[h.bl]at hlt
 obtain⟨L,hL⟩:=yD hlt
 exact(h.bk k b L hk hL).cnt
theorem zWe {b:Book} {L:List zI} (h:b.Rep L) (sd:Bool):b.best (b.side sd)=bestL L (zC sd):=by
 obtain⟨Q,c,ht,rfl⟩:=h
 cases sd
 ·exact c.bestL (.inl rfl)
 ·exact c.bestL (.inr rfl)
theorem zBy (sd:Bool):zC sd=1∨zC sd=2:=by cases sd;exact .inl rfl;exact .inr rfl
theorem ySy (i:NxI) (h:nextC.cnd i):yIt i:=by
 obtain⟨hR,hB,h0,h1⟩:i.s.Rep i.p i.B∧BOk i.p i.B∧0≤i.inst∧i.inst<i.B.length:=h
 have hcl:=xZ i.p
 have hbl:=hB.bl
 have hsl:=hR.bl
 obtain⟨k,hk⟩:∃k:Nat,i.inst=k:=⟨i.inst.toNat,by omega⟩
 obtain⟨L,hL⟩:=yD (l:=i.B) (i:=k) (by omega)
 obtain⟨b,hb⟩:=yD (l:=i.s.books) (i:=k) (by omega)
 have hbR:=hR.bk k b L hb hL
 have hps:i.s.p.small:=by rw[hR.ep];exact hB.ps
 have hto:wY i.s.tops:=by rw[hR.tops];exact hB.tops
 have hnx:yQ i.p i.B i.inst (zC i.sd)=if((bestL L (zC i.sd)).2 && !((zU (xV ⟨i.s.p,i.s.tops,i.inst⟩ (zC i.sd)) (zC i.sd)).2 && btr (zC i.sd) (zU (xV ⟨i.s.p,i.s.tops,i.inst⟩ (zC i.sd)) (zC i.sd)).1.price (bestL L (zC i.sd)).1.price))=true then(⟨(bestL L (zC i.sd)).1.price,(bestL L (zC i.sd)).1.qty,⟨0,0⟩,⟨0,0⟩⟩,false,true)else((zU (xV ⟨i.s.p,i.s.tops,i.inst⟩ (zC i.sd)) (zC i.sd)).1,(zU (xV ⟨i.s.p,i.s.tops,i.inst⟩ (zC i.sd)) (zC i.sd)).2,(zU (xV ⟨i.s.p,i.s.tops,i.inst⟩ (zC i.sd)) (zC i.sd)).2):=by
  rw[yQ,hR.tops,hR.ep,hk,yWb,zT hL]
 have hbest:=zWe hbR i.sd
 unfold yIt fS zQa kF hZ zHd wR zLb zV zHo z5 zDp fN zDs
 have hcnt:i.s.cntOk:=hR.cnt (by omega)
 have hql:(xV ⟨i.s.p,i.s.tops,i.inst⟩ (zC i.sd)).length≤1000000:=by
  have:=yYp (yYq (fun q=>decide (i.s.p.price i.inst q.price=0)) _) (zAy ⟨i.s.p,i.s.tops,i.inst⟩ (zC i.sd))
  exact yYp this (by decide)
 refine(fun hT=>⟨⟨i.s,rfl,rfl,rfl,rfl,rfl,rfl,rfl,rfl,rfl,rfl,rfl,rfl,rfl,hcnt,fun _ _=>⟨⟨rfl,trivial,rfl,rfl,rfl,rfl,rfl,rfl,rfl,rfl,trivial,trivial⟩,⟨⟨⟨i.s.p,i.s.tops,i.inst⟩,i.sd⟩,rfl,rfl,rfl,rfl,rfl,rfl,rfl,rfl,rfl,rfl,rfl,rfl,rfl,rfl,⟨hps,hto⟩,fun _ _=>⟨hT,hT⟩⟩,⟨rfl,trivial,rfl,rfl,rfl,rfl,rfl,rfl,rfl,rfl,trivial,trivial⟩,⟨⟨⟨i.s.p,i.s.tops,i.inst⟩,i.sd⟩,rfl,rfl,rfl,rfl,rfl,rfl,rfl,rfl,rfl,rfl,rfl,rfl,rfl,rfl,⟨hps,hto⟩,fun _ _=>hT⟩⟩⟩,
  ⟨rfl,trivial,rfl,rfl,rfl,rfl,rfl,rfl,rfl,rfl,trivial,trivial⟩,⟨i.s,rfl,rfl,rfl,rfl,rfl,rfl,rfl,rfl,rfl,rfl,rfl,rfl,rfl,hcnt,fun _ _=>⟨⟨rfl,trivial,rfl,rfl,rfl,rfl,rfl,rfl,rfl,rfl,trivial,trivial⟩,⟨⟨⟨i.s.p,i.s.tops,i.inst⟩,i.sd⟩,rfl,rfl,rfl,rfl,rfl,rfl,rfl,rfl,rfl,rfl,rfl,rfl,rfl,rfl,⟨hps,hto⟩,fun _ _=>hT⟩⟩⟩⟩) ?_
 refine⟨⟨xV ⟨i.s.p,i.s.tops,i.inst⟩ (zC i.sd),zC i.sd⟩,rfl,rfl,⟨zBy _,hql⟩,fun _ _=>⟨⟨h0,by omega⟩,by omega,b,by rw[hk];exact hb,⟨i.sd,b⟩,rfl,rfl,hbR.cnt,fun _ _=>⟨b,rfl,rfl,by omega,?_⟩⟩⟩
 dsimp only
 rw[hbest]
 generalize bestL L (zC i.sd)=l at*
 generalize zU (xV ⟨i.s.p,i.s.tops,i.inst⟩ (zC i.sd)) (zC i.sd)=bq at*
 have hset:i.s.books.set i.inst.toNat b=i.s.books:=uB (by rw[hk];exact hb)
 rw[hset]
 refine Cv.cnd.mk (fun c1=>Cv.cnd.mk (fun c2=>⟨⟨zC i.sd,bq.1.price,l.1.price⟩,rfl,rfl,rfl,trivial,fun _ _=>Cv.cnd.mk (fun c3=> ?_) (fun c3=> ?_)⟩) (fun c2=> ?_)) (fun c1=> ?_)
 ·dsimp only at c3
  rw[yVl (by rw[c1,c2];simpa using c3)]at hnx
  rw[hnx];exact⟨(),by(repeat'(first|exact trivial|exact rfl|apply And.intro))⟩
 ·dsimp only at c3
  rw[yVj (by rw[c1,c2];simpa using c3)]at hnx
  rw[hnx];exact⟨(),by(repeat'(first|exact trivial|exact rfl|apply And.intro))⟩
 ·rw[yVl (by rw[c1,c2];rfl)]at hnx
  rw[hnx];exact⟨(),by(repeat'(first|exact trivial|exact rfl|apply And.intro))⟩
 ·rw[yVj (by rw[c1];simp)]at hnx
  rw[hnx];exact⟨(),by(repeat'(first|exact trivial|exact rfl|apply And.intro))⟩
theorem yEj:nextC.ok Tryz.prog 184:=okw mixed (gokc zVb (gokc zPb (gokc zUa (gokc zGy (gokc c9 gok0))))) 0 (fun _=>[]) (fun _=>[]) [0] Tryz.func184 ySy
theorem z3a (i:RsI) (k:Nat):(i.add k).length=i.out.length:=by
 have:∀(l:List (Nat×Int)) (o:List Int),(l.foldl (fun o y=>o.set y.1 (IntKind.i64.wrap (o.getD y.1 0+y.2))) o).length=o.length:=by
  intro l
  induction l with
  |nil=>intro o;rfl
  |cons x l ih=>intro o;rw[yYv,ih,yWq]
 exact this _ _
theorem zSa (l:List Int) (q:Int):(uQ l q).length≤l.length:=by
 rw[uQ];split
 ·rw[rE];exact yWj _
 ·exact yXf _
theorem z6s (i:AlI):(kE i).length≤i.l.length:=by
 have hq:i.qs.length=i.l.length:=by simp[AlI.qs]
 rw[kE,← hq]
 repeat' split
 ·exact zSa _ _
 ·rw[zBj];split
  ·rw[mG,z3a,PsI.rs]
   split
   ·simp
   ·simp
  ·exact yXf _
 ·rw[lY];split
  ·rw[mG,z3a];exact zSa _ _
  ·exact yXf _
 ·exact yXf _
theorem zLp {inst s:Int}:∀{os:List zI} {sh:List Int} {j:Nat} {o:zI} {k:Int},os[j]? =some o→sh[j]? =some k→xW inst s (os.take (j+1)) (sh.take (j+1))=xW inst s (os.take j) (sh.take j)++(if 0<k then[⟨o.id,inst,s,o.price,k,o.qty-k⟩]else[])
 |[],_,_,_,_,h,_=>by simp at h
 |_::_,[],_,_,_,_,h=>by simp at h
 |o::os,k::sh,0,_,_,h,h2=>by
  cases h;cases h2
  rw[yWv,yWv,y0j,y0j,y0j,y0j,xW]
  split<;>rfl
 |o::os,k::sh,j+1,o',k',h,h2=>by
  rw[yWv,yWv,xW,yWv,yWv,xW,zLp (os:=os) (sh:=sh) (j:=j) h h2]
  split<;>rfl
theorem zOu {inst s:Int}:∀(os:List zI) (sh:List Int),xW inst s (os.take sh.length) (sh.take sh.length)=xW inst s os sh
 |[],sh=>by simp
 |_::_,[]=>by simp[xW]
 |o::os,k::sh=>by
  rw[yVt,yWv,yWv,xW,xW,zOu os sh]
theorem z4s (B:List (List zI)) (a b:List dR):kO B (a++b)=kO (kO B a) b:=y0t
theorem rA (B:List (List zI)) (id q:Int):(kK B id q).1.length=B.length:=by
 rw[kK];split
 ·rfl
 ·simp
theorem vU:∀(fs:List dR) (B:List (List zI)),(kO B fs).length=B.length
 |[],B=>rfl
 |f::fs,B=>by
  show(kO (kK B f.id f.qty).1 fs).length=_
  rw[vU fs,rA]
theorem yLo {p:Prd} (h:p.check=0):yO p.least∧yO p.top∧yO p.part:=by
 have ok:=jO h
 have:=ok.q1
 have:=ok.q2
 have:=ok.q3
 have:=ok.q4
 have:=ok.q5
 have:=ok.q6
 exact⟨⟨by omega,by omega⟩,⟨by omega,by omega⟩,⟨by omega,by omega⟩⟩
theorem yMr (i:TrI) (h:tradeC.cnd i):yAt i:=by
 obtain⟨hR,hB,h0,h1,hq⟩:i.s.Rep i.p i.B∧BOk i.p i.B∧0≤i.inst∧i.inst<i.B.length∧yO i.q:=h
 have hcl:=xZ i.p
 have hbl:=hB.bl
 have hsl:=hR.bl
 have ep:=hR.ep
 obtain⟨k,hk⟩:∃k:Nat,i.inst=k:=⟨i.inst.toNat,by omega⟩
 obtain⟨L,hL⟩:=yD (l:=i.B) (i:=k) (by omega)
 obtain⟨b,hb⟩:=yD (l:=i.s.books) (i:=k) (by omega)
 have hbR:=hR.bk k b L hb hL
 have hbest:=zWe hbR i.sd
 have hos:atL L (zC i.sd) (bestL L (zC i.sd)).1.price=i.os:=by rw[TrI.os,zQe,hk,yWb,zT hL]
 have hset:i.s.books.set i.inst.toNat b=i.s.books:=uB (by rw[hk];exact hb)
 have hosl:i.os.length≤250:=by
  rw[← hos];exact yYp (yYq _ _) hbR.ords.2.2
 have hsh:i.sh.length≤i.os.length:=z6s _
 obtain⟨k1,k2,k3⟩:=yLo hB.pc
 have hsb:∀(j:Nat) (n:Int),i.sh[j]? =some n→n≤1000000:=by
  intro j n hn
  cases hr:yS (i.os.map (·.qty)) i.q with
  |false=>
   have:i.sh=[]:=zYr hr
   rw[this]at hn;cases hn
  |true=>
   have:=(zPm hB.pc hr).bd j
   have e:(kE ⟨i.p,i.os,i.q⟩).getD j 0=n:=zT hn
   rw[e]at this
   have:=(z3g (kY hr).2.2.1 j).2
   omega
 unfold yAt zDi vT fP bR fJ uX zV wR dI
 refine⟨⟨h0,by omega⟩,by omega,b,by rw[hk];exact hb,⟨i.sd,b⟩,rfl,rfl,hbR.cnt,fun _ _=> ?_⟩
 refine⟨b,rfl,rfl,by omega,b,by rw[hset,hk];exact hb,⟨b,L,i.sd,(bestL L (zC i.sd)).1.price⟩,rfl,by dsimp only;rw[hbest],rfl,hbR,fun _ _=> ?_⟩
 dsimp only
 try rw[hbest]
 rw[hset,hos]
 refine⟨b,rfl,rfl,by omega,⟨i.p,i.os,i.q⟩,by rw[ep],by rw[ep],by rw[ep],by rw[ep],by rw[ep],by rw[ep],by rw[ep],by rw[ep],by rw[ep],by rw[ep],by rw[ep],rfl,rfl,⟨by dsimp only;omega,hq,k1,k2,k3⟩,fun _ _=> ?_⟩
 have esh:kE ⟨i.p,i.os,i.q⟩=i.sh:=rfl
 rw[esh,hset,xD,yVk]
 refine⟨(0,i.s),rfl,rfl,rfl,rfl,rfl,rfl,rfl,rfl,rfl,rfl,rfl,rfl,rfl,rfl,rfl,fun j=>j.2.Rep i.p (kO i.B (i.fs j.1))∧j.1≤i.sh.length,fun j=>i.sh.length-j.1,⟨hR,yXf _⟩,fun j hj=> ?_⟩
 obtain⟨hjR,hjl⟩:=hj
 obtain⟨j,sj⟩:=j
 dsimp only at hjR hjl ⊢
 refine zJ (fun c=> ?_) (fun c=> ?_)
 ·obtain⟨n,hn⟩:=yD (l:=i.sh) (i:=j) (by omega)
  obtain⟨o,ho⟩:=yD (l:=i.os) (i:=j) (by omega)
  have hst:=zLp (inst:=i.inst) (s:=zC i.sd) ho hn
  have hoL:o∈L:=by
   have:=yVv ho
   rw[← hos]at this
   exact(yXl.1 this).1
  have hoq:=(hbR.ords.1 o hoL).q
  have hnb:=hsb j n hn
  refine⟨⟨by omega,by omega⟩,n,elI hn,zJ (fun c2=> ?_) (fun c2=> ?_)⟩
  ·rw[yVl (show 0<n from c2)]at hst
   have hfl:(i.fs j).length≤j:=by
    have:∀(os:List zI) (sh:List Int),(xW i.inst (zC i.sd) os sh).length≤os.length:=by
     intro os
     induction os with
     |nil=>intro sh;exact yWj 0
     |cons o os ih=>
      intro sh
      cases sh with
      |nil=>exact yXf _
      |cons k sh=>
       have:=ih sh
       rw[xW]
       split
       ·simp only[yVt];omega
       ·simp only[yVt];omega
    exact yYp (this _ _) (by rw[yWe];omega)
   refine⟨⟨by omega,by omega⟩,o.id,o.side,o.price,o.qty,o.top,yMp ho,⟨sj,i.p,kO i.B (i.fs j),o.id,n⟩,rfl,rfl,rfl,⟨hjR,by dsimp only;rw[vU];omega⟩,fun s' hs'=>⟨by rw[yVk];omega,(j+1,s'),wjn (by omega),rfl,?_,⟨?_,by dsimp only;omega⟩,by dsimp only;omega,by(repeat'(first|exact trivial|exact rfl|apply And.intro))⟩⟩
   ·show List.map yR (xW i.inst (zC i.sd) (i.os.take (j+1)) (i.sh.take (j+1)))=_
    rw[hst,yVu,w64 (by omega)];rfl
   ·show s'.Rep i.p (kO i.B (xW i.inst (zC i.sd) (i.os.take (j+1)) (i.sh.take (j+1))))
    rw[hst,z4s];exact hs'
  ·rw[yVj (show ¬0<n from c2),yWg]at hst
   refine⟨(j+1,sj),wjn (by omega),rfl,?_,⟨?_,by dsimp only;omega⟩,by dsimp only;omega,by(repeat'(first|exact trivial|exact rfl|apply And.intro))⟩
   ·show List.map yR (xW i.inst (zC i.sd) (i.os.take (j+1)) (i.sh.take (j+1)))=_
    rw[hst];rfl
   ·show sj.Rep i.p (kO i.B (xW i.inst (zC i.sd) (i.os.take (j+1)) (i.sh.take (j+1))))
    rw[hst];exact hjR
 ·have hje:j=i.sh.length:=by omega
  subst hje
  have hfa:i.fs i.sh.length=qS i.p i.B i.inst (zC i.sd) i.q:=zOu _ _
  rw[hfa]at hjR ⊢
  exact⟨sj,rfl,rfl,hjR⟩
theorem z7j:tradeC.ok Tryz.prog 185:=okw mixed (gokc zGy (gokc yQw (gokc yAv (gokc zBv gok0)))) 0 (fun _=>[]) (fun i=>yOq i) [0] Tryz.func185 yMr
open Go Cv Go.Proofs
structure wA where
 price:Int
 qty:Int
 implied:Bool
 fills:List dR
 deriving DecidableEq
def jW (t:wA):List D:=[.v (.int .i64 t.price),.v (.int .i64 t.qty),.v (.bool t.implied),.ro 6 (t.fills.map yR)]
def bC (p:Prd) (B:List (List zI)) (inst:Int) (sd:Bool) (price qty:Int):Option (wA×List (List zI)):=
 let n:=yQ p B inst (zC (!sd))
 if(n.2.2 && (dU sd price n.1.price && decide (1≤n.1.qty)))=true then
  if n.2.1=true then
   let f1:=qS p B n.1.a.inst n.1.a.side (min qty n.1.qty)
   let f2:=qS p (kO B f1) n.1.b.inst n.1.b.side (min qty n.1.qty)
   some (⟨n.1.price,min qty n.1.qty,true,f1++f2⟩,kO (kO B f1) f2)
  else
   let f:=qS p B inst (zC (!sd)) (min qty n.1.qty)
   some (⟨n.1.price,min qty n.1.qty,false,f⟩,kO B f)
 else none
structure yKr where
 steps:List wA
 left:Int
 B:List (List zI)
def zGl (p:Prd) (inst:Int) (sd:Bool) (price:Int):Nat→List (List zI)→Int→yKr
 |0,B,q=>⟨[],q,B⟩
 |n+1,B,q=>if q≤0 then⟨[],q,B⟩else match bC p B inst sd price q with
  |none=>⟨[],q,B⟩
  |some (t,B')=>let r:=zGl p inst sd price n B' (q-t.qty);⟨t::r.steps,r.left,r.B⟩
def j6 (p:Prd) (B:List (List zI)) (inst:Int) (sd:Bool) (price q:Int):yKr:=zGl p inst sd price q.toNat B q
structure RunI where
 s:MSt
 p:Prd
 B:List (List zI)
 inst:Int
 sd:Bool
 price:Int
 q:Int
def RunI.r (i:RunI):yKr:=j6 i.p i.B i.inst i.sd i.price i.q
def runC:Con where
 ι:=RunI
 pat:=fun i=>[.nm 0 0,zA i.inst,zA (zC i.sd),zA i.price,zA i.q]
 pre:=fun i=>[zD i.s]
 cnd:=fun i=>i.s.Rep i.p i.B∧BOk i.p i.B∧(0≤i.inst∧i.inst<i.B.length)∧1≤i.q∧i.q≤1000000
 alts:=fun i=>[{o:=MSt,res:=fun _=> .tup [.own 1,zA i.r.left],post:=fun s=>[zD s,.own 260 4 (i.r.steps.map jW)],rel:=fun s=>s.Rep i.p i.r.B}]
structure zLm where
 s:MSt
 B:List (List zI)
 steps:List wA
 q:Int
def yUx:List SAnn:=[
 {ι:=zLm,slots:=fun j=>[(0,.nm 0 0),(12,.own 1),(4,zA j.q)],rows:=fun j=>[zD j.s,.own 260 4 (j.steps.map jW)]},
 {ι:=Unit,slots:=fun _=>[],rows:=fun _=>[],un:=3}]
open Go Cv Go.Proofs
def zLg (a:zLm→Nat) (b:zLm) (c:zLm) (d:RunI):Prop:=a b<a c∧AObj.fro 1 (iE d.s.p.months)=AObj.fro 1 (iE d.s.p.months)∧AObj.fro 1 (iE d.s.p.settle)=AObj.fro 1 (iE d.s.p.settle)
def zBs (a:TrI):Prop:=a.s.Rep a.p a.B∧BOk a.p a.B∧0≤a.inst∧a.inst<(↑a.B.length:Int)∧(-9223372036854775808)≤a.q∧a.q≤9223372036854775807
def zIm (a:RunI) (b:zLm) (c:NxI):Prop:=∃(d:MSt),a.r.left=b.q∧zD d=zD c.s∧List.map jW a.r.steps=List.map jW b.steps∧d.Rep a.p a.r.B
def sM (a:TrI):=(List.map yR (uX a))
def zWs (a:RunI):Prop:=∃(b:zLm),b.q=a.q∧sb b.s.p.code=sb a.s.p.code∧b.s.p.tick=a.s.p.tick∧b.s.p.low=a.s.p.low∧b.s.p.high=a.s.p.high∧b.s.p.wide=a.s.p.wide∧b.s.p.rule=a.s.p.rule∧b.s.p.top=a.s.p.top∧b.s.p.least=a.s.p.least∧b.s.p.part=a.s.p.part∧AObj.objs 184 Book 6 zQ b.s.books none=AObj.objs 184 Book 6 zQ a.s.books none∧yU b.s.wh=yU a.s.wh∧AObj.fro 1 (iE b.s.p.months)=AObj.fro 1 (iE a.s.p.months)∧AObj.fro 1 (iE b.s.p.settle)=AObj.fro 1 (iE a.s.p.settle)∧List.map jW b.steps=[]∧∃(c:zLm→Prop),∃(d:zLm→Nat),c b∧∀(e:zLm),c e→cnd (decide (e.q>0)) (∃(f:Bool),zC f=zC a.sd∧True∧∀(g:Unit),True→∃(h:NxI),h.inst=a.inst∧zC h.sd=zC !f∧zD h.s=zD e.s∧(h.s.Rep h.p h.B∧BOk h.p h.B∧0≤h.inst∧h.inst<(↑h.B.length:Int))∧∀(j:Unit),True→cnd (!(z5 h).snd.snd) (zIm a e h) (∃(k:GoI),zC k.s=zC a.sd∧k.p=a.price∧k.x=(z5 h).fst.price∧True∧∀(l:Unit),True→cnd (!dU k.s k.p k.x) (zIm a e h) (cnd (z5 h).snd.fst (∃(m:TrI),m.inst=(z5 h).fst.a.inst∧zC m.sd=(z5 h).fst.a.side∧m.q=min e.q (z5 h).fst.qty∧zD m.s=zD h.s∧(zBs m)∧∀(n:MSt),n.Rep m.p (fJ m)→True∧(sM m).length*(48:Nat)≤(140737488355328:Nat)∧∃(p:TrI),p.inst=(z5 h).fst.b.inst∧zC p.sd=(z5 h).fst.b.side∧p.q=min e.q (z5 h).fst.qty∧zD p.s=zD n∧(zBs p)∧∀(q:MSt),q.Rep p.p (fJ p)→True∧((sM m).length+(sM p).length)*(48:Nat)≤(140737488355328:Nat)∧((List.map jW e.steps).length+1)*(48:Nat)≤(140737488355328:Nat)∧∃(r:zLm),r.q=IntKind.i64.wrap (e.q-min e.q (z5 h).fst.qty)∧zD r.s=zD q∧List.map jW r.steps=List.map jW e.steps++[[dI ((z5 h).fst.price),dI (min e.q (z5 h).fst.qty),D.v (.bool (z5 h).snd.fst),D.ro 6 (List.map yR (uX m)++List.map yR (uX p))]]∧c r∧zLg d r e a) (∃(m:Bool),zC m=zC a.sd∧True∧∀(n:Unit),True→min e.q (z5 h).fst.qty=min e.q (z5 h).fst.qty∧∃(p:TrI),p.inst=a.inst∧zC p.sd=zC !m∧p.q=min e.q (z5 h).fst.qty∧zD p.s=zD h.s∧(zBs p)∧∀(q:MSt),q.Rep p.p (fJ p)→((List.map jW e.steps).length+1)*(48:Nat)≤(140737488355328:Nat)∧∃(r:zLm),r.q=IntKind.i64.wrap (e.q-min e.q (z5 h).fst.qty)∧zD r.s=zD q∧List.map jW r.steps=List.map jW e.steps++[[dI ((z5 h).fst.price),dI (min e.q (z5 h).fst.qty),D.v (.bool (z5 h).snd.fst),D.ro 6 (sM p)]]∧c r∧zLg d r e a)))) (∃(f:MSt),a.r.left=e.q∧zD f=zD e.s∧List.map jW a.r.steps=List.map jW e.steps∧f.Rep a.p a.r.B)
def dN (a:RunI):Prop:=∃(b:MSt),a.r.left=a.q∧sb b.p.code=sb a.s.p.code∧b.p.tick=a.s.p.tick∧b.p.low=a.s.p.low∧b.p.high=a.s.p.high∧b.p.wide=a.s.p.wide∧b.p.rule=a.s.p.rule∧b.p.top=a.s.p.top∧b.p.least=a.s.p.least∧b.p.part=a.s.p.part∧AObj.objs 184 Book 6 zQ b.books none=AObj.objs 184 Book 6 zQ a.s.books none∧yU b.wh=yU a.s.wh∧AObj.fro 1 (iE b.p.months)=AObj.fro 1 (iE a.s.p.months)∧AObj.fro 1 (iE b.p.settle)=AObj.fro 1 (iE a.s.p.settle)∧List.map jW a.r.steps=[]∧b.Rep a.p a.r.B
def yPr (i:RunI):Prop:=
 cnd (decide (i.inst≥0)) (cnd (decide (i.inst<(↑i.s.books.length:Int))) (cnd (zC i.sd==1) (cnd (decide (i.q≥1)) (cnd (!decide (i.q≤1000000)) (dN i) (zWs i)) (dN i)) (cnd (zC i.sd==2) (cnd (decide (i.q≥1)) (cnd (!decide (i.q≤1000000)) (dN i) (zWs i)) (dN i)) (dN i))) (dN i)) (dN i)
open Go Cv Go.Proofs
structure QOk (T:List Top) (q:Quote):Prop where
 a:0≤q.a.inst∧q.a.inst<T.length
 b:0≤q.b.inst∧q.b.inst<T.length
 sa:q.a.side=1∨q.a.side=2
 sb:q.b.side=1∨q.b.side=2
 ne:q.a.inst≠q.b.inst
 ha:(T.getD q.a.inst.toNat top0).has q.a.side=true
 hb:(T.getD q.b.inst.toNat top0).has q.b.side=true
 qty:q.qty=min ((T.getD q.a.inst.toNat top0).qty q.a.side) ((T.getD q.b.inst.toNat top0).qty q.b.side)
theorem zZt {T:List Top} {a b:Leg} {less:Bool} {q:Quote} (h:q∈mkq T a b less) (h1:0≤a.inst∧a.inst<T.length) (h2:0≤b.inst∧b.inst<T.length) (h3:a.side=1∨a.side=2) (h4:b.side=1∨b.side=2) (hne:a.inst≠b.inst):QOk T q∧q.a=a∧q.b=b:=by
 cases less
 all_goals
  simp only[mkq,yWc,↓reduceIte]at h
  split at h
  ·rename_i hc
   simp only[yVy]at hc
   rw[yXc]at h
   subst h
   exact⟨⟨h1,h2,h3,h4,hne,hc.1.1,hc.1.2,rfl⟩,rfl,rfl⟩
  ·cases h
theorem yPd:∀n≤6,∀k<n+n*(n-1) / 2,n≤k→(kJ n k n 0).1≠(kJ n k n 0).2.1:=by decide
theorem z3w {p:Prd} (hc:p.check=0) {k:Nat} (hk:k<p.count) (hs:(p.legs k).2.2=true):(p.legs k).1≠(p.legs k).2.1:=by
 have m6:=(jO hc).m6
 have hk':=hk
 rw[Prd.count,yVl hc]at hk'
 by_cases h:k<p.months.length
 ·rw[Prd.legs,yVj (by omega),yVl (by omega)]at hs
  cases hs
 ·rw[Prd.legs,yVj (by omega),yVj (by omega)]
  exact yPd p.months.length m6 k hk' (by omega)
theorem z6d:∀n≤6,∀a<n,∀b<n,a<b→(yK n a:Int)+b-a-1≥n:=by decide
theorem zOb {p:Prd} (hc:p.check=0) {a b:Nat} (hab:a<b) (hb:b<p.months.length):(p.months.length:Int)≤(p.spread a b).1:=by
 have m6:=(jO hc).m6
 have:=z6d p.months.length m6 a (by omega) b hb hab
 rw[Prd.spread,yVj (by omega)]
 simpa using this
theorem z1v {p:Prd} (hc:p.check=0) {T:List Top} (hT:T.length=p.count) {inst:Int} {s:Int} (hs:s=1∨s=2) {q:Quote} (h:q∈kH ⟨p,T,inst⟩ s):QOk T q∧0≤inst∧inst<p.count∧
 (((p.legs inst).2.2=true∧q.a=⟨(p.legs inst).1,s⟩∧q.b=⟨(p.legs inst).2.1,3-s⟩)∨(inst<p.months.length∧q.a.inst≠inst∧(p.months.length:Int)≤q.a.inst)):=by
 rw[kH]at h
 dsimp only at h
 split at h
 ·cases h
 ·rename_i hn
  have h0:0≤inst∧inst<p.count:=by omega
  obtain⟨k,rfl⟩:∃k:Nat,inst=k:=⟨inst.toNat,by omega⟩
  have hk:k<p.count:=by omega
  have hge:=zKb hc
  split at h
  ·rename_i hl
   obtain⟨q',hq',rfl⟩:=yWy.1 h
   have hle:=dO hc hk
   rcases hle with⟨_,l1,l2,l3,l4⟩|⟨e,_⟩
   ·obtain⟨ok,e1,e2⟩:=zZt hq' (by dsimp only;omega) (by dsimp only;omega) (by dsimp only;omega) hs (fun e=>z3w hc hk hl e.symm)
    refine⟨⟨by dsimp only[dV];omega,by dsimp only[dV];omega,hs,by dsimp only[dV];omega,z3w hc hk hl,?_,?_,?_⟩,h0.1,h0.2,.inl ⟨hl,rfl,rfl⟩⟩
    ·have:=ok.hb;rw[e2]at this;exact this
    ·have:=ok.ha;rw[e1]at this;exact this
    ·have:=ok.qty;rw[e1,e2]at this;dsimp only[dV];rw[this];exact Int.min_comm _ _
   ·rw[e]at hl;cases hl
  ·rename_i hl
   have hm:k<p.months.length:=by
    rcases dO hc hk with⟨e,_⟩|⟨_,e⟩
    ·exact absurd e hl
    ·exact e
   rcases yWn.1 h with h|h
   ·obtain⟨j,hj,h⟩:=yXx.1 h
    have hj:=yYh.1 hj
    rw[yWb]at hj
    have s1:=cO hc (a:=k) (b:=k+1+j) (by omega) (by omega)
    have s2:=zOb hc (a:=k) (b:=k+1+j) (by omega) (by omega)
    have ec:((k:Int)+1+j)=((k+1+j:Nat):Int):=by omega
    rw[ec]at h
    obtain⟨ok,e1,e2⟩:=zZt h (by dsimp only;omega) (by dsimp only;omega) hs hs (by dsimp only;omega)
    exact⟨ok,h0.1,h0.2,.inr ⟨by omega,by rw[e1];dsimp only;omega,by rw[e1];exact s2⟩⟩
   ·obtain⟨j,hj,h⟩:=yXx.1 h
    have hj:=yYh.1 hj
    rw[yWb]at hj
    have s1:=cO hc (a:=j) (b:=k) (by omega) (by omega)
    have s2:=zOb hc (a:=j) (b:=k) (by omega) (by omega)
    obtain⟨ok,e1,e2⟩:=zZt h (by dsimp only;omega) (by dsimp only;omega) (by dsimp only;omega) hs (by dsimp only;omega)
    exact⟨ok,h0.1,h0.2,.inr ⟨by omega,by rw[e1];dsimp only;omega,by rw[e1];exact s2⟩⟩
theorem zNk {s:Int}:∀(r:List Quote) (q:Quote),r.foldl (fun b q=>if btr s q.price b.price then q else b) q∈q::r
 |[],q=>yVp
 |x::r,q=>by
  rw[yYv]
  have:=zNk (s:=s) r (if btr s x.price q.price then x else q)
  rcases yWf.1 this with e|h
  ·rw[e];split
   ·exact yVr _ yVp
   ·exact yVp
  ·exact yVr _ (yVr _ h)
theorem zDd {l:List Quote} {s:Int} (h:(zU l s).2=true):(zU l s).1∈l:=by
 cases l with
 |nil=>cases h
 |cons q r=>exact zNk r q
def yDw (B:List (List zI)):Prop:=∀(k:Nat) (L:List zI),B[k]?=some L→(∀o∈L,zJk o)∧(L.map (·.id)).Nodup∧L.length≤250
theorem MSt.Rep.ords {s:MSt} {p:Prd} {B:List (List zI)} (h:s.Rep p B):yDw B:=by
 intro k L hL
 obtain⟨b,hb⟩:=yD (l:=s.books) (i:=k) (by rw[h.bl];exact(yVn.1 hL).1)
 exact(h.bk k b L hb hL).ords
theorem z2u:∀{l:List zI} {v:Lv},(∀o∈l,zJk o)→v∈grp l→1≤v.qty∧v.qty≤1000000*l.length
 |[],v,_,h=>by cases h
 |o::l,v,ho,h=>by
  have h0:=(ho o yVp).q
  have ih:∀v∈grp l,1≤v.qty∧v.qty≤1000000*l.length:=fun v hv=>z2u (fun x hx=>ho x (yVr _ hx)) hv
  rw[grp]at h
  rw[yVt]
  split at h
  ·rw[yXc]at h
   subst h;dsimp only;omega
  ·rename_i w ws e
   rw[e]at ih
   have hw:=ih w yVp
   split at h
   ·rcases yWf.1 h with rfl|h
    ·dsimp only;omega
    ·have:=ih v (yVr _ h);omega
   ·rcases yWf.1 h with rfl|h
    ·dsimp only;omega
    ·have:=ih v h;omega
theorem zXc {L:List zI} {s:Int} (h:∀o∈L,zJk o) (hl:L.length≤250) (hb:(bestL L s).2=true):1≤(bestL L s).1.qty∧(bestL L s).1.qty≤250000000:=by
 rw[bestL]at hb ⊢
 cases hl2:uP L s with
 |nil=>rw[hl2]at hb;cases hb
 |cons v vs=>
  dsimp only
  have hm:v∈grp (L.filter fun o=>decide (o.side=s)):=by rw[← uP,hl2];exact yVp
  have:=z2u (fun o ho=>h o (yXl.1 ho).1) hm
  have:=yYq (fun o:zI=>decide (o.side=s)) L
  omega
theorem z7p {B:List (List zI)} {k:Nat} {L:List zI} (hL:B[k]? =some L):(B.map kB).getD k top0=kB L:=zT (by rw[yWt,hL];rfl)
theorem zHj (L:List zI) {s:Int} (hs:s=1∨s=2):(kB L).has s=(bestL L s).2∧(kB L).qty s=(bestL L s).1.qty∧(kB L).price s=(bestL L s).1.price:=by
 obtain⟨e1,e2,e3,e4,e5,e6⟩:=zHe L
 rcases hs with rfl|rfl
 ·exact⟨e3,e2,e1⟩
 ·exact⟨e6,e5,e4⟩
theorem z2w {p:Prd} {B:List (List zI)} (h:BOk p B) (ho:yDw B) {inst:Int} (hi:0≤inst∧inst<B.length) {s:Int} (hs:s=1∨s=2) (hn:(yQ p B inst s).2.2=true):
 (1≤(yQ p B inst s).1.qty∧(yQ p B inst s).1.qty≤250000000)∧((yQ p B inst s).2.1=true→(yQ p B inst s).1∈kH ⟨p,B.map kB,inst⟩ s∧QOk (B.map kB) (yQ p B inst s).1)∧
 ((yQ p B inst s).2.1=false→(bestL (B.getD inst.toNat []) s).2=true∧(yQ p B inst s).1.price=(bestL (B.getD inst.toNat []) s).1.price∧(yQ p B inst s).1.qty=(bestL (B.getD inst.toNat []) s).1.qty):=by
 obtain⟨k,rfl⟩:∃k:Nat,inst=k:=⟨inst.toNat,by omega⟩
 obtain⟨L,hL⟩:=yD (l:=B) (i:=k) (by omega)
 have hLo:=ho k L hL
 rw[yQ]at hn ⊢
 rw[yWb,zT hL]at hn ⊢
 split
 ·rename_i c
  simp only[yVy]at c
  exact⟨zXc hLo.1 hLo.2.2 c.1,⟨fun e=>(by cases e),fun _=>⟨c.1,rfl,rfl⟩⟩⟩
 ·rename_i c
  rw[yVj c]at hn
  dsimp only at hn ⊢
  have hm:=zDd hn
  have ha:(zU (xV ⟨p,B.map kB,k⟩ s) s).1∈kH ⟨p,B.map kB,k⟩ s:=(yXl.1 hm).1
  obtain⟨ok,_⟩:=z1v h.pc (by rw[yVk];exact h.bl) hs ha
  refine⟨?_,fun _=>⟨ha,ok⟩,fun e=>by rw[hn]at e;cases e⟩
  generalize (zU (xV ⟨p,B.map kB,k⟩ s) s).1=q at ok
  have a:=ok.a
  have b:=ok.b
  rw[yVk]at a b
  obtain⟨La,hLa⟩:=yD (l:=B) (i:=q.a.inst.toNat) (by omega)
  obtain⟨Lb,hLb⟩:=yD (l:=B) (i:=q.b.inst.toNat) (by omega)
  have e1:=ok.ha
  have e2:=ok.hb
  have e3:=ok.qty
  rw[z7p hLa]at e1 e3
  rw[z7p hLb]at e2 e3
  rw[(zHj La ok.sa).1]at e1
  rw[(zHj Lb ok.sb).1]at e2
  rw[(zHj La ok.sa).2.1,(zHj Lb ok.sb).2.1]at e3
  have:=zXc (ho _ _ hLa).1 (ho _ _ hLa).2.2 e1
  have:=zXc (ho _ _ hLb).1 (ho _ _ hLb).2.2 e2
  omega
theorem yDg {L:List zI} {id q:Int} {o:zI} (h:o∈(xY L id q).1):∃o'∈L,o.price=o'.price∧o.side=o'.side∧o.id=o'.id:=by
 rw[xY]at h
 split at h
 ·exact⟨o,h,rfl,rfl,rfl⟩
 split at h
 ·exact⟨o,h,rfl,rfl,rfl⟩
 obtain⟨o',ho',e⟩:=y0n.1 h
 refine⟨o',ho',?_⟩
 split at e
 ·split at e
  ·cases e
  ·cases e;exact⟨rfl,rfl,rfl⟩
 ·cases e;exact⟨rfl,rfl,rfl⟩
theorem BOk.take {p:Prd} {B:List (List zI)} (h:BOk p B) (id q:Int):BOk p (kK B id q).1:=by
 refine⟨h.pc,h.ps,by rw[rA];exact h.bl,fun k L hL o ho=> ?_⟩
 rw[kK]at hL
 split at hL
 ·exact h.pr k L hL o ho
 ·rename_i j hj
  dsimp only at hL
  rcases cC hL with⟨rfl,rfl⟩|⟨_,hL⟩
  ·obtain⟨o',ho',e,_⟩:=yDg ho
   obtain⟨L',hL',_⟩:=u6 hj
   rw[zT hL']at ho'
   rw[e];exact h.pr k L' hL' o' ho'
  ·exact h.pr k L hL o ho
theorem BOk.takes {p:Prd}:∀{fs:List dR} {B:List (List zI)},BOk p B→BOk p (kO B fs)
 |[],B,h=>h
 |f::fs,B,h=>BOk.takes (fs:=fs) (h.take f.id f.qty)
theorem zTo (inst s:Int):∀(os:List zI) (sh:List Int),(xW inst s os sh).length≤os.length
 |[],sh=>yWj 0
 |o::os,[]=>yXf _
 |o::os,k::sh=>by
  have:=zTo inst s os sh
  rw[xW]
  split
  ·simp only[yVt];omega
  ·simp only[yVt];omega
theorem mL {p:Prd} {B:List (List zI)} (ho:yDw B) (inst s q:Int):(qS p B inst s q).length≤250:=by
 refine yYp (zTo _ _ _ _) (yYp (yYq _ _) ?_)
 by_cases h:inst.toNat<B.length
 ·obtain⟨L,hL⟩:=yD h
  rw[zT hL];exact(ho _ _ hL).2.2
 ·rw[yVs,yWk (by omega)];exact yXf _
theorem zLk {p:Prd} {B:List (List zI)} {inst:Int} {sd:Bool} {price q:Int} {t:wA} {B':List (List zI)} (hq:1≤q) (h:bC p B inst sd price q=some (t,B')):1≤t.qty∧t.qty≤q:=by
 rw[bC]at h
 dsimp only at h
 split at h
 ·rename_i c
  simp only[yVy,yXd]at c
  split at h
  ·cases h;dsimp only;omega
  ·cases h;dsimp only;omega
 ·cases h
theorem zVl {p:Prd} {inst:Int} {sd:Bool} {price:Int}:∀(m n:Nat) (B:List (List zI)) (q:Int),q.toNat≤m→q.toNat≤n→zGl p inst sd price m B q=zGl p inst sd price n B q
 |0,0,B,q,_,_=>rfl
 |0,n+1,B,q,h,_=>by rw[zGl,zGl,yVl (by omega)]
 |m+1,0,B,q,_,h=>by rw[zGl,zGl,yVl (by omega)]
 |m+1,n+1,B,q,h1,h2=>by
  rw[zGl,zGl]
  split
  ·rfl
  ·rename_i hq
   cases hs:bC p B inst sd price q with
   |none=>rfl
   |some x=>
    obtain⟨t,B'⟩:=x
    have:=zLk (by omega) hs
    dsimp only
    rw[zVl m n B' (q-t.qty) (by omega) (by omega)]
theorem rT {p:Prd} {B:List (List zI)} {inst:Int} {sd:Bool} {price q:Int} (h:q≤0∨bC p B inst sd price q=none):j6 p B inst sd price q=⟨[],q,B⟩:=by
 rw[j6]
 cases hn:q.toNat with
 |zero=>rfl
 |succ n=>
  rw[zGl]
  rcases h with h|h
  ·rw[yVl h]
  ·rw[yVj (by omega),h]
theorem zKc {p:Prd} {B:List (List zI)} {inst:Int} {sd:Bool} {price q:Int} {t:wA} {B':List (List zI)} (hq:1≤q) (h:bC p B inst sd price q=some (t,B')):
 j6 p B inst sd price q=⟨t::(j6 p B' inst sd price (q-t.qty)).steps,(j6 p B' inst sd price (q-t.qty)).left,(j6 p B' inst sd price (q-t.qty)).B⟩:=by
 have ht:=zLk hq h
 rw[j6]
 cases hn:q.toNat with
 |zero=>omega
 |succ n=>
  rw[zGl,yVj (by omega),h]
  dsimp only
  rw[zVl n (q-t.qty).toNat B' (q-t.qty) (by omega) (yWj _)]
  rfl
open Go Cv Go.Proofs
theorem gL {s:Int} (h:s=1∨s=2):zC (decide (s=2))=s:=by
 rcases h with rfl|rfl<;>rfl
theorem yVb (i:RunI) (h:runC.cnd i):yPr i:=by
 obtain⟨hR,hB,⟨h0,h1⟩,hq1,hq2⟩:i.s.Rep i.p i.B∧BOk i.p i.B∧(0≤i.inst∧i.inst<i.B.length)∧1≤i.q∧i.q≤1000000:=h
 have hbl:=hR.bl
 have hcl:=xZ i.p
 have hbB:=hB.bl
 unfold yPr zWs fJ sM uX zIm zBs zLg z5 dN dI
 refine(fun hT=>zJ (fun c=>zJ (fun c2=>Cv.cnd.mk (fun _=>zJ (fun _=>Cv.cnd.mk (fun e=>absurd hq2 (by simpa using e)) (fun _=>hT)) (fun e=>absurd hq1 e)) (fun e1=>Cv.cnd.mk (fun _=>zJ (fun _=>Cv.cnd.mk (fun e=>absurd hq2 (by simpa using e)) (fun _=>hT)) (fun e=>absurd hq1 e)) (fun e2=>by
  rcases zBy i.sd with e|e
  ·rw[e]at e1;cases e1
  ·rw[e]at e2;cases e2))) (fun c2=>absurd (by omega) c2)) (fun c=>absurd h0 c)) ?_
 refine⟨⟨i.s,i.B,[],i.q⟩,rfl,rfl,rfl,rfl,rfl,rfl,rfl,rfl,rfl,rfl,rfl,rfl,rfl,rfl,rfl,fun j=>j.s.Rep i.p j.B∧BOk i.p j.B∧j.B.length=i.B.length∧(0≤j.q∧j.q≤i.q)∧(j.steps.length:Int)≤i.q-j.q∧i.r=⟨j.steps++(j6 i.p j.B i.inst i.sd i.price j.q).steps,(j6 i.p j.B i.inst i.sd i.price j.q).left,(j6 i.p j.B i.inst i.sd i.price j.q).B⟩,fun j=>j.q.toNat,⟨hR,hB,rfl,⟨by dsimp only;omega,yZw _⟩,by dsimp only;simp,rfl⟩,?_⟩
 rintro⟨s,B,st,q⟩ ⟨r1,r2,r3,⟨r4,r4'⟩,r5,r6⟩
 dsimp only at r1 r2 r3 r4 r4' r5 r6 ⊢
 have hno (hn:q≤0∨bC i.p B i.inst i.sd i.price q=none):∃(o:MSt),i.r.left=q∧AObj.adt MSt (5:Nat) xK o=AObj.adt MSt (5:Nat) xK s∧List.map jW i.r.steps=List.map jW st∧o.Rep i.p i.r.B:=by
  rw[rT hn,yWg]at r6
  rw[r6];exact⟨s,rfl,rfl,rfl,r1⟩
 refine zJ (fun c=> ?_) (fun c=>hno (.inl (by omega)))
 have c:0<q:=c
 refine⟨i.sd,rfl,trivial,fun _ _=>⟨⟨s,i.p,B,i.inst,!i.sd⟩,rfl,rfl,rfl,⟨r1,r2,h0,by dsimp only;omega⟩,fun _ _=> ?_⟩⟩
 dsimp only
 have hni:=z2w r2 r1.ords (inst:=i.inst) ⟨h0,by omega⟩ (zBy (!i.sd))
 have hsb:bC i.p B i.inst i.sd i.price q=(if((yQ i.p B i.inst (zC (!i.sd))).2.2 && (dU i.sd i.price (yQ i.p B i.inst (zC (!i.sd))).1.price && decide (1≤(yQ i.p B i.inst (zC (!i.sd))).1.qty)))=true then
  if(yQ i.p B i.inst (zC (!i.sd))).2.1=true then
   some (⟨(yQ i.p B i.inst (zC (!i.sd))).1.price,min q (yQ i.p B i.inst (zC (!i.sd))).1.qty,true,qS i.p B (yQ i.p B i.inst (zC (!i.sd))).1.a.inst (yQ i.p B i.inst (zC (!i.sd))).1.a.side (min q (yQ i.p B i.inst (zC (!i.sd))).1.qty)++qS i.p (kO B (qS i.p B (yQ i.p B i.inst (zC (!i.sd))).1.a.inst (yQ i.p B i.inst (zC (!i.sd))).1.a.side (min q (yQ i.p B i.inst (zC (!i.sd))).1.qty))) (yQ i.p B i.inst (zC (!i.sd))).1.b.inst (yQ i.p B i.inst (zC (!i.sd))).1.b.side (min q (yQ i.p B i.inst (zC (!i.sd))).1.qty)⟩,kO (kO B (qS i.p B (yQ i.p B i.inst (zC (!i.sd))).1.a.inst (yQ i.p B i.inst (zC (!i.sd))).1.a.side (min q (yQ i.p B i.inst (zC (!i.sd))).1.qty))) (qS i.p (kO B (qS i.p B (yQ i.p B i.inst (zC (!i.sd))).1.a.inst (yQ i.p B i.inst (zC (!i.sd))).1.a.side (min q (yQ i.p B i.inst (zC (!i.sd))).1.qty))) (yQ i.p B i.inst (zC (!i.sd))).1.b.inst (yQ i.p B i.inst (zC (!i.sd))).1.b.side (min q (yQ i.p B i.inst (zC (!i.sd))).1.qty)))
  else some (⟨(yQ i.p B i.inst (zC (!i.sd))).1.price,min q (yQ i.p B i.inst (zC (!i.sd))).1.qty,false,qS i.p B i.inst (zC (!i.sd)) (min q (yQ i.p B i.inst (zC (!i.sd))).1.qty)⟩,kO B (qS i.p B i.inst (zC (!i.sd)) (min q (yQ i.p B i.inst (zC (!i.sd))).1.qty)))else none):=rfl
 generalize yQ i.p B i.inst (zC (!i.sd))=nb at hni hsb ⊢
 refine Cv.cnd.mk (fun n1=> ?_) (fun n1=>⟨⟨i.sd,i.price,nb.1.price⟩,rfl,rfl,rfl,trivial,fun _ _=>Cv.cnd.mk (fun n2=> ?_) (fun n2=> ?_)⟩)
 ·have n1:nb.2.2=false:=by simpa using n1
  rw[n1,yVj (by simp)]at hsb
  exact hno (.inr hsb)
 ·have n2:dU i.sd i.price nb.1.price=false:=by simpa using n2
  rw[n2,yVj (by simp)]at hsb
  exact hno (.inr hsb)
 have n1:nb.2.2=true:=by simpa using n1
 have n2:dU i.sd i.price nb.1.price=true:=by simpa using n2
 obtain⟨⟨b1,b2⟩,hi,hr⟩:=hni n1
 rw[n1,n2,yWd b1,yVl (by rfl)]at hsb
 have hk:yO (min q nb.1.qty):=by constructor<;>omega
 have hsl:(st.length+1)*48≤140737488355328:=by omega
 have beh:∀(t:wA) (B':List (List zI)) (s':MSt),bC i.p B i.inst i.sd i.price q=some (t,B')→s'.Rep i.p B'→BOk i.p B'→B'.length=B.length→
  (s'.Rep i.p B'∧BOk i.p B'∧B'.length=i.B.length∧(0≤q-t.qty∧q-t.qty≤i.q)∧((st++[t]).length:Int)≤i.q-(q-t.qty)∧i.r=⟨(st++[t])++(j6 i.p B' i.inst i.sd i.price (q-t.qty)).steps,(j6 i.p B' i.inst i.sd i.price (q-t.qty)).left,(j6 i.p B' i.inst i.sd i.price (q-t.qty)).B⟩)∧(q-t.qty).toNat<q.toNat:=by
  intro t B' s' h1 h2 h3 h4
  have ht:=zLk (by omega) h1
  refine⟨⟨h2,h3,by omega,⟨by omega,by omega⟩,by rw[yVm,yYr];omega,?_⟩,by omega⟩
  rw[zKc (by omega) h1]at r6
  rw[r6,yVq];rfl
 refine Cv.cnd.mk (fun n3=> ?_) (fun n3=> ?_)
 ·obtain⟨_,ok⟩:=hi n3
  rw[n3,yVl rfl]at hsb
  have oka:=ok.a
  have okb:=ok.b
  rw[yVk]at oka okb
  have ea:=gL ok.sa
  have eb:=gL ok.sb
  refine⟨⟨s,i.p,B,nb.1.a.inst,decide (nb.1.a.side=2),min q nb.1.qty⟩,rfl,ea,rfl,rfl,⟨r1,r2,oka.1,oka.2,hk⟩,fun s1 hs1=> ?_⟩
  dsimp only at hs1 ⊢
  rw[ea]at hs1 ⊢
  have l1:=mL (p:=i.p) r1.ords nb.1.a.inst nb.1.a.side (min q nb.1.qty)
  have hB1:=r2.takes (fs:=qS i.p B nb.1.a.inst nb.1.a.side (min q nb.1.qty))
  have l2:=mL (p:=i.p) hs1.ords nb.1.b.inst nb.1.b.side (min q nb.1.qty)
  refine⟨trivial,by rw[yVk];omega,⟨s1,i.p,kO B (qS i.p B nb.1.a.inst nb.1.a.side (min q nb.1.qty)),nb.1.b.inst,decide (nb.1.b.side=2),min q nb.1.qty⟩,rfl,eb,rfl,rfl,⟨hs1,hB1,okb.1,by dsimp only;rw[vU];exact okb.2,hk⟩,fun s2 hs2=> ?_⟩
  dsimp only at hs2 ⊢
  rw[eb]at hs2 ⊢
  obtain⟨g1,g2⟩:=beh _ _ s2 hsb hs2 hB1.takes (by rw[vU,vU])
  refine⟨trivial,by rw[yVk,yVk];omega,by rw[yVk];exact hsl,⟨s2,_,st++[_],_⟩,?_,rfl,?_,g1,g2,by(repeat'(first|exact trivial|exact rfl|apply And.intro))⟩
  ·dsimp only;rw[w64 (by omega)]
  ·dsimp only
   rw[yVu,n3]
   simp[jW]
 ·rw[n3,yVj (by decide)]at hsb
  refine⟨i.sd,rfl,trivial,fun _ _=>⟨rfl,⟨s,i.p,B,i.inst,!i.sd,min q nb.1.qty⟩,rfl,rfl,rfl,rfl,⟨r1,r2,h0,by dsimp only;omega,hk⟩,fun s1 hs1=> ?_⟩⟩
  dsimp only at hs1 ⊢
  obtain⟨g1,g2⟩:=beh _ _ s1 hsb hs1 r2.takes (by rw[vU])
  refine⟨by rw[yVk];exact hsl,⟨s1,_,st++[_],_⟩,?_,rfl,?_,g1,g2,by(repeat'(first|exact trivial|exact rfl|apply And.intro))⟩
  ·dsimp only;rw[w64 (by omega)]
  ·dsimp only
   rw[yVu,n3]
   simp[jW]
theorem zYu:runC.ok Tryz.prog 151:=okw mixed (gokc yEj (gokc zNn (gokc zUh (gokc z7j gok0)))) 2 (fun _=>[]) (fun _=>yUx) [0] Tryz.func151 yVb
open Go Cv Go.Proofs
open Go Cv Go.Proofs
open Go Cv Go.Proofs
theorem yBj {L:List zI} {s id p q:Int} {o:zI} (h:o∈zQq L s id p q):o.price=p∨∃o'∈L,o.price=o'.price:=by
 have key:∀X:List zI,(o∈X.takeWhile (before s p)++⟨id,s,p,q,uW L s p⟩::X.dropWhile (before s p))→o.price=p∨o∈X:=by
  intro X hX
  rcases yWn.1 hX with hX|hX
  ·exact .inr (List.takeWhile_sublist _|>.subset hX)
  ·rcases yWf.1 hX with rfl|hX
   ·exact .inl rfl
   ·exact .inr (List.dropWhile_sublist _|>.subset hX)
 rw[zQq]at h
 split at h
 ·rcases key _ h with h|h
  ·exact .inl h
  ·obtain⟨o',ho',_,_,e,_⟩:=z3o h
   exact .inr ⟨o',ho',e⟩
 ·rcases key _ h with h|h
  ·exact .inl h
  ·exact .inr ⟨o,h,rfl⟩
theorem BOk.add {p:Prd} {B:List (List zI)} (h:BOk p B) (inst id s price q:Int):BOk p (zYs p B inst id s price q).1:=by
 rw[zYs]
 split
 ·exact h
 split
 ·exact h
 split
 ·exact h
 split
 ·exact h
 rename_i c1 _ _ c4
 have c4:p.price inst price=0:=by simpa using c4
 refine⟨h.pc,h.ps,by simpa using h.bl,fun k L hL o ho=> ?_⟩
 dsimp only at hL
 rcases cC hL with⟨rfl,rfl⟩|⟨_,hL⟩
 ·obtain⟨L',hL'⟩:=yD (l:=B) (i:=inst.toNat) (by omega)
  rw[zT hL',zGr]at ho
  have e:((inst.toNat:Nat):Int)=inst:=by omega
  repeat' split at ho
  ·exact h.pr _ L' hL' o ho
  ·exact h.pr _ L' hL' o ho
  ·exact h.pr _ L' hL' o ho
  ·rcases yBj ho with h1|⟨o',ho',h1⟩
   ·rw[h1,e];exact c4
   ·rw[h1];exact h.pr _ L' hL' o' ho'
 ·exact h.pr k L hL o ho
theorem BOk.new {p:Prd} (hc:p.check=0) (hp:p.small):BOk p (List.replicate p.count []):=by
 refine⟨hc,hp,by simp,fun k L hL o ho=> ?_⟩
 rw[y1a (yVv hL)]at ho
 cases ho
theorem MSt.Rep.fit {s:MSt} {p:Prd} {B:List (List zI)} (h:s.Rep p B) (hb:BOk p B):s.fit:=by
 have:=xZ p
 refine⟨by rw[h.ep];exact hb.ps,by rw[h.bl,hb.bl];omega,fun b hm=> ?_⟩
 obtain⟨k,hk⟩:=yYb.1 hm
 have hlt:=(yVn.1 hk).1
 rw[h.bl]at hlt
 obtain⟨L,hL⟩:=yD hlt
 exact(h.bk k b L hk hL).fit
open Go Cv Go.Proofs
def zMc (r:Nat):Bool:=decide (32≤r) && decide (r≠127) && decide (r≠65533)
def dP (s:List UInt8):Bool:=(kV s).all zMc && decide (1≤(kV s).length) && decide ((kV s).length≤12)
def labC:Con:=con1 (List UInt8) (fun s=>[sV s]) (fun _=>[]) (fun s=>s.length≤140737488355328) (fun s=>yF (dP s)) (fun _=>[])
def yTh (s:List UInt8):List SAnn:=[{ι:=Nat×Nat,slots:=fun x=>[(3,zA x.2),(7,.nm 0 0)],rows:=fun x=>[.iter (sb s) x.1]}]
def fQ (n:Int):Bool:=decide (-2000000≤n) && decide (n≤2000000)
def wW (n:Int):Bool:=decide (1≤n) && decide (n≤1000000)
def Cmd.orderE (c:Cmd):Int:=
 if c.side≠1∧c.side≠2 then 21 else if c.time<1∨3<c.time then 27 else if wW c.qty=false then 24 else if c.least<0∨c.qty<c.least then 28
 else if c.label≠[]∧dP c.label=false then 29 else if fQ c.price=false then 23 else if c.inst<0∨255<c.inst then 20 else 0
def Cmd.right (c:Cmd):Int:=
 if c.kind<1∨4<c.kind then 31 else if c.id<1∨1099511627776<c.id then 1 else if c.kind=1 then c.orderE
 else if c.kind≠2∧wW c.qty=false then 24 else if c.kind=4∧fQ c.price=false then 23 else 0
def cmdOrdC:Con:=con1 Cmd (fun c=>[zLy c]) (fun _=>[]) (fun c=>c.label.length≤140737488355328) (fun c=>zA c.orderE) (fun _=>[])
def cmdRtC:Con:=con1 Cmd (fun c=>[zLy c]) (fun _=>[]) (fun c=>c.label.length≤140737488355328) (fun c=>zA c.right) (fun _=>[])
open Go Cv Go.Proofs
def ySu (s:List UInt8):Prop:=
 ∃(a:Nat×Nat),(↑a.snd:Int)=0∧sb s=sb s∧a.fst=0∧∃(b:Nat×Nat→Prop),∃(c:Nat×Nat→Nat),b a∧∀(d:Nat×Nat),b d→cnd (d.fst.blt (sb s).size) (cnd (decide ((x7 s d)<32)) (∃(e:Unit),dP s=false∧True) (cnd ((x7 s d)==127) (∃(e:Unit),dP s=false∧True) (cnd ((x7 s d)==65533) (∃(e:Unit),dP s=false∧True) (dA d s b c)))) (cnd (decide ((↑d.snd:Int)≥1)) (∃(e:Unit),dP s=decide ((↑d.snd:Int)≤12)∧True) (∃(e:Unit),dP s=false∧True))
def zDz (a:Cmd):Prop:=∃(b:List UInt8),sb b=sb a.label∧b.length≤140737488355328∧∀(c:Unit),True→cnd (!dP b) (∃(d:Unit),a.orderE=29∧True) (cnd (decide (a.price≥(-2000000))) (cnd (!decide (a.price≤2000000)) (∃(d:Unit),a.orderE=23∧True) (cnd (decide (a.inst<0)) (∃(d:Unit),a.orderE=20∧True) (cnd (decide (a.inst>255)) (∃(d:Unit),a.orderE=20∧True) (∃(d:Unit),a.orderE=0∧True)))) (∃(d:Unit),a.orderE=23∧True))
def yJj (c:Cmd):Prop:=
 cnd (c.side !=1) (cnd (c.side !=2) (∃(a:Unit),c.orderE=21∧True) (cnd (decide (c.time<1)) (∃(a:Unit),c.orderE=27∧True) (cnd (decide (c.time>3)) (∃(a:Unit),c.orderE=27∧True) (cnd (decide (c.qty≥1)) (cnd (!decide (c.qty≤1000000)) (∃(a:Unit),c.orderE=24∧True) (cnd (decide (c.least<0)) (∃(a:Unit),c.orderE=28∧True) (cnd (decide (c.least>c.qty)) (∃(a:Unit),c.orderE=28∧True) (cnd (!(sb c.label).toList==(ByteArray.mk #[]).toList) (zDz c) (cnd (decide (c.price≥(-2000000))) (cnd (!decide (c.price≤2000000)) (∃(a:Unit),c.orderE=23∧True) (cnd (decide (c.inst<0)) (∃(a:Unit),c.orderE=20∧True) (cnd (decide (c.inst>255)) (∃(a:Unit),c.orderE=20∧True) (∃(a:Unit),c.orderE=0∧True)))) (∃(a:Unit),c.orderE=23∧True)))))) (∃(a:Unit),c.orderE=24∧True))))) (cnd (decide (c.time<1)) (∃(a:Unit),c.orderE=27∧True) (cnd (decide (c.time>3)) (∃(a:Unit),c.orderE=27∧True) (cnd (decide (c.qty≥1)) (cnd (!decide (c.qty≤1000000)) (∃(a:Unit),c.orderE=24∧True) (cnd (decide (c.least<0)) (∃(a:Unit),c.orderE=28∧True) (cnd (decide (c.least>c.qty)) (∃(a:Unit),c.orderE=28∧True) (cnd (!(sb c.label).toList==(ByteArray.mk #[]).toList) (zDz c) (cnd (decide (c.price≥(-2000000))) (cnd (!decide (c.price≤2000000)) (∃(a:Unit),c.orderE=23∧True) (cnd (decide (c.inst<0)) (∃(a:Unit),c.orderE=20∧True) (cnd (decide (c.inst>255)) (∃(a:Unit),c.orderE=20∧True) (∃(a:Unit),c.orderE=0∧True)))) (∃(a:Unit),c.orderE=23∧True)))))) (∃(a:Unit),c.orderE=24∧True))))
def z9i (c:Cmd):Prop:=
 cnd (decide (c.kind<1)) (∃(a:Unit),c.right=31∧True) (cnd (decide (c.kind>4)) (∃(a:Unit),c.right=31∧True) (cnd (decide (c.id<1)) (∃(a:Unit),c.right=1∧True) (cnd (decide (c.id>1099511627776)) (∃(a:Unit),c.right=1∧True) (cnd (c.kind==1) (∃(a:Cmd),a.kind=c.kind∧a.id=c.id∧a.inst=c.inst∧a.side=c.side∧a.price=c.price∧a.qty=c.qty∧a.least=c.least∧a.time=c.time∧sb a.label=sb c.label∧a.label.length≤140737488355328∧∀(b:Unit),True→∃(d:Unit),c.right=a.orderE∧True) (cnd (c.kind !=2) (cnd (decide (c.qty≥1)) (cnd (!decide (c.qty≤1000000)) (∃(a:Unit),c.right=24∧True) (cnd (c.kind==4) (cnd (decide (c.price≥(-2000000))) (cnd (!decide (c.price≤2000000)) (∃(a:Unit),c.right=23∧True) (∃(a:Unit),c.right=0∧True)) (∃(a:Unit),c.right=23∧True)) (∃(a:Unit),c.right=0∧True))) (∃(a:Unit),c.right=24∧True)) (cnd (c.kind==4) (cnd (decide (c.price≥(-2000000))) (cnd (!decide (c.price≤2000000)) (∃(a:Unit),c.right=23∧True) (∃(a:Unit),c.right=0∧True)) (∃(a:Unit),c.right=23∧True)) (∃(a:Unit),c.right=0∧True)))))))
open Go Cv Go.Proofs
theorem yTm (s:List UInt8) (h:labC.cnd s):ySu s:=by
 have h:s.length≤140737488355328:=h
 have hr:=zEj s
 unfold ySu x7 dA
 refine⟨(0,0),rfl,rfl,rfl,fun x=>x.1≤s.length∧x.2+(u0 s x.1).length=(kV s).length∧(kV s).all zMc=(u0 s x.1).all fun x=>zMc x.2,fun x=>s.length-x.1,⟨by omega,by rw[kV,yVk];simp,by rw[kV,List.all_map];rfl⟩,?_⟩
 rintro⟨p,n⟩ ⟨h1,h2,h3⟩
 dsimp only at h1 h2 h3 ⊢
 refine Cv.cnd.mk (fun hp=> ?_) (fun hp=> ?_)
 ·have hp:p<s.length:=by simpa[yYi]using hp
  have hw:=bN s hp
  rw[j7 hp,yVt]at h2
  rw[j7 hp,List.all_cons]at h3
  generalize hc:(Utf8.decode (sb s) p).1=c at h2 h3 ⊢
  generalize hww:(Utf8.decode (sb s) p).2=w at h2 h3 hw ⊢
  dsimp only at h3
  have bad:zMc c=false→∃(o:Unit),dP s=false∧True:=fun e=>⟨(),by rw[dP,h3,e];rfl,trivial⟩
  refine zJ (fun c1=>bad ?_) (fun c1=>Cv.cnd.mk (fun c2=>bad ?_) (fun c2=>Cv.cnd.mk (fun c3=>bad ?_) (fun c3=> ?_)))
  ·simp[zMc];omega
  ·have c2:(c:Int)=127:=by simpa using c2
   simp[zMc];omega
  ·have c3:(c:Int)=65533:=by simpa using c3
   simp[zMc];omega
  ·have c2:¬(c:Int)=127:=by simpa using c2
   have c3:¬(c:Int)=65533:=by simpa using c3
   have e:zMc c=true:=by simp[zMc];omega
   refine⟨(p+w,n+1),?_,rfl,rfl,⟨hw.2,by(first|omega|(dsimp only;omega)),by rw[h3,e];rfl⟩,by(first|omega|(dsimp only;omega)),trivial⟩
   rw[w64 (by omega)];rfl
 ·have hp:s.length≤p:=by have:=z0s hp;simpa using this
  rw[fF hp]at h2 h3
  have h2:n=(kV s).length:=h2
  have h3:(kV s).all zMc=true:=h3
  refine zJ (fun c=>⟨(),?_,trivial⟩) (fun c=>⟨(),?_,trivial⟩)
  ·rw[dP,h3,← h2,yWd (show 1≤n by omega)]
   simp only[yYc]
   congr 1
   simp only[eq_iff_iff];omega
  ·rw[dP,← h2,yVw (show ¬1≤n by omega)];simp
theorem yNp:labC.ok Tryz.prog 149:=okw mixed gok0 0 (fun _=>[]) (fun s=>yTh s) [] Tryz.func149 yTm
theorem yTu (a b:Int):(a==b)=decide (a=b):=by
 by_cases h:a=b
 ·subst h;simp
 ·simp[h]
theorem ySg (a b:Int):(a !=b)=decide (a≠b):=by
 by_cases h:a=b
 ·subst h;simp
 ·simp[h]
theorem eqB (a b:List UInt8):((sb a).toList==(sb b).toList)=decide (a=b):=by
 rw[mJ,mJ]
 by_cases h:a=b
 ·subst h;simp
 ·simp[h]
theorem yMe:ByteArray.mk #[]=sb []:=rfl
theorem ySn (c:Cmd) (h:cmdOrdC.cnd c):yJj c:=by
 have h:c.label.length≤140737488355328:=h
 unfold yJj zDz
 simp only[yMe,eqB,ySg]
 have tail:¬(c.side≠1∧c.side≠2)→cnd (decide (c.time<1)) (∃(o:Unit),c.orderE=27∧True) (cnd (decide (c.time>3)) (∃(o:Unit),c.orderE=27∧True) (cnd (decide (c.qty≥1)) (cnd (!decide (c.qty≤1000000)) (∃(o:Unit),c.orderE=24∧True) (cnd (decide (c.least<0)) (∃(o:Unit),c.orderE=28∧True) (cnd (decide (c.least>c.qty)) (∃(o:Unit),c.orderE=28∧True) (cnd (!decide (c.label=[])) (∃(i:List UInt8),sb i=sb c.label∧i.length≤140737488355328∧∀(o:Unit),True→cnd (!dP i) (∃(o:Unit),c.orderE=29∧True) (cnd (decide (c.price≥-2000000)) (cnd (!decide (c.price≤2000000)) (∃(o:Unit),c.orderE=23∧True) (cnd (decide (c.inst<0)) (∃(o:Unit),c.orderE=20∧True) (cnd (decide (c.inst>255)) (∃(o:Unit),c.orderE=20∧True) (∃(o:Unit),c.orderE=0∧True)))) (∃(o:Unit),c.orderE=23∧True))) (cnd (decide (c.price≥-2000000)) (cnd (!decide (c.price≤2000000)) (∃(o:Unit),c.orderE=23∧True) (cnd (decide (c.inst<0)) (∃(o:Unit),c.orderE=20∧True) (cnd (decide (c.inst>255)) (∃(o:Unit),c.orderE=20∧True) (∃(o:Unit),c.orderE=0∧True)))) (∃(o:Unit),c.orderE=23∧True)))))) (∃(o:Unit),c.orderE=24∧True))):=by
  intro hs
  have e1:c.orderE=if c.time<1∨3<c.time then 27 else if wW c.qty=false then 24 else if c.least<0∨c.qty<c.least then 28
   else if c.label≠[]∧dP c.label=false then 29 else if fQ c.price=false then 23 else if c.inst<0∨255<c.inst then 20 else 0:=by rw[Cmd.orderE,yVj hs]
  refine zJ (fun d1=>⟨(),by rw[e1,yVl (.inl d1)],trivial⟩) fun d1=>zJ (fun d2=>⟨(),by rw[e1,yVl (.inr d2)],trivial⟩) fun d2=> ?_
  rw[yVj (by omega)]at e1
  have q (hq:wW c.qty=false):∃(o:Unit),c.orderE=24∧True:=⟨(),by rw[e1,yVl hq],trivial⟩
  refine zJ (fun d3=>Cv.cnd.mk (fun d4=>q ?_) fun d4=> ?_) fun d3=>q ?_
  ·have d4:¬c.qty≤1000000:=by simpa using d4
   simp[wW,d4]
  ·have d4:c.qty≤1000000:=by simpa using d4
   have hq:¬wW c.qty=false:=by simp[wW,d4];omega
   rw[yVj hq]at e1
   refine zJ (fun d5=>⟨(),by rw[e1,yVl (.inl d5)],trivial⟩) fun d5=>zJ (fun d6=>⟨(),by rw[e1,yVl (.inr d6)],trivial⟩) fun d6=> ?_
   rw[yVj (by omega)]at e1
   have last:¬(c.label≠[]∧dP c.label=false)→cnd (decide (c.price≥-2000000)) (cnd (!decide (c.price≤2000000)) (∃(o:Unit),c.orderE=23∧True) (cnd (decide (c.inst<0)) (∃(o:Unit),c.orderE=20∧True) (cnd (decide (c.inst>255)) (∃(o:Unit),c.orderE=20∧True) (∃(o:Unit),c.orderE=0∧True)))) (∃(o:Unit),c.orderE=23∧True):=by
    intro hl
    rw[yVj hl]at e1
    have pr (hq:fQ c.price=false):∃(o:Unit),c.orderE=23∧True:=⟨(),by rw[e1,yVl hq],trivial⟩
    refine zJ (fun g1=>Cv.cnd.mk (fun g2=>pr ?_) fun g2=> ?_) fun g1=>pr ?_
    ·have g2:¬c.price≤2000000:=by simpa using g2
     simp[fQ,g2]
    ·have g2:c.price≤2000000:=by simpa using g2
     have hp:¬fQ c.price=false:=by simp[fQ,g2];omega
     rw[yVj hp]at e1
     refine zJ (fun g3=>⟨(),by rw[e1,yVl (.inl g3)],trivial⟩) fun g3=>zJ (fun g4=>⟨(),by rw[e1,yVl (.inr g4)],trivial⟩) fun g4=>⟨(),by rw[e1,yVj (by omega)],trivial⟩
    ·simp[fQ];omega
   refine Cv.cnd.mk (fun d7=>⟨c.label,rfl,h,fun _ _=>Cv.cnd.mk (fun d8=> ?_) fun d8=>last ?_⟩) fun d7=>last ?_
   ·have d7:¬c.label=[]:=by simpa using d7
    have d8:dP c.label=false:=by simpa using d8
    exact⟨(),by rw[e1,yVl ⟨d7,d8⟩],trivial⟩
   ·have d8:dP c.label=true:=by simpa using d8
    simp[d8]
   ·have d7:c.label=[]:=by simpa using d7
    simp[d7]
  ·simp[wW];omega
 refine zJ (fun c1=>zJ (fun c2=>⟨(),by rw[Cmd.orderE,yVl ⟨c1,c2⟩],trivial⟩) fun c2=>tail ?_) fun c1=>tail ?_
 ·omega
 ·omega
theorem yGx:cmdOrdC.ok Tryz.prog 106:=okw mixed (gokc yNp gok0) 1 (fun _=>[]) (fun _=>[]) [] Tryz.func106 ySn
theorem yOw (c:Cmd) (h:cmdRtC.cnd c):z9i c:=by
 have h:c.label.length≤140737488355328:=h
 unfold z9i
 simp only[yTu,ySg]
 refine zJ (fun c1=>⟨(),by rw[Cmd.right,yVl (.inl c1)],trivial⟩) fun c1=>zJ (fun c2=>⟨(),by rw[Cmd.right,yVl (.inr c2)],trivial⟩) fun c2=> ?_
 refine zJ (fun c3=>⟨(),by rw[Cmd.right,yVj (by omega),yVl (.inl c3)],trivial⟩) fun c3=>zJ (fun c4=>⟨(),by rw[Cmd.right,yVj (by omega),yVl (.inr c4)],trivial⟩) fun c4=> ?_
 have e0:c.right=if c.kind=1 then c.orderE else if c.kind≠2∧wW c.qty=false then 24 else if c.kind=4∧fQ c.price=false then 23 else 0:=by rw[Cmd.right,yVj (by omega),yVj (by omega)]
 refine zJ (fun c5=>⟨c,?_⟩) fun c5=> ?_
 ·rw[yVl c5]at e0
  exact kp
 rw[yVj c5]at e0
 have last (hn:¬(c.kind≠2∧wW c.qty=false)):cnd (decide (c.kind=4)) (cnd (decide (c.price≥-2000000)) (cnd (!decide (c.price≤2000000)) (∃(o:Unit),c.right=23∧True) (∃(o:Unit),c.right=0∧True)) (∃(o:Unit),c.right=23∧True)) (∃(o:Unit),c.right=0∧True):=by
  rw[yVj hn]at e0
  refine zJ (fun d1=>zJ (fun d2=>Cv.cnd.mk (fun d3=> ?_) fun d3=> ?_) fun d2=> ?_) fun d1=> ?_
  ·have d3:¬c.price≤2000000:=by simpa using d3
   exact⟨(),by rw[e0,yVl ⟨d1,by simp[fQ,d3]⟩],trivial⟩
  ·have d3:c.price≤2000000:=by simpa using d3
   exact⟨(),by rw[e0,yVj (by simp[fQ,d3];omega)],trivial⟩
  ·exact⟨(),by rw[e0,yVl ⟨d1,by simp[fQ];omega⟩],trivial⟩
  ·exact⟨(),by rw[e0,yVj (by simp[d1])],trivial⟩
 refine zJ (fun d1=>zJ (fun d2=>Cv.cnd.mk (fun d3=> ?_) fun d3=>last ?_) fun d2=> ?_) fun d1=>last ?_
 ·have d3:¬c.qty≤1000000:=by simpa using d3
  exact⟨(),by rw[e0,yVl ⟨d1,by simp[wW,d3]⟩],trivial⟩
 ·have d3:c.qty≤1000000:=by simpa using d3
  simp[wW,d3];omega
 ·exact⟨(),by rw[e0,yVl ⟨d1,by simp[wW];omega⟩],trivial⟩
 ·omega
theorem yBo:cmdRtC.ok Tryz.prog 57:=okw mixed (gokc yGx gok0) 1 (fun _=>[]) (fun _=>[]) [] Tryz.func57 yOw
open Go Cv Go.Proofs
structure SoI where
 s:MSt
 p:Prd
 B:List (List zI)
 inst:Int
 sd:Bool
@[reducible] def SoI.ok (i:SoI):Prop:=i.s.Rep i.p i.B∧i.B.length≤1000
def atB (B:List (List zI)) (inst:Int):List zI:=if inst<0 then[]else B.getD inst.toNat []
def sladC:Con:=con1 SoI (fun i=>[.nm 0 0,zA i.inst,zA (zC i.sd)]) (fun i=>[zD i.s]) (fun i=>i.ok) (fun _=> .own 1) (fun i=>[zD i.s,.own 76 3 ((uP (atB i.B i.inst) (zC i.sd)).map lvE)])
open Go Cv Go.Proofs
def cK (a:SoI):=(uP (atB a.B a.inst) (zC a.sd))
def zLj (a:SoI):Prop:=∃(b:Unit),sb a.s.p.code=sb a.s.p.code∧a.s.p.tick=a.s.p.tick∧a.s.p.low=a.s.p.low∧a.s.p.high=a.s.p.high∧a.s.p.wide=a.s.p.wide∧a.s.p.rule=a.s.p.rule∧a.s.p.top=a.s.p.top∧a.s.p.least=a.s.p.least∧a.s.p.part=a.s.p.part∧AObj.objs 184 Book 6 zQ a.s.books none=AObj.objs 184 Book 6 zQ a.s.books none∧yU a.s.wh=yU a.s.wh∧AObj.fro 1 (iE a.s.p.months)=AObj.fro 1 (iE a.s.p.months)∧AObj.fro 1 (iE a.s.p.settle)=AObj.fro 1 (iE a.s.p.settle)∧List.map lvE (cK a)=[]∧True
def yJg (i:SoI):Prop:=
 cnd (decide (i.inst≥0)) (cnd (!decide (i.inst<(↑i.s.books.length:Int))) (zLj i) ((0≤i.inst∧i.inst<(↑i.s.books.length:Int))∧i.inst.toNat<i.s.books.length∧∃(a:Book),i.s.books[i.inst.toNat]?=some a∧∃(b:BkT),zC b.s=zC i.sd∧zZ b.b=zZ a∧b.b.Rep b.L∧∀(c:Unit),True→∃(d:Book),zZ b.b=zZ d∧i.inst.toNat=i.inst.toNat∧i.inst.toNat<i.s.books.length∧∃(e:Unit),sb i.s.p.code=sb i.s.p.code∧i.s.p.tick=i.s.p.tick∧i.s.p.low=i.s.p.low∧i.s.p.high=i.s.p.high∧i.s.p.wide=i.s.p.wide∧i.s.p.rule=i.s.p.rule∧i.s.p.top=i.s.p.top∧i.s.p.least=i.s.p.least∧i.s.p.part=i.s.p.part∧AObj.objs 184 Book 6 zQ i.s.books none=AObj.objs 184 Book 6 zQ (i.s.books.set i.inst.toNat d) none∧yU i.s.wh=yU i.s.wh∧AObj.fro 1 (iE i.s.p.months)=AObj.fro 1 (iE i.s.p.months)∧AObj.fro 1 (iE i.s.p.settle)=AObj.fro 1 (iE i.s.p.settle)∧List.map lvE (cK i)=List.map lvE (uP b.L (zC b.s))∧True)) (zLj i)
open Go Cv Go.Proofs
theorem yEi {B:List (List zI)} {inst:Int} {L:List zI} (h0:0≤inst) (hL:B[inst.toNat]? =some L):atB B inst=L:=by
 rw[atB,yVj (by omega),zT hL]
theorem yGz {B:List (List zI)} {inst:Int} (h:inst<0∨(B.length:Int)≤inst):atB B inst=[]:=by
 rw[atB]
 split
 ·rfl
 ·rw[yVs,yWk (by omega)];rfl
theorem yQe (i:SoI) (h:sladC.cnd i):yJg i:=by
 obtain⟨hR,hB⟩:i.s.Rep i.p i.B∧i.B.length≤1000:=h
 have hbl:=hR.bl
 have out (hx:i.inst<0∨(i.B.length:Int)≤i.inst):List.map lvE (uP (atB i.B i.inst) (zC i.sd))=[]:=by
  rw[yGz hx];rfl
 unfold yJg zLj cK
 refine zJ (fun c=>Cv.cnd.mk (fun d=> ?_) (fun d=> ?_)) (fun c=> ?_)
 ·have d:¬i.inst<(i.s.books.length:Int):=by simpa using d
  rw[out (.inr (by omega))];exact⟨(),by(repeat'(first|exact trivial|exact rfl|apply And.intro))⟩
 ·have d:i.inst<(i.s.books.length:Int):=by simpa using d
  obtain⟨b,hb⟩:=yD (l:=i.s.books) (i:=i.inst.toNat) (by omega)
  obtain⟨L,hL⟩:=yD (l:=i.B) (i:=i.inst.toNat) (by omega)
  refine⟨⟨c,d⟩,by omega,b,hb,⟨b,L,i.sd⟩,rfl,rfl,hR.bk _ b L hb hL,fun _ _=>⟨b,rfl,rfl,by omega,?_⟩⟩
  rw[uB hb,yEi c hL]
  exact⟨(),by(repeat'(first|exact trivial|exact rfl|apply And.intro))⟩
 ·rw[out (.inl (by omega))];exact⟨(),by(repeat'(first|exact trivial|exact rfl|apply And.intro))⟩
theorem yHg:sladC.ok Tryz.prog 117:=okw mixed (gokc yLu gok0) 1 (fun _=>[]) (fun _=>[]) [0] Tryz.func117 yQe
open Go Cv Go.Proofs
def zTy (s:Int) (F:List zI):Prop:=F.Pairwise fun o o'=>btr s o'.price o.price=false
def rF (L:List zI) (s:Int):List zI:=L.filter fun o=>decide (o.side=s)
structure BWf (p:Prd) (B:List (List zI)):Prop where
 ok:BOk p B
 od:yDw B
 ub:((whL 0 B).map (·.1)).Nodup
 srt:∀(k:Nat) (L:List zI),B[k]? =some L→∀s,s=1∨s=2→zTy s (rF L s)
theorem zUl {s:Int} {b:Book} {Q:List (List Nat)}:∀{R:List xF},(R.Pairwise fun r r'=>btr s r.price r'.price=true)→zTy s (R.flatMap (b.rOrds Q s))
 |[],_=>List.Pairwise.nil
 |r::R,h=>by
  rw[yYx]at h
  rw[yWu,zTy,List.pairwise_append]
  refine⟨List.pairwise_of_forall_mem_list fun o ho o' ho'=> ?_,zUl h.2,fun o ho o' ho'=> ?_⟩
  ·rw[(qE ho).2,(qE ho').2];exact tD _ _
  ·obtain⟨r',hr',ho'⟩:=yXx.1 ho'
   rw[(qE ho).2,(qE ho').2];exact zWa (h.1 r' hr')
theorem Book.Rep.srt {b:Book} {L:List zI} (h:b.Rep L) {s:Int} (hs:s=1∨s=2):zTy s (rF L s):=by
 obtain⟨Q,c,ht,rfl⟩:=h
 rw[rF,zNt hs]
 exact zUl (c.srt s hs)
theorem MSt.Rep.wf {s:MSt} {p:Prd} {B:List (List zI)} (h:s.Rep p B) (hb:BOk p B):BWf p B:=by
 refine⟨hb,h.ords,h.ids,fun k L hL=> ?_⟩
 obtain⟨b,hb⟩:=yD (l:=s.books) (i:=k) (by rw[h.bl];exact(yVn.1 hL).1)
 exact fun s hs=>(h.bk k b L hb hL).srt hs
theorem yCw {L:List zI} (h:∀o∈L,zJk o) (hn:(L.map (·.id)).Nodup) (id q:Int):∀o∈(xY L id q).1,zJk o:=by
 intro o ho
 rw[xY]at ho
 split at ho
 ·exact h o ho
 split at ho
 ·exact h o ho
 rename_i hb
 obtain⟨o',ho',e⟩:=y0n.1 ho
 have h0:=h o' ho'
 split at e
 ·rename_i e1
  have hg:=pG hn ho'
  rw[e1]at hg
  rw[hg]at hb
  split at e
  ·cases e
  ·rename_i e2
   cases e
   have:=h0.q
   exact⟨h0.s,by dsimp only;omega⟩
 ·cases e;exact h0
theorem yBv (L:List zI) (id q:Int):(xY L id q).1.length≤L.length:=by
 rw[xY]
 split
 ·exact yWj _
 split
 ·exact yWj _
 exact List.length_filterMap_le _ _
theorem yBr {L:List zI} {s:Int} (h:zTy s (rF L s)) (id q:Int):zTy s (rF (xY L id q).1 s):=by
 rw[xY]
 split
 ·exact h
 split
 ·exact h
 have e:rF (uH L id q) s=uH (rF L s) id q:=by
  rw[rF,rF,uH,uH,List.filter_filterMap,List.filterMap_filter]
  refine bT fun o _=> ?_
  by_cases e1:o.id=id
  ·rw[yVl e1]
   by_cases e2:o.qty=q
   ·rw[yVl e2];simp
   ·rw[yVj e2];by_cases e3:o.side=s<;>simp[Option.filter,e3]
  ·rw[yVj e1];by_cases e3:o.side=s<;>simp[Option.filter,e3]
 rw[e,uH]
 refine List.Pairwise.filterMap _ (fun a a' haa b hb b' hb'=> ?_) h
 have g:∀{a b:zI},(if a.id=id then(if a.qty=q then none else some {a with qty:=a.qty-q})else some a)=some b→b.price=a.price:=by
  intro a b e
  split at e
  ·split at e
   ·cases e
   ·cases e;rfl
  ·cases e;rfl
 rw[g hb,g hb'];exact haa
theorem yGp {B:List (List zI)} (h:((whL 0 B).map (·.1)).Nodup) {k:Nat} {L L':List zI} (hL:B[k]? =some L) (hs:(L'.map (·.id)).Sublist (L.map (·.id))):((whL 0 (B.set k L')).map (·.1)).Nodup:=by
 have hk:=(yVn.1 hL).1
 obtain⟨rest,hr⟩:=zGs (B:=B) 0 k hk
 have h0:=hr L
 rw[uB hL]at h0
 have h1:=(h0.map (·.1)).nodup_iff.1 h
 refine((hr L').map (·.1)).nodup_iff.2 ?_
 rw[yVu,yXz]at h1 ⊢
 exact h1.sublist (List.Sublist.append hs (List.Sublist.refl _))
theorem BWf.take {p:Prd} {B:List (List zI)} (h:BWf p B) (id q:Int):BWf p (kK B id q).1:=by
 refine⟨h.ok.take id q,?_,?_,?_⟩
 all_goals
  rw[kK]
  cases hi:bH B id with
  |none=>first|exact h.od|exact h.ub|exact h.srt
  |some k=>
   obtain⟨L,hL,hh⟩:=u6 hi
   have ho:=h.od k L hL
   dsimp only
   rw[zT hL]
   first
   |(intro j M hM
     rcases cC hM with⟨rfl,rfl⟩|⟨_,hM⟩
     ·refine⟨yCw ho.1 ho.2.1 id q,?_,yYp (yBv L id q) ho.2.2⟩
      rcases zLf ho.2.1 id q with⟨e,_⟩|⟨e,_⟩
      ·rw[e];exact ho.2.1
      ·rw[e];exact ho.2.1.sublist (List.Sublist.map _ y1c)
     ·exact h.od j M hM)
   |(refine yGp h.ub hL ?_
     rcases zLf ho.2.1 id q with⟨e,_⟩|⟨e,_⟩
     ·rw[e];exact List.Sublist.refl _
     ·rw[e];exact List.Sublist.map _ y1c)
   |(intro j M hM s hs
     rcases cC hM with⟨rfl,rfl⟩|⟨_,hM⟩
     ·exact yBr (h.srt _ L hL s hs) id q
     ·exact h.srt j M hM s hs)
theorem BWf.takes {p:Prd}:∀{fs:List dR} {B:List (List zI)},BWf p B→BWf p (kO B fs)
 |[],B,h=>h
 |f::fs,B,h=>BWf.takes (fs:=fs) (h.take f.id f.qty)
open Go Cv Go.Proofs
theorem zNj {p:Prd} {B:List (List zI)} (h:BWf p B) {inst:Int} {sd:Bool} {price q:Int} {t:wA} {B':List (List zI)} (e:bC p B inst sd price q=some (t,B')):BWf p B'∧B'.length=B.length:=by
 rw[bC]at e
 dsimp only at e
 split at e
 ·split at e
  ·cases e;exact⟨h.takes.takes,by rw[vU,vU]⟩
  ·cases e;exact⟨h.takes,by rw[vU]⟩
 ·cases e
theorem aS {p:Prd} {inst:Int} {sd:Bool} {price:Int}:∀(m:Nat) (q:Int) (B:List (List zI)),q.toNat≤m→BWf p B→BWf p (j6 p B inst sd price q).B∧(j6 p B inst sd price q).B.length=B.length∧(0≤q→0≤(j6 p B inst sd price q).left∧(j6 p B inst sd price q).left≤q)
 |m,q,B,hm,h=>by
  by_cases hq:q≤0
  ·rw[rT (.inl hq)]
   exact⟨h,rfl,fun x=>⟨x,yZw _⟩⟩
  cases hs:bC p B inst sd price q with
  |none=>
   rw[rT (.inr hs)]
   exact⟨h,rfl,fun x=>⟨x,yZw _⟩⟩
  |some x=>
   obtain⟨t,C⟩:=x
   obtain⟨k1,k2⟩:=zNj h hs
   have hq2:=zLk (by omega) hs
   cases m with
   |zero=>omega
   |succ m=>
   obtain⟨i1,i2,i3⟩:=aS (p:=p) (inst:=inst) (sd:=sd) (price:=price) m (q-t.qty) C (by omega) k1
   rw[zKc (by omega) hs]
   exact⟨i1,i2.trans k2,fun _=>⟨(i3 (by omega)).1,by dsimp only;have:=(i3 (by omega)).2;omega⟩⟩
open Go Cv Go.Proofs
@[reducible] def RunI.ok (i:RunI):Prop:=i.s.Rep i.p i.B∧BOk i.p i.B∧(0≤i.inst∧i.inst<i.B.length)∧1≤i.q∧i.q≤1000000
def scouldC:Con:=con1 RunI (fun i=>[.nm 0 0,zA i.inst,zA (zC i.sd),zA i.price,zA i.q]) (fun i=>[zD i.s]) (fun i=>i.ok) (fun i=>zA (i.q-i.r.left)) (fun i=>[zD i.s])
def bJ (p:Prd) (B:List (List zI)) (inst:Int) (sd:Bool) (price q:Int):Bool:=
 decide ((j6 p B inst sd price q).left≠0) && (kH ⟨p,(j6 p B inst sd price q).B.map kB,inst⟩ (zC (!sd))).any fun x=>dU sd price x.price
def stuckC:Con:=con1 RunI (fun i=>[.nm 0 0,zA i.inst,zA (zC i.sd),zA i.price,zA i.q]) (fun i=>[zD i.s]) (fun i=>i.ok) (fun i=>yF (bJ i.p i.B i.inst i.sd i.price i.q)) (fun i=>[zD i.s])
def zRh (B:List (List zI)):Nat:=(whL 0 B).length
def countC16:Con:=con1 SoI (fun i=>[.nm 0 0]) (fun i=>[zD i.s]) (fun i=>i.ok) (fun i=>zA (zRh i.B)) (fun i=>[zD i.s])
def gR (p:Prd) (inst price:Int):Int×Int×Int:=
 if(p.legs inst).2.2=false then(0,0,20)else if p.price inst price≠0 then(0,0,p.price inst price)else
 let far:=p.settle.getD (p.legs inst).2.1.toNat 0
 let a:=if p.high<far+price then(p.high,p.high-price)else(far+price,far)
 if a.1<p.low then(p.low,p.low-price,0)else(a.1,a.2,0)
structure LpI where
 p:Prd
 inst:Int
 price:Int
def lpricesC:Con:=con1 LpI (fun i=>[prdV i.p,zA i.inst,zA i.price]) (fun _=>[]) (fun i=>i.p.check=0∧i.p.small∧yO i.price) (fun i=> .tup [zA (gR i.p i.inst i.price).1,zA (gR i.p i.inst i.price).2.1,zA (gR i.p i.inst i.price).2.2]) (fun _=>[])
def ijj (t u:Nat):SAnn:={ι:=Int×Int,slots:=fun n=>[(t,zA n.1),(u,zA n.2)],rows:=fun _=>[]}
def lpJ:List (Nat×SAnn):=[(50,ijj 15 14),(58,ijj 15 14)]
def yLn:List SAnn:=[{ι:=Nat,slots:=fun j=>[(40,zA j)],rows:=fun _=>[]}]
def yMx:List (Nat×SAnn):=[(8,{ι:=Unit,slots:=fun _=>[],rows:=fun _=>[],opn:=[11]})]
open Go Cv Go.Proofs
def cR (a:Book):Prop:=(a.a.slots.length≤1000000∧a.a.queues.length≤1000000)∧a.buys.length≤1000000∧a.sells.length≤1000000∧a.spare.length≤1000000
def hP (a:MSt):Prop:=a.books.length≤1000000∧∀(b:Book),b∈a.books→cR b
def qN (a:RunI):Prop:=a.s.Rep a.p a.B∧BOk a.p a.B∧(0≤a.inst∧a.inst<(↑a.B.length:Int))∧1≤a.q∧a.q≤1000000
def eY (a:RunI):Prop:=∃(b:MSt),sb b.p.code=sb a.s.p.code∧b.p.tick=a.s.p.tick∧b.p.low=a.s.p.low∧b.p.high=a.s.p.high∧b.p.wide=a.s.p.wide∧b.p.rule=a.s.p.rule∧b.p.top=a.s.p.top∧b.p.least=a.s.p.least∧b.p.part=a.s.p.part∧AObj.objs 184 Book 6 zQ b.books none=AObj.objs 184 Book 6 zQ a.s.books none∧yU b.wh=yU a.s.wh∧AObj.fro 1 (iE b.p.months)=AObj.fro 1 (iE a.s.p.months)∧AObj.fro 1 (iE b.p.settle)=AObj.fro 1 (iE a.s.p.settle)∧(hP b)∧∀(c:Unit),True→∃(d:RunI),d.inst=a.inst∧zC d.sd=zC a.sd∧d.price=a.price∧d.q=a.q∧zD d.s=zD b∧(qN d)∧∀(e:MSt),e.Rep d.p d.r.B→∃(f:Unit),a.q-a.r.left=IntKind.i64.wrap (a.q-d.r.left)∧zD a.s=zD b∧True
def wC (a:RunI):Prop:=∃(b:Unit),a.q-a.r.left=0∧sb a.s.p.code=sb a.s.p.code∧a.s.p.tick=a.s.p.tick∧a.s.p.low=a.s.p.low∧a.s.p.high=a.s.p.high∧a.s.p.wide=a.s.p.wide∧a.s.p.rule=a.s.p.rule∧a.s.p.top=a.s.p.top∧a.s.p.least=a.s.p.least∧a.s.p.part=a.s.p.part∧AObj.objs 184 Book 6 zQ a.s.books none=AObj.objs 184 Book 6 zQ a.s.books none∧yU a.s.wh=yU a.s.wh∧AObj.fro 1 (iE a.s.p.months)=AObj.fro 1 (iE a.s.p.months)∧AObj.fro 1 (iE a.s.p.settle)=AObj.fro 1 (iE a.s.p.settle)∧True
def z3k (i:RunI):Prop:=
 cnd (decide (i.inst≥0)) (cnd (decide (i.inst<(↑i.s.books.length:Int))) (cnd (zC i.sd==1) (cnd (decide (i.q≥1)) (cnd (!decide (i.q≤1000000)) (wC i) (eY i)) (wC i)) (cnd (zC i.sd==2) (cnd (decide (i.q≥1)) (cnd (!decide (i.q≤1000000)) (wC i) (eY i)) (wC i)) (wC i))) (wC i)) (wC i)
def zSy (i:SoI):Prop:=
 ∃(a:Unit),(↑(zRh i.B):Int)=(↑(yU i.s.wh).length:Int)∧sb i.s.p.code=sb i.s.p.code∧i.s.p.tick=i.s.p.tick∧i.s.p.low=i.s.p.low∧i.s.p.high=i.s.p.high∧i.s.p.wide=i.s.p.wide∧i.s.p.rule=i.s.p.rule∧i.s.p.top=i.s.p.top∧i.s.p.least=i.s.p.least∧i.s.p.part=i.s.p.part∧AObj.objs 184 Book 6 zQ i.s.books none=AObj.objs 184 Book 6 zQ i.s.books none∧yU i.s.wh=yU i.s.wh∧AObj.fro 1 (iE i.s.p.months)=AObj.fro 1 (iE i.s.p.months)∧AObj.fro 1 (iE i.s.p.settle)=AObj.fro 1 (iE i.s.p.settle)∧True
def dL (a:Int×Int→Prop) (b:Int×Int) (c:LpI):Prop:=a b∧Sx.AObj.cells [V.d (D.v (Value.string (sb c.p.code))),V.own 0,V.d (dI c.p.tick),V.d (dI c.p.low),V.d (dI c.p.high),V.d (dI c.p.wide),V.d (dI c.p.rule),V.d (dI c.p.top),V.d (dI c.p.least),V.d (dI c.p.part),V.own ((0:Nat)+(1:Nat))] 26=Sx.AObj.cells [V.d (D.v (Value.string (sb c.p.code))),V.own 0,V.d (dI c.p.tick),V.d (dI c.p.low),V.d (dI c.p.high),V.d (dI c.p.wide),V.d (dI c.p.rule),V.d (dI c.p.top),V.d (dI c.p.least),V.d (dI c.p.part),V.own ((0:Nat)+(1:Nat))] 26∧AObj.fro 1 (iE c.p.settle)=AObj.fro 1 (iE c.p.settle)∧AObj.fro 1 (iE c.p.months)=AObj.fro 1 (iE c.p.months)
def yW (a:LpI):=(gR a.p a.inst a.price)
def zSk (i:LpI):Prop:=
 ∃(a:Prd),sb a.code=sb i.p.code∧iE a.months=iE i.p.months∧a.tick=i.p.tick∧a.low=i.p.low∧a.high=i.p.high∧a.wide=i.p.wide∧a.rule=i.p.rule∧a.top=i.p.top∧a.least=i.p.least∧a.part=i.p.part∧iE a.settle=iE i.p.settle∧(z7 a)∧∀(b:Unit),True→cnd (a.check !=0) (∃(c:Unit),(yW i).fst=0∧(yW i).snd.fst=0∧(yW i).snd.snd=1∧True) (∃(c:dK),sb c.p.code=sb i.p.code∧iE c.p.months=iE i.p.months∧c.p.tick=i.p.tick∧c.p.low=i.p.low∧c.p.high=i.p.high∧c.p.wide=i.p.wide∧c.p.rule=i.p.rule∧c.p.top=i.p.top∧c.p.least=i.p.least∧c.p.part=i.p.part∧iE c.p.settle=iE i.p.settle∧c.n=i.inst∧(k0 c)∧∀(d:Unit),True→cnd (!(c.p.legs c.n).snd.snd) (∃(e:Unit),(yW i).fst=0∧(yW i).snd.fst=0∧(yW i).snd.snd=20∧True) (∃(e:pY),sb e.p.code=sb i.p.code∧iE e.p.months=iE i.p.months∧e.p.tick=i.p.tick∧e.p.low=i.p.low∧e.p.high=i.p.high∧e.p.wide=i.p.wide∧e.p.rule=i.p.rule∧e.p.top=i.p.top∧e.p.least=i.p.least∧e.p.part=i.p.part∧iE e.p.settle=iE i.p.settle∧e.a=i.inst∧e.b=i.price∧(x6 e)∧∀(f:Unit),True→cnd (e.p.price e.a e.b !=0) (∃(g:Unit),(yW i).fst=0∧(yW i).snd.fst=0∧(yW i).snd.snd=e.p.price e.a e.b∧True) ((0≤(c.p.legs c.n).snd.fst∧(c.p.legs c.n).snd.fst<(↑(iE i.p.settle).length:Int))∧∃(g:Int),zE (iE i.p.settle) (c.p.legs c.n).snd.fst.toNat 0 1=some [dI g]∧∃(h:Int×Int),∃(j:Int×Int→Prop),cnd (decide (IntKind.i64.wrap (g+i.price)>i.p.high)) (∃(k:Int×Int),k.fst=i.p.high∧k.snd=IntKind.i64.wrap (i.p.high-i.price)∧dL j k i) (∃(k:Int×Int),k.fst=IntKind.i64.wrap (g+i.price)∧k.snd=g∧dL j k i)∧∀(k:Int×Int),j k→∃(l:Int×Int),∃(m:Int×Int→Prop),cnd (decide (k.fst<i.p.low)) (∃(n:Int×Int),n.fst=i.p.low∧n.snd=IntKind.i64.wrap (i.p.low-i.price)∧dL m n i) (∃(n:Int×Int),n.fst=k.fst∧n.snd=k.snd∧dL m n i)∧∀(n:Int×Int),m n→∃(p:Unit),(yW i).fst=n.fst∧(yW i).snd.fst=n.snd∧(yW i).snd.snd=0∧True)))
def lJ (a:MSt) (b:MSt):Prop:=sb a.p.code=sb b.p.code∧True∧a.p.tick=b.p.tick∧a.p.low=b.p.low∧a.p.high=b.p.high∧a.p.wide=b.p.wide∧a.p.rule=b.p.rule∧a.p.top=b.p.top∧a.p.least=b.p.least∧a.p.part=b.p.part∧True∧True
def yAj (i:RunI):Prop:=
 ∃(a:MSt),zD a=zD i.s∧(hP a)∧∀(b:Unit),True→∃(c:RunI),c.inst=i.inst∧zC c.sd=zC i.sd∧c.price=i.price∧c.q=i.q∧zD c.s=zD a∧(qN c)∧∀(d:MSt),d.Rep c.p c.r.B→cnd (c.r.left==0) (∃(e:Unit),bJ i.p i.B i.inst i.sd i.price i.q=false∧zD i.s=zD a∧True) (∃(e:MSt),sb e.p.code=sb d.p.code∧e.p.tick=d.p.tick∧e.p.low=d.p.low∧e.p.high=d.p.high∧e.p.wide=d.p.wide∧e.p.rule=d.p.rule∧e.p.top=d.p.top∧e.p.least=d.p.least∧e.p.part=d.p.part∧AObj.objs 184 Book 6 zQ e.books none=AObj.objs 184 Book 6 zQ d.books none∧yU e.wh=yU d.wh∧AObj.fro 1 (iE e.p.months)=AObj.fro 1 (iE d.p.months)∧AObj.fro 1 (iE e.p.settle)=AObj.fro 1 (iE d.p.settle)∧(fS e)∧∀(f:Unit),True→(lJ e d)∧∃(g:Bool),zC g=zC i.sd∧True∧∀(h:Unit),True→(lJ e d)∧∃(j:sO),sb j.i.p.code=sb d.p.code∧iE j.i.p.months=iE e.p.months∧j.i.p.tick=d.p.tick∧j.i.p.low=d.p.low∧j.i.p.high=d.p.high∧j.i.p.wide=d.p.wide∧j.i.p.rule=d.p.rule∧j.i.p.top=d.p.top∧j.i.p.least=d.p.least∧j.i.p.part=d.p.part∧iE j.i.p.settle=iE e.p.settle∧List.map zY j.i.tops=List.map zY e.tops∧j.i.inst=i.inst∧zC j.s=zC !g∧(kF j)∧∀(k:Unit),True→∃(l:Nat),(↑l:Int)=0∧∃(m:Nat→Prop),∃(n:Nat→Nat),m l∧∀(p:Nat),m p→cnd (decide ((↑p:Int)<(gJ j))) ((0≤(↑p:Int)∧(↑p:Int)<(gJ j))∧∃(q:Int),∃(r:Int),∃(s:Int),∃(t:Int),∃(u:Int),∃(v:Int),zE (jK j) (↑p:Int).toNat 0 6=some [dI q,dI r,dI s,dI t,dI u,dI v]∧∃(w:GoI),zC w.s=zC i.sd∧w.p=i.price∧w.x=q∧True∧∀(x:Unit),True→cnd (dU w.s w.p w.x) (∃(y:Unit),bJ i.p i.B i.inst i.sd i.price i.q=true∧zD i.s=zD a∧True) (∃(y:Nat),(↑y:Int)=IntKind.i64.wrap ((↑p:Int)+1)∧m y∧n y<n p∧AObj.own 257 6 (jK j)=AObj.own 257 6 (jK j)∧Sx.AObj.cells (gY (bQ 5 (1+((2:Nat)-(1:Nat))+((2:Nat)-(1:Nat))+((5:Nat)-(1:Nat))) ((6:Nat)-(5:Nat)) [((2:Nat),1+((2:Nat)-(1:Nat))+((2:Nat)-(1:Nat))+nat_lit 1),((1:Nat),1+((2:Nat)-(1:Nat))+((2:Nat)-(1:Nat))+nat_lit 0),((4:Nat),1+((2:Nat)-(1:Nat))+((2:Nat)-(1:Nat))+nat_lit 3),((3:Nat),1+((2:Nat)-(1:Nat))+((2:Nat)-(1:Nat))+nat_lit 2),((0:Nat),1+nat_lit 0)]) [sV e.p.code,V.own 3,zA e.p.tick,zA e.p.low,zA e.p.high,zA e.p.wide,zA e.p.rule,zA e.p.top,zA e.p.least,zA e.p.part,V.own 4,V.own 1,V.mp 2]) (182:TypeId)=Sx.AObj.cells (gY (bQ 5 (1+((2:Nat)-(1:Nat))+((2:Nat)-(1:Nat))+((5:Nat)-(1:Nat))) ((6:Nat)-(5:Nat)) [((2:Nat),1+((2:Nat)-(1:Nat))+((2:Nat)-(1:Nat))+nat_lit 1),((1:Nat),1+((2:Nat)-(1:Nat))+((2:Nat)-(1:Nat))+nat_lit 0),((4:Nat),1+((2:Nat)-(1:Nat))+((2:Nat)-(1:Nat))+nat_lit 3),((3:Nat),1+((2:Nat)-(1:Nat))+((2:Nat)-(1:Nat))+nat_lit 2),((0:Nat),1+nat_lit 0)]) [sV e.p.code,V.own 3,zA e.p.tick,zA e.p.low,zA e.p.high,zA e.p.wide,zA e.p.rule,zA e.p.top,zA e.p.least,zA e.p.part,V.own 4,V.own 1,V.mp 2]) (182:TypeId)∧AObj.objs 184 Book 6 zQ e.books none=AObj.objs 184 Book 6 zQ e.books none∧Sx.AObj.map (yU e.wh)=Sx.AObj.map (yU e.wh)∧AObj.fro 1 (iE e.p.months)=AObj.fro 1 (iE e.p.months)∧AObj.fro 1 (iE e.p.settle)=AObj.fro 1 (iE e.p.settle)∧AObj.fro 6 (List.map zY e.tops)=AObj.fro 6 (List.map zY e.tops)∧AObj.fro 1 (iE d.p.months)=AObj.fro 1 (iE d.p.months)∧AObj.fro 1 (iE d.p.settle)=AObj.fro 1 (iE d.p.settle)∧AObj.own 260 4 (List.map jW c.r.steps)=AObj.own 260 4 (List.map jW c.r.steps)∧zD a=zD a)) (∃(q:Unit),bJ i.p i.B i.inst i.sd i.price i.q=false∧zD i.s=zD a∧True))
open Go Cv Go.Proofs
theorem MSt.Rep.small {s:MSt} {p:Prd} {B:List (List zI)} (h:s.Rep p B) (hb:BOk p B):s.small:=by
 have:=xZ p
 refine⟨by rw[h.bl,hb.bl];omega,fun b hm=> ?_⟩
 obtain⟨k,hk⟩:=yYb.1 hm
 have hlt:=(yVn.1 hk).1
 rw[h.bl]at hlt
 obtain⟨L,hL⟩:=yD hlt
 obtain⟨Q,c,_⟩:=h.bk k b L hk hL
 exact c.small
theorem yHc (i:RunI) (h:scouldC.cnd i):z3k i:=by
 have h':i.ok:=h
 obtain⟨hR,hB,⟨h0,h1⟩,hq1,hq2⟩:=h'
 have hbl:=hR.bl
 have hl:=(aS (inst:=i.inst) (sd:=i.sd) (price:=i.price) _ i.q i.B (yWj _) (hR.wf hB)).2.2 (by omega)
 have er:i.r=j6 i.p i.B i.inst i.sd i.price i.q:=rfl
 unfold z3k eY qN hP cR wC
 refine(fun hT=>zJ (fun c=>zJ (fun c2=>Cv.cnd.mk (fun _=>zJ (fun _=>Cv.cnd.mk (fun e=>absurd hq2 (by simpa using e)) (fun _=>hT)) (fun e=>absurd hq1 e)) (fun e1=>Cv.cnd.mk (fun _=>zJ (fun _=>Cv.cnd.mk (fun e=>absurd hq2 (by simpa using e)) (fun _=>hT)) (fun e=>absurd hq1 e)) (fun e2=>by
  rcases zBy i.sd with e|e
  ·rw[e]at e1;cases e1
  ·rw[e]at e2;cases e2))) (fun c2=>absurd (by omega) c2)) (fun c=>absurd h0 c)) ?_
 refine⟨i.s,rfl,rfl,rfl,rfl,rfl,rfl,rfl,rfl,rfl,rfl,rfl,rfl,rfl,hR.small hB,fun _ _=>⟨i,rfl,rfl,rfl,rfl,rfl,h,fun o ho=>⟨(),?_,rfl,trivial⟩⟩⟩
 rw[w64 (by rw[er];omega)]
theorem z6c:scouldC.ok Tryz.prog 110:=okw mixed (gokc zCr (gokc zYu gok0)) 2 (fun _=>[]) (fun _=>[]) [0] Tryz.func110 yHc
theorem yBw (i:SoI) (h:countC16.cnd i):zSy i:=by
 obtain⟨hR,hB⟩:i.s.Rep i.p i.B∧i.B.length≤1000:=h
 unfold zSy
 have e:(yU i.s.wh).length=zRh i.B:=by rw[yU,yVk,hR.wh.length_eq,zRh]
 exact⟨(),by rw[e],by(repeat'(first|exact trivial|exact rfl|apply And.intro))⟩
theorem zKn:countC16.ok Tryz.prog 56:=okw mixed gok0 0 (fun _=>[]) (fun _=>[]) [0] Tryz.func56 yBw
theorem zVp {p:Prd} {i n:Int} (h:p.price i n=0):0≤i∧i<p.count:=by
 rw[Prd.price]at h
 split at h
 ·cases h
 split at h
 ·cases h
 omega
theorem z8j (i:LpI) (h:lpricesC.cnd i):zSk i:=by
 obtain⟨hc,hp,hpr⟩:i.p.check=0∧i.p.small∧yO i.price:=h
 unfold zSk dL yW z7 k0 x6 dI
 refine⟨i.p,rfl,rfl,rfl,rfl,rfl,rfl,rfl,rfl,rfl,rfl,rfl,hp,fun _ _=>Cv.cnd.mk (fun e=>by rw[hc]at e;cases e) (fun _=> ?_)⟩
 refine⟨⟨i.p,i.inst⟩,rfl,rfl,rfl,rfl,rfl,rfl,rfl,rfl,rfl,rfl,rfl,rfl,hp,fun _ _=>Cv.cnd.mk (fun e=> ?_) (fun e=> ?_)⟩
 ·have e:(i.p.legs i.inst).2.2=false:=by simpa using e
  have h0:gR i.p i.inst i.price=(0,0,20):=by rw[gR,yVl e]
  rw[h0];exact⟨(),rfl,rfl,rfl,trivial⟩
 have e:(i.p.legs i.inst).2.2=true:=by simpa using e
 refine⟨⟨i.p,i.inst,i.price⟩,rfl,rfl,rfl,rfl,rfl,rfl,rfl,rfl,rfl,rfl,rfl,rfl,rfl,hp,fun _ _=>Cv.cnd.mk (fun e2=> ?_) (fun e2=> ?_)⟩
 ·have e2:¬i.p.price i.inst i.price=0:=by simpa using e2
  have h0:gR i.p i.inst i.price=(0,0,i.p.price i.inst i.price):=by rw[gR,yVj (by rw[e];decide),yVl e2]
  rw[h0];exact⟨(),rfl,rfl,rfl,trivial⟩
 have e2:i.p.price i.inst i.price=0:=by simpa using e2
 have hin:=zVp e2
 have hbd:=sI hc e2
 have ok:=jO hc
 have b1:=ok.b1
 have b2:=ok.b2
 have b3:=ok.b3
 have s1:=ok.s1
 have s2:=ok.s2
 have s3:=ok.s3
 obtain⟨k,hk⟩:∃k:Nat,i.inst=k:=⟨i.inst.toNat,by omega⟩
 have hl:=dO hc (k:=k) (by omega)
 rw[← hk]at hl
 rcases hl with⟨_,_,_,l3,l4⟩|⟨x,_⟩
 rotate_left
 ·rw[e]at x;cases x
 have hsl:(iE i.p.settle).length=i.p.settle.length:=xD _
 obtain⟨n,hn⟩:=yD (l:=i.p.settle) (i:=(i.p.legs i.inst).2.1.toNat) (by omega)
 have hm:=yVv hn
 have m1:=z3h hm
 have m2:=z2t hm
 have hg:i.p.settle.getD (i.p.legs i.inst).2.1.toNat 0=n:=zT hn
 have h0:gR i.p i.inst i.price=(if(if i.p.high<n+i.price then(i.p.high,i.p.high-i.price)else(n+i.price,n)).1<i.p.low then(i.p.low,i.p.low-i.price,0)else((if i.p.high<n+i.price then(i.p.high,i.p.high-i.price)else(n+i.price,n)).1,(if i.p.high<n+i.price then(i.p.high,i.p.high-i.price)else(n+i.price,n)).2,0)):=by
  rw[gR,yVj (by rw[e];decide),yVj (by rw[e2];decide)]
  dsimp only
  rw[hg]
 dsimp only
 refine⟨⟨l3,by omega⟩,n,elI hn,(0,0),fun a=>a=if i.p.high<n+i.price then(i.p.high,i.p.high-i.price)else(n+i.price,n),zJ (fun c=>⟨(i.p.high,i.p.high-i.price),rfl,(w64 (by omega)).symm,?_,by(repeat'(first|exact trivial|exact rfl|apply And.intro))⟩) (fun c=>⟨(n+i.price,n),(w64 (by omega)).symm,rfl,?_,by(repeat'(first|exact trivial|exact rfl|apply And.intro))⟩),?_⟩
 ·rw[w64 (by omega)]at c;rw[yVl c]
 ·rw[w64 (by omega)]at c;rw[yVj c]
 rintro _ rfl
 generalize (if i.p.high<n+i.price then(i.p.high,i.p.high-i.price)else(n+i.price,n))=a at h0 ⊢
 refine⟨(0,0),fun b=>b=if a.1<i.p.low then(i.p.low,i.p.low-i.price)else a,zJ (fun c=>⟨(i.p.low,i.p.low-i.price),rfl,(w64 (by omega)).symm,by rw[yVl c],by(repeat'(first|exact trivial|exact rfl|apply And.intro))⟩) (fun c=>⟨a,rfl,rfl,by rw[yVj c],by(repeat'(first|exact trivial|exact rfl|apply And.intro))⟩),?_⟩
 rintro _ rfl
 rw[h0]
 by_cases c:a.1<i.p.low
 ·rw[yVl c,yVl c];exact⟨(),rfl,rfl,rfl,trivial⟩
 ·rw[yVj c,yVj c];exact⟨(),rfl,rfl,rfl,trivial⟩
theorem zXk:lpricesC.ok Tryz.prog 222:=okw mixed (gokc rZ (gokc sZ (gokc rV gok0))) 0 (fun _=>lpJ) (fun _=>[]) [] Tryz.func222 z8j
theorem yFm {l:List Quote} {k:Nat} {q:Quote} (h:l[k]? =some q):zE (l.map zK) k 0 6=some [D.v (.int .i64 q.price),D.v (.int .i64 q.qty),D.v (.int .i64 q.a.inst),D.v (.int .i64 q.a.side),D.v (.int .i64 q.b.inst),D.v (.int .i64 q.b.side)]:=elA h (by simp[zK]) rfl
theorem yMb (i:RunI) (h:stuckC.cnd i):yAj i:=by
 have h':i.ok:=h
 obtain⟨hR,hB,⟨h0,h1⟩,hq1,hq2⟩:=h'
 have hwf:=hR.wf hB
 obtain⟨k1,k2,k3⟩:=aS (inst:=i.inst) (sd:=i.sd) (price:=i.price) _ i.q i.B (yWj _) hwf
 have hcl:=xZ i.p
 unfold yAj lJ qN hP cR gJ jK kF hZ fS dI
 refine⟨i.s,rfl,hR.small hB,fun _ _=>⟨i,rfl,rfl,rfl,rfl,rfl,h,fun o ho=> ?_⟩⟩
 have er:i.r=j6 i.p i.B i.inst i.sd i.price i.q:=rfl
 have es:bJ i.p i.B i.inst i.sd i.price i.q=(decide ((j6 i.p i.B i.inst i.sd i.price i.q).left≠0) && (kH ⟨i.p,(j6 i.p i.B i.inst i.sd i.price i.q).B.map kB,i.inst⟩ (zC (!i.sd))).any fun x=>dU i.sd i.price x.price):=rfl
 rw[er]at ho ⊢
 rw[es]
 generalize j6 i.p i.B i.inst i.sd i.price i.q=R at*
 obtain⟨ts,lf,RB⟩:=R
 dsimp only at*
 refine Cv.cnd.mk (fun e=>⟨(),?_,rfl,trivial⟩) (fun e=> ?_)
 ·have e:lf=0:=by simpa using e
  rw[e];rfl
 have e:lf≠0:=by simpa using e
 rw[yWd e,yYc]
 have ep:=ho.ep
 have hB':=k1.ok
 have hbl:=hB'.bl
 have hcnt:o.cntOk:=ho.cnt (by omega)
 have hps:o.p.small:=by rw[ep];exact hB'.ps
 have hto:wY (RB.map kB):=hB'.tops
 have hle:=zAy ⟨o.p,RB.map kB,i.inst⟩ (zC (!i.sd))
 refine⟨o,rfl,rfl,rfl,rfl,rfl,rfl,rfl,rfl,rfl,rfl,rfl,rfl,rfl,hcnt,fun _ _=>⟨⟨rfl,trivial,rfl,rfl,rfl,rfl,rfl,rfl,rfl,rfl,trivial,trivial⟩,i.sd,rfl,trivial,fun _ _=>⟨⟨rfl,trivial,rfl,rfl,rfl,rfl,rfl,rfl,rfl,rfl,trivial,trivial⟩,⟨⟨o.p,RB.map kB,i.inst⟩,!i.sd⟩,rfl,rfl,rfl,rfl,rfl,rfl,rfl,rfl,rfl,rfl,rfl,by rw[ho.tops],rfl,rfl,⟨hps,hto⟩,fun _ _=> ?_⟩⟩⟩
 dsimp only
 rw[← ep]
 generalize kH ⟨o.p,RB.map kB,i.inst⟩ (zC (!i.sd))=Q at*
 have e4:(Q.map zK).length=Q.length:=yVk ..
 refine⟨0,rfl,fun j=>j≤Q.length∧(Q.take j).any (fun x=>dU i.sd i.price x.price)=false,fun j=>Q.length-j,⟨yXf _,rfl⟩,?_⟩
 rintro j ⟨j1,j2⟩
 refine zJ (fun c=> ?_) (fun c=>⟨(),?_,rfl,trivial⟩)
 ·obtain⟨q,hq⟩:=yD (l:=Q) (i:=j) (by omega)
  refine⟨⟨by omega,by omega⟩,_,_,_,_,_,_,yFm hq,⟨i.sd,i.price,q.price⟩,rfl,rfl,rfl,trivial,fun _ _=>Cv.cnd.mk (fun g=>⟨(),?_,rfl,trivial⟩) (fun g=>⟨j+1,wjn (by omega),⟨by omega,?_⟩,by dsimp only;omega,by(repeat'(first|exact trivial|exact rfl|apply And.intro))⟩)⟩
  ·rw[List.any_eq_true];exact⟨q,yVv hq,g⟩
  ·rw[yWs,hq,List.any_append,j2]
   show(false||([q].any fun x=>dU i.sd i.price x.price))=false
   simp only[List.any_cons,List.any_nil,Bool.or_false,y1e]
   exact g
 ·have:j=Q.length:=by omega
  rw[this,yVx (yWj _)]at j2
  exact j2
theorem zSn:stuckC.ok Tryz.prog 111:=okw mixed (gokc zCr (gokc zYu (gokc zVb (gokc yBa (gokc zNn (gokc zUh gok0)))))) 0 (fun _=>yMx) (fun _=>yLn) [] Tryz.func111 yMb
open Go Cv Go.Proofs
def nX (c:Cmd) (why:Int):List Rep:=[⟨2,c.id,0,0,0,0,0,why⟩]
def ofF (x:wA) (k:Int):Int:=match x.fills.find? fun f=>decide (f.inst=k)with
 |some f=>f.price
 |none=>x.price
def wJ (p:Prd) (inst:Int) (x:wA):Int×Int:=if x.implied=false then((gR p inst x.price).1,(gR p inst x.price).2.1)else(ofF x (p.legs inst).1,ofF x (p.legs inst).2.1)
def zGt (p:Prd) (r:Rep) (near far:Int):List Rep:=[{r with inst:=(p.legs r.inst).1,price:=near},{r with inst:=(p.legs r.inst).2.1,side:=3-r.side,price:=far}]
def pU (p:Prd) (x:wA) (r:Rep):List Rep:=r::if(p.legs r.inst).2.2=true then zGt p r (wJ p r.inst x).1 (wJ p r.inst x).2 else[]
def zBz (f:dR):Rep:=⟨3,f.id,f.inst,f.side,f.price,f.qty,f.left,0⟩
def aP (p:Prd) (c:Cmd) (x:wA) (left:Int):List Rep:=x.fills.flatMap (fun f=>pU p x (zBz f))++pU p x ⟨3,c.id,c.inst,c.side,x.price,x.qty,left,0⟩
def nI (p:Prd) (c:Cmd):List wA→Int→List Rep
 |[],_=>[]
 |x::l,left=>aP p c x (left-x.qty)++nI p c l (left-x.qty)
structure MkX where
 B:List (List zI)
 U:List Int
 R:List Rep
def zMe (U:List Int) (id:Int):List Int:=if id∈U then U else U++[id]
def aL (p:Prd) (B:List (List zI)) (U:List Int) (c:Cmd):MkX:=match j6 p B c.inst (decide (c.side=2)) c.price c.qty with
 |⟨ts,left,B'⟩=>⟨if left≠0∧c.time=1 then(zYs p B' c.inst c.id c.side c.price left).1 else B',zMe U c.id,
  (⟨1,c.id,c.inst,c.side,c.price,c.qty,c.qty,0⟩::nI p c ts c.qty)++if left≠0∧c.time≠1 then[⟨4,c.id,c.inst,c.side,c.price,left,0,0⟩]else[]⟩
def Cmd.lst (c:Cmd):Int:=if c.time=3 then c.qty else c.least
def sE (p:Prd) (B:List (List zI)) (U:List Int) (c:Cmd):MkX:=
 if p.price c.inst c.price≠0 then⟨B,U,nX c (p.price c.inst c.price)⟩
 else if c.id∈U then⟨B,U,nX c 25⟩
 else if 250≤zRh B then⟨B,U,nX c 13⟩
 else if 0<c.lst∧c.qty-(j6 p B c.inst (decide (c.side=2)) c.price c.qty).left<c.lst then⟨B,U,nX c 28⟩
 else if c.time=1∧bJ p B c.inst (decide (c.side=2)) c.price c.qty=true then⟨B,U,nX c 23⟩
 else aL p B U c
def aF (B:List (List zI)) (U:List Int) (id inst:Int) (o:zI):MkX:=⟨(kK B id o.qty).1,U,[⟨4,id,inst,o.side,o.price,o.qty,0,0⟩]⟩
def zBw (B:List (List zI)) (U:List Int) (id q inst:Int) (o:zI):MkX:=⟨(kK B id q).1,U,[⟨5,id,inst,o.side,o.price,q,o.qty-q,0⟩]⟩
def bV (p:Prd) (B:List (List zI)) (U:List Int) (c:Cmd) (inst:Int) (o:zI):MkX:=
 if p.price inst c.price≠0 then⟨B,U,nX c (p.price inst c.price)⟩
 else if c.price=o.price∧c.qty≤o.qty then zBw B U c.id (o.qty-c.qty) inst o
 else if bJ p (kK B c.id o.qty).1 inst (decide (o.side=2)) c.price c.qty=true then⟨B,U,nX c 23⟩
 else
  let x:=aF B U c.id inst o
  let y:=aL p x.B U ⟨1,c.id,inst,o.side,c.price,c.qty,0,1,[]⟩
  ⟨y.B,y.U,x.R++y.R⟩
def doF (p:Prd) (B:List (List zI)) (U:List Int) (c:Cmd):MkX:=
 if c.right≠0 then⟨B,U,nX c c.right⟩
 else if c.kind=1 then sE p B U c
 else if(yG B c.id).2.2=false then⟨B,U,nX c 26⟩
 else if c.kind=4 then bV p B U c (yG B c.id).1 (yG B c.id).2.1
 else if c.kind=2∨(yG B c.id).2.1.qty≤c.qty then aF B U c.id (yG B c.id).1 (yG B c.id).2.1
 else zBw B U c.id c.qty (yG B c.id).1 (yG B c.id).2.1
structure Mkt.Rep (m:Mkt) (p:Prd) (B:List (List zI)) (U:List Int):Prop where
 ep:m.p=p
 s:m.s.Rep p B
 u:m.used=U
@[reducible] def zAs (m:Mkt):List AObj:=[yZ m 0,yZ m 1,yZ m 2,yZ m 3,yZ m 4]
@[reducible] def yJi (x:wA):V:= .agg [zA x.price,zA x.qty,yF x.implied,roV 6 (x.fills.map yR)]
@[reducible] def tRp:Nat:=40
@[reducible] def zWi (l:List Rep):AObj:= .own tRp 8 (l.map qB)
structure RjI where
 c:Cmd
 why:Int
def rejC:Con:=con1 RjI (fun i=>[zLy i.c,zA i.why]) (fun _=>[]) (fun _=>True) (fun _=> .own 0) (fun i=>[zWi (nX i.c i.why)])
structure MsI where
 m:Mkt
 r:Rep
 near:Int
 far:Int
@[reducible] def Mkt.fine (m:Mkt):Prop:=m.p.check=0∧m.p.small
def mspreadC:Con:=con1 MsI (fun i=>[.nm 0 0,yTx i.r,zA i.near,zA i.far]) (fun i=>zAs i.m) (fun i=>i.m.fine∧(i.r.side=1∨i.r.side=2)) (fun _=> .own 5) (fun i=>zAs i.m++[zWi (zGt i.m.p i.r i.near i.far)])
structure MiN where
 m:Mkt
 inst:Int
def misC:Con:=con1 MiN (fun i=>[.nm 0 0,zA i.inst]) (fun i=>zAs i.m) (fun i=>i.m.fine) (fun i=>yF (i.m.p.legs i.inst).2.2) (fun i=>zAs i.m)
structure OfI where
 x:wA
 k:Int
@[reducible] def zSs (x:wA) (n:Nat):List AObj:=[.cells [zA x.price,zA x.qty,yF x.implied,.own n] 260,.fro 6 (x.fills.map yR)]
def ofC:Con:=con1 OfI (fun i=>[zA i.k,.nm 0 0]) (fun i=>zSs i.x 1) (fun i=>i.x.fills.length≤1000000) (fun i=>zA (ofF i.x i.k)) (fun i=>zSs i.x 1)
def ofA:List SAnn:=[{ι:=Nat,slots:=fun j=>[(9,zA j)],rows:=fun _=>[]}]
structure MpI where
 m:Mkt
 inst:Int
 x:wA
def mpricesC:Con:=con1 MpI (fun i=>[.nm 0 0,zA i.inst,yJi i.x]) (fun i=>zAs i.m) (fun i=>i.m.fine∧yO i.x.price∧i.x.fills.length≤1000000) (fun i=> .tup [zA (wJ i.m.p i.inst i.x).1,zA (wJ i.m.p i.inst i.x).2]) (fun i=>zAs i.m)
structure StI' where
 m:Mkt
 c:Cmd
 x:wA
 left:Int
def StI'.out (i:StI') (j:Nat):List Rep:=(i.x.fills.take j).flatMap fun f=>pU i.m.p i.x (zBz f)
def mstepC:Con:=con1 StI' (fun i=>[.nm 0 0,zLy i.c,yJi i.x,zA i.left]) (fun i=>zAs i.m) (fun i=>i.m.fine∧yO i.x.price∧i.x.fills.length≤1000000∧(i.c.side=1∨i.c.side=2)∧∀f∈i.x.fills,f.side=1∨f.side=2) (fun _=> .own 5) (fun i=>zAs i.m++[zWi (aP i.m.p i.c i.x i.left)])
def yLa (i:StI'):List SAnn:=[{ι:=Nat,slots:=fun j=>[(9,.nm 0 0),(17,zA j)],rows:=fun j=>[.cells [.own 1] 61,zWi (i.out j)]}]
end Sx
