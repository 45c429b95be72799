/- Texts of ours, one behind the other: a walk that the kernel reckons, and contracts of functions. No condition. -/
import Derived.Test.YthkofaanekmpmaaGreatX7
namespace Sx
set_option linter.unusedVariables false
set_option maxRecDepth 100000
open Go Cv Go.Proofs
def zCd (a:Nat→Prop) (b:Nat) (c:Nat→Nat) (d:Nat) (e:BkL) (f:ArN):Prop:=a b∧c b<c d∧Sx.AObj.cells (vK (jB 0 1 6) [V.nm 1 0,V.own 2,V.own 3,V.mp 4,zA e.b.top1,zA e.b.top2,V.own 5,yG e.b.has1,yG e.b.has2]) (299:TypeId)=Sx.AObj.cells (vK (jB 0 1 6) [V.nm 1 0,V.own 2,V.own 3,V.mp 4,zA e.b.top1,zA e.b.top2,V.own 5,yG e.b.has1,yG e.b.has2]) (299:TypeId)∧AObj.adt Arena 3 zG f.a=AObj.adt Arena 3 zG e.b.a∧AObj.own 304 2 (List.map zC e.b.buys)=AObj.own 304 2 (List.map zC e.b.buys)∧AObj.own 304 2 (List.map zC e.b.sells)=AObj.own 304 2 (List.map zC e.b.sells)∧Sx.AObj.map (atE e.b.at_)=Sx.AObj.map (atE e.b.at_)∧AObj.own 3 1 (iE e.b.spare)=AObj.own 3 1 (iE e.b.spare)
def cZ (a:Nat) (b:BkL):=(List.take a (uS b.L (zD false)))
def yKf (i:BkL):Prop:=
 ∃(a:Int),a=zD false∧True∧∀(b:Unit),True→cnd (qS a) (∃(c:Unit),i.b.top1=i.b.top1∧i.b.top2=i.b.top2∧i.b.has1=i.b.has1∧i.b.has2=i.b.has2∧AObj.adt Arena 3 zG i.b.a=AObj.adt Arena 3 zG i.b.a∧List.map zC i.b.buys=List.map zC i.b.buys∧List.map zC i.b.sells=List.map zC i.b.sells∧atE i.b.at_=atE i.b.at_∧iE i.b.spare=iE i.b.spare∧List.map lvE (uS i.L (zD false))=[]∧True) (∃(c:Nat),(↑c:Int)=0∧List.map lvE (cZ c i)=[]∧∃(d:Nat→Prop),∃(e:Nat→Nat),d c∧∀(f:Nat),d f→cnd (decide ((↑f:Int)<(↑(List.map zC i.b.buys).length:Int))) ((0≤(↑f:Int)∧(↑f:Int)<(↑(List.map zC i.b.buys).length:Int))∧∃(g:Int),∃(h:Int),zF (List.map zC i.b.buys) (↑f:Int).toNat 0 2=some [dI g,dI h]∧∃(j:ArN),j.n=h∧AObj.adt Arena 3 zG j.a=AObj.adt Arena 3 zG i.b.a∧True∧∀(k:Unit),True→h=h∧True∧g=g∧∃(l:ArN),l.n=h∧AObj.adt Arena 3 zG l.a=AObj.adt Arena 3 zG j.a∧True∧∀(m:Unit),True→g=g∧((List.map lvE (cZ f i)).length+1)*(24:Nat)≤(140737488355328:Nat)∧∃(n:Nat),(↑n:Int)=IntKind.i64.wrap ((↑f:Int)+1)∧List.map lvE (cZ n i)=List.map lvE (cZ f i)++[[dI g,dI ((j.a.qAt j.n).total),dI ((l.a.qAt l.n).count)]]∧zCd d n e f i l) (∃(g:Unit),i.b.top1=i.b.top1∧i.b.top2=i.b.top2∧i.b.has1=i.b.has1∧i.b.has2=i.b.has2∧AObj.adt Arena 3 zG i.b.a=AObj.adt Arena 3 zG i.b.a∧List.map zC i.b.buys=List.map zC i.b.buys∧List.map zC i.b.sells=List.map zC i.b.sells∧atE i.b.at_=atE i.b.at_∧iE i.b.spare=iE i.b.spare∧List.map lvE (uS i.L (zD false))=List.map lvE (cZ f i)∧True))
def bF (a:Nat) (b:BkL):=(List.take a (uS b.L (zD true)))
def yKn (i:BkL):Prop:=
 ∃(a:Int),a=zD true∧True∧∀(b:Unit),True→cnd (qS a) (∃(c:Unit),i.b.top1=i.b.top1∧i.b.top2=i.b.top2∧i.b.has1=i.b.has1∧i.b.has2=i.b.has2∧AObj.adt Arena 3 zG i.b.a=AObj.adt Arena 3 zG i.b.a∧List.map zC i.b.buys=List.map zC i.b.buys∧List.map zC i.b.sells=List.map zC i.b.sells∧atE i.b.at_=atE i.b.at_∧iE i.b.spare=iE i.b.spare∧List.map lvE (uS i.L (zD true))=[]∧True) (∃(c:Nat),(↑c:Int)=0∧List.map lvE (bF c i)=[]∧∃(d:Nat→Prop),∃(e:Nat→Nat),d c∧∀(f:Nat),d f→cnd (decide ((↑f:Int)<(↑(List.map zC i.b.sells).length:Int))) ((0≤(↑f:Int)∧(↑f:Int)<(↑(List.map zC i.b.sells).length:Int))∧∃(g:Int),∃(h:Int),zF (List.map zC i.b.sells) (↑f:Int).toNat 0 2=some [dI g,dI h]∧∃(j:ArN),j.n=h∧AObj.adt Arena 3 zG j.a=AObj.adt Arena 3 zG i.b.a∧True∧∀(k:Unit),True→h=h∧True∧g=g∧∃(l:ArN),l.n=h∧AObj.adt Arena 3 zG l.a=AObj.adt Arena 3 zG j.a∧True∧∀(m:Unit),True→g=g∧((List.map lvE (bF f i)).length+1)*(24:Nat)≤(140737488355328:Nat)∧∃(n:Nat),(↑n:Int)=IntKind.i64.wrap ((↑f:Int)+1)∧List.map lvE (bF n i)=List.map lvE (bF f i)++[[dI g,dI ((j.a.qAt j.n).total),dI ((l.a.qAt l.n).count)]]∧zCd d n e f i l) (∃(g:Unit),i.b.top1=i.b.top1∧i.b.top2=i.b.top2∧i.b.has1=i.b.has1∧i.b.has2=i.b.has2∧AObj.adt Arena 3 zG i.b.a=AObj.adt Arena 3 zG i.b.a∧List.map zC i.b.buys=List.map zC i.b.buys∧List.map zC i.b.sells=List.map zC i.b.sells∧atE i.b.at_=atE i.b.at_∧iE i.b.spare=iE i.b.spare∧List.map lvE (uS i.L (zD true))=List.map lvE (bF f i)∧True))
def rL (a:Nat×Top→Prop) (b:Nat×Top) (c:MSt) (d:Nat) (e:Book):Prop:=a b∧AObj.own 3 1 [[dI 1],[dI 2]]=AObj.own 3 1 [[dI 1],[dI 2]]∧xM c 0=xM c 0∧AObj.objs 241 Book 6 zS (c.books.set (↑d:Int).toNat e) none=xM c 1∧xM c 2=xM c 2∧xM c 3=xM c 3∧xM c 4=xM c 4
def zFz (a:MSt) (b:Nat×Top) (c:Nat×Top→Prop) (d:Nat) (e:Book):Prop:=∃(f:Nat×Top),List.map zX (xO a f.fst f.snd)=List.map zX (xO a b.fst b.snd)∧rL c f a d e
def yDj (s:MSt):Prop:=
 (eU s)∧∃(a:Nat),(↑a:Int)=0∧List.map zX (xY s a)=List.replicate (↑s.books.length:Int).toNat [D.v (.bool false),D.v (.bool false),dI 0,dI 0,dI 0,dI 0]∧∃(b:Nat→Prop),∃(c:Nat→Nat),b a∧∀(d:Nat),b d→cnd (decide ((↑d:Int)<(↑s.books.length:Int))) ((0≤(↑d:Int)∧(↑d:Int)<(↑s.books.length:Int))∧(↑d:Int).toNat<s.books.length∧∃(e:Nat×Top),List.map zX (xO s e.fst e.snd)=List.map zX (xY s d)∧∃(f:Nat×Top→Prop),(((0:Int)≤(0:Int)∧0<(↑(2:Nat):Int))∧∃(g:Int),zF [[dI 1],[dI 2]] (Int.toNat 0) 0 1=some [dI g]∧∃(h:Book),s.books[(↑d:Int).toNat]?=some h∧∃(j:BkS),zD j.side=g∧z8 j.b=z8 h∧(wZ j)∧∀(k:Unit),True→∃(l:Book),z8 j.b=z8 l∧(↑d:Int).toNat=(↑d:Int).toNat∧(↑d:Int).toNat<s.books.length∧cnd (zV j).snd ((qM d s e)∧(qM d s e)∧(qM d s e)∧(↑d:Int).toNat<(v9 s e).length∧(bH d s e)∧(bH d s e)∧(zV j).fst.qty=(zV j).fst.qty∧(zV j).fst.price=(zV j).fst.price∧(↑d:Int).toNat<(c8 s e d).length∧(eF d s e j)∧(zV j).fst.qty=(zV j).fst.qty∧(↑d:Int).toNat<(dG s e d j).length∧∃(m:Nat×Top),List.map zX (xO s m.fst m.snd)=zH (dG s e d j) (↑d:Int).toNat ((0:Nat)+(4:Nat)+nat_lit 0*1) [dI (uI j)]∧rL f m s d l) (zFz s e f d l))∧∀(g:Nat×Top),f g→∃(h:Nat×Top),List.map zX (xO s h.fst h.snd)=List.map zX (xO s g.fst g.snd)∧∃(j:Nat×Top→Prop),((gZ)∧∃(k:Int),zF [[dI 1],[dI 2]] (IntKind.i64.wrap ((0:Int)+(1:Int))).toNat 0 1=some [dI k]∧∃(l:Book),s.books[(↑d:Int).toNat]?=some l∧∃(m:BkS),zD m.side=k∧z8 m.b=z8 l∧(wZ m)∧∀(n:Unit),True→∃(p:Book),z8 m.b=z8 p∧(↑d:Int).toNat=(↑d:Int).toNat∧(↑d:Int).toNat<s.books.length∧cnd (zV m).snd ((qM d s h)∧(qM d s h)∧(qM d s h)∧(↑d:Int).toNat<(v9 s h).length∧(c9 d s h)∧(c9 d s h)∧(zV m).fst.qty=(zV m).fst.qty∧(zV m).fst.price=(zV m).fst.price∧(↑d:Int).toNat<(bC s h d).length∧(eM d s h m)∧(zV m).fst.qty=(zV m).fst.qty∧(↑d:Int).toNat<(dP s h d m).length∧∃(q:Nat×Top),List.map zX (xO s q.fst q.snd)=zH (dP s h d m) (↑d:Int).toNat ((0:Nat)+(4:Nat)+(nat_lit 0+nat_lit 1) % Vtopst363.natAbs*1) [dI (uI m)]∧rL j q s d p) (zFz s h j d p))∧∀(k:Nat×Top),j k→∃(l:Nat),(↑l:Int)=IntKind.i64.wrap ((↑d:Int)+1)∧List.map zX (xY s l)=List.map zX (xO s k.fst k.snd)∧b l∧c l<c d∧xM s 0=xM s 0∧xM s 1=xM s 1∧xM s 2=xM s 2∧xM s 3=xM s 3∧xM s 4=xM s 4) (∃(e:Unit),sb s.p.code=sb s.p.code∧s.p.tick=s.p.tick∧s.p.low=s.p.low∧s.p.high=s.p.high∧s.p.wide=s.p.wide∧s.p.rule=s.p.rule∧s.p.top=s.p.top∧s.p.least=s.p.least∧s.p.part=s.p.part∧AObj.objs 241 Book 6 zS s.books none=xM s 1∧yW s.wh=yW s.wh∧AObj.fro 1 (iE s.p.months)=xM s 3∧AObj.fro 1 (iE s.p.settle)=xM s 4∧List.map zX s.tops=List.map zX (xY s d)∧True)
def zBp (a:MSt) (b:StI):Prop:=AObj.fro 1 (iE a.p.months)=AObj.fro 1 (iE b.s.p.months)∧AObj.fro 1 (iE a.p.settle)=AObj.fro 1 (iE b.s.p.settle)∧a.Rep b.p (kK b.B b.id b.q).fst
def zBk (a:MSt) (b:StI):Prop:=yW a.wh=yW b.s.wh∧zBp a b
def pS (a:StI) (b:Int) (c:Bool):Prop:=uB (Value.int IntKind.i64 a.id) (yW a.s.wh)=some [dI b]∧c=true∨uB (Value.int IntKind.i64 a.id) (yW a.s.wh)=none∧[dI b]=[dI 0]∧c=false
def aK (a:StI):Prop:=∀(b:Value×List D),b∈yW a.s.wh→like (Value.int IntKind.i64 a.id) b.fst=true
def yEx (i:StI):Prop:=
 (aK i)∧∃(a:Bool),∃(b:Int),(pS i b a)∧cnd (!a) (∃(c:MSt),(kK i.B i.id i.q).snd=26∧sb c.p.code=sb i.s.p.code∧c.p.tick=i.s.p.tick∧c.p.low=i.s.p.low∧c.p.high=i.s.p.high∧c.p.wide=i.s.p.wide∧c.p.rule=i.s.p.rule∧c.p.top=i.s.p.top∧c.p.least=i.s.p.least∧c.p.part=i.s.p.part∧AObj.objs 241 Book 6 zS c.books none=AObj.objs 241 Book 6 zS i.s.books none∧zBk c i) ((0≤b∧b<(↑i.s.books.length:Int))∧b.toNat<i.s.books.length∧∃(c:Book),i.s.books[b.toNat]?=some c∧∃(d:FlI),d.id=i.id∧d.qty=i.q∧z8 d.b=z8 c∧d.b.Rep d.L∧∀(e:Book),e.Rep (xV d.L d.id d.qty).fst→∃(f:Book),z8 e=z8 f∧b.toNat=b.toNat∧b.toNat<i.s.books.length∧(0≤b∧b<(↑(i.s.books.set b.toNat f).length:Int))∧b.toNat<(i.s.books.set b.toNat f).length∧∃(g:Book),(i.s.books.set b.toNat f)[b.toNat]?=some g∧∃(h:FlI),h.id=i.id∧z8 h.b=z8 g∧h.b.Rep h.L∧∀(j:Unit),True→∃(k:Book),z8 h.b=z8 k∧b.toNat=b.toNat∧b.toNat<(i.s.books.set b.toNat f).length∧cnd (!wJ h.L h.id) ((aK i)∧∃(l:MSt),(kK i.B i.id i.q).snd=(xV d.L d.id d.qty).snd∧sb l.p.code=sb i.s.p.code∧l.p.tick=i.s.p.tick∧l.p.low=i.s.p.low∧l.p.high=i.s.p.high∧l.p.wide=i.s.p.wide∧l.p.rule=i.s.p.rule∧l.p.top=i.s.p.top∧l.p.least=i.s.p.least∧l.p.part=i.s.p.part∧AObj.objs 241 Book 6 zS l.books none=AObj.objs 241 Book 6 zS ((i.s.books.set b.toNat f).set b.toNat k) none∧yW l.wh=lQ (Value.int IntKind.i64 i.id) (yW i.s.wh)∧zBp l i) (∃(l:MSt),(kK i.B i.id i.q).snd=(xV d.L d.id d.qty).snd∧sb l.p.code=sb i.s.p.code∧l.p.tick=i.s.p.tick∧l.p.low=i.s.p.low∧l.p.high=i.s.p.high∧l.p.wide=i.s.p.wide∧l.p.rule=i.s.p.rule∧l.p.top=i.s.p.top∧l.p.least=i.s.p.least∧l.p.part=i.s.p.part∧AObj.objs 241 Book 6 zS l.books none=AObj.objs 241 Book 6 zS ((i.s.books.set b.toNat f).set b.toNat k) none∧zBk l i))
set_option linter.unusedSimpArgs false
open Go Cv Go.Proofs
theorem yRl (i:BkL) (h:lad1C.cnd i):yKf i:=by
 obtain⟨Q,c,ht,hL⟩:i.b.Rep i.L:=h
 have hsm:=c.small
 obtain⟨⟨ha1,ha2⟩,hb1,hb2,hsp⟩:=id hsm
 have hlad:=c.lad (.inl rfl)
 rw[← hL]at hlad
 have hlad:uS i.L (zD false)=i.b.buys.map i.b.told:=hlad
 unfold yKf zCd cZ qS dI
 simp only[hlad,yWm]
 refine⟨1,rfl,trivial,fun _ _=>Cv.cnd.mk (fun e=>absurd e (by decide)) fun _=>⟨0,by(first|exact rfl|exact trivial),by(first|exact rfl|exact trivial),fun j=>j≤i.b.buys.length,fun j=>i.b.buys.length-j,yYa _,fun j hj=>zK (fun e=> ?_) (fun e=> ?_)⟩⟩
 ·obtain⟨r,hr⟩:=z6 (l:=i.b.buys) (i:=j) (by omega)
  have hi:=c.cnt
  refine⟨⟨by omega,by omega⟩,r.price,r.queue,elA hr (by simp[zC]) rfl,⟨i.b.a,r.queue⟩,by(first|exact rfl|exact trivial),by(first|exact rfl|exact trivial),trivial,fun _ _=>⟨by(first|exact rfl|exact trivial),by(first|exact rfl|exact trivial),by(first|exact rfl|exact trivial),⟨i.b.a,r.queue⟩,by(first|exact rfl|exact trivial),by(first|exact rfl|exact trivial),by(first|exact rfl|exact trivial),fun _ _=>⟨by(first|exact rfl|exact trivial),by simp only[yXg,yWm];omega,j+1,wjn (by omega),?_,by omega,by dsimp only;omega,by(repeat'(first|exact trivial|exact rfl|apply And.intro))⟩⟩⟩
  have hrt:(i.b.buys.map i.b.told)[j]? =some (i.b.told r):=by rw[yXj,hr];rfl
  rw[yXw,hrt];simp[lvE,Book.told]
 ·rw[yXc (by rw[yWm];omega)]
  exact⟨(),by(repeat'(first|exact trivial|exact rfl|apply And.intro))⟩
theorem yIu:lad1C.ok Tryz.prog 158:=okw mixed (gokc tJ (gokc zFp (gokc mO gok0))) 1 (fun _=>[]) (fun i=>yTo false i) [0] Tryz.func158 yRl
theorem yRs (i:BkL) (h:lad2C.cnd i):yKn i:=by
 obtain⟨Q,c,ht,hL⟩:i.b.Rep i.L:=h
 have hsm:=c.small
 obtain⟨⟨ha1,ha2⟩,hb1,hb2,hsp⟩:=id hsm
 have hlad:=c.lad (.inr rfl)
 rw[← hL]at hlad
 have hlad:uS i.L (zD true)=i.b.sells.map i.b.told:=hlad
 unfold yKn bF zCd qS dI
 simp only[hlad,yWm]
 refine⟨2,rfl,trivial,fun _ _=>Cv.cnd.mk (fun e=>absurd e (by decide)) fun _=>⟨0,by(first|exact rfl|exact trivial),by(first|exact rfl|exact trivial),fun j=>j≤i.b.sells.length,fun j=>i.b.sells.length-j,yYa _,fun j hj=>zK (fun e=> ?_) (fun e=> ?_)⟩⟩
 ·obtain⟨r,hr⟩:=z6 (l:=i.b.sells) (i:=j) (by omega)
  have hi:=c.cnt
  refine⟨⟨by omega,by omega⟩,r.price,r.queue,elA hr (by simp[zC]) rfl,⟨i.b.a,r.queue⟩,by(first|exact rfl|exact trivial),by(first|exact rfl|exact trivial),trivial,fun _ _=>⟨by(first|exact rfl|exact trivial),by(first|exact rfl|exact trivial),by(first|exact rfl|exact trivial),⟨i.b.a,r.queue⟩,by(first|exact rfl|exact trivial),by(first|exact rfl|exact trivial),by(first|exact rfl|exact trivial),fun _ _=>⟨by(first|exact rfl|exact trivial),by simp only[yXg,yWm];omega,j+1,wjn (by omega),?_,by omega,by dsimp only;omega,by(repeat'(first|exact trivial|exact rfl|apply And.intro))⟩⟩⟩
  have hrt:(i.b.sells.map i.b.told)[j]? =some (i.b.told r):=by rw[yXj,hr];rfl
  rw[yXw,hrt];simp[lvE,Book.told]
 ·rw[yXc (by rw[yWm];omega)]
  exact⟨(),by(repeat'(first|exact trivial|exact rfl|apply And.intro))⟩
theorem yHo:lad2C.ok Tryz.prog 158:=okw mixed (gokc tJ (gokc zFp (gokc mO gok0))) 1 (fun _=>[]) (fun i=>yTo true i) [0] Tryz.func158 yRs
theorem yNa:ladC.ok Tryz.prog 158:=fun j=>match j with
 |⟨b,L,false⟩=>yIu ⟨b,L⟩
 |⟨b,L,true⟩=>yHo ⟨b,L⟩
theorem yRf (s:MSt) (h:topsOC.cnd s):yDj s:=by
 obtain⟨h1,h2⟩:s.cntOk:=h
 unfold yDj uI qM wZ gZ eU bH c9 eF dG c8 eM dP dJ zV bC Vtopst363 v9 zFz rL dI
 have p48:(2:Int) ^ (48:Nat)=281474976710656:=by decide
 refine⟨⟨by omega,by omega,by omega,by rw[p48];omega⟩,0,rfl,?_,fun j=>j≤s.books.length,fun j=>s.books.length-j,by omega,fun j hj=>zK (fun hlt=> ?_) (fun hlt=> ?_)⟩
 ·rw[xY,yWw,List.map_replicate];rfl
 ·have hj':j<s.books.length:=by omega
  obtain⟨b,hb⟩:=z6 hj'
  have hc:=h2 b (yWu hb)
  simp only[yXf]
  have ha:∀x,(List.map zX (xO s j x)).length=s.books.length:=fun x=>by rw[yWm,zLc hj']
  have w1:IntKind.i64.wrap (0+1)=1:=by decide
  have w2:(0+1) % ((2:Int) ^ IntKind.i64.bits).natAbs=1:=by decide
  refine⟨⟨by omega,by omega⟩,by omega,(j,top0),by rw[zHl hj'],fun x=>x=(j,top0.buy (b.best b.buys)),⟨⟨by decide,by decide⟩,1,rfl,b,hb,⟨false,b⟩,rfl,rfl,hc,fun _ _=>⟨b,rfl,kp,by omega,?_⟩⟩,?_⟩
  ·refine Cv.cnd.mk (fun c=> ?_) (fun c=> ?_)
   ·have c:(b.best b.buys).2=true:=c
    have e1:=qT (s:=s) hj' (x:=top0) (y:={top0 with has1:=true}) (f:=0+0+0*1) (ds:=[D.v (.bool true)]) rfl
    have e2:=qT (s:=s) hj' (x:={top0 with has1:=true}) (y:={top0 with has1:=true,p1:=(b.best b.buys).1.price}) (f:=0+2+0*1) (ds:=[D.v (.int .i64 (b.best b.buys).1.price)]) rfl
    have e3:=qT (s:=s) hj' (x:={top0 with has1:=true,p1:=(b.best b.buys).1.price}) (y:={top0 with has1:=true,p1:=(b.best b.buys).1.price,q1:=(b.best b.buys).1.qty}) (f:=0+4+0*1) (ds:=[D.v (.int .i64 (b.best b.buys).1.qty)]) rfl
    dsimp only
    simp only[show b.side false=b.buys from rfl,e1,e2,e3,ha]
    (repeat'(first|exact rfl|exact trivial|assumption|apply And.intro|refine fun(_:Unit) (_:True)=>?_|refine Exists.intro () ?_|omega|(dsimp only;omega)))
    refine⟨(j,{top0 with has1:=true,p1:=(b.best b.buys).1.price,q1:=(b.best b.buys).1.qty}),rfl,?_,?_⟩
    ·rw[Top.buy,yWl c]
    ·(repeat'(first|exact rfl|exact trivial|assumption|apply And.intro|refine fun(_:Unit) (_:True)=>?_|refine Exists.intro () ?_|omega|(dsimp only;omega)))
     rw[fJ hb];rfl
   ·have c:(b.best b.buys).2=false:=c
    refine⟨(j,top0),rfl,?_,?_⟩
    ·rw[Top.buy,yWk (by rw[c];simp)]
    ·(repeat'(first|exact rfl|exact trivial|assumption|apply And.intro|refine fun(_:Unit) (_:True)=>?_|refine Exists.intro () ?_|omega|(dsimp only;omega)))
     rw[fJ hb];rfl
  ·rintro _ rfl
   rw[w1]
   generalize hx:top0.buy (b.best b.buys)=x
   have hx2:b.top=x.sell (b.best b.sells):=by rw[Book.top,hx]
   refine⟨(j,x),rfl,fun y=>y=(j,b.top),⟨⟨by decide,by decide⟩,2,rfl,b,hb,⟨true,b⟩,rfl,rfl,hc,fun _ _=>⟨b,rfl,kp,by omega,?_⟩⟩,?_⟩
   ·refine Cv.cnd.mk (fun c=> ?_) (fun c=> ?_)
    ·have c:(b.best b.sells).2=true:=c
     have e1:=qT (s:=s) hj' (x:=x) (y:={x with has2:=true}) (f:=0+0+1*1) (ds:=[D.v (.bool true)]) rfl
     have e2:=qT (s:=s) hj' (x:={x with has2:=true}) (y:={x with has2:=true,p2:=(b.best b.sells).1.price}) (f:=0+2+1*1) (ds:=[D.v (.int .i64 (b.best b.sells).1.price)]) rfl
     have e3:=qT (s:=s) hj' (x:={x with has2:=true,p2:=(b.best b.sells).1.price}) (y:={x with has2:=true,p2:=(b.best b.sells).1.price,q2:=(b.best b.sells).1.qty}) (f:=0+4+1*1) (ds:=[D.v (.int .i64 (b.best b.sells).1.qty)]) rfl
     dsimp only
     simp only[w2,show b.side true=b.sells from rfl,e1,e2,e3,ha]
     (repeat'(first|exact rfl|exact trivial|assumption|apply And.intro|refine fun(_:Unit) (_:True)=>?_|refine Exists.intro () ?_|omega|(dsimp only;omega)))
     refine⟨(j,{x with has2:=true,p2:=(b.best b.sells).1.price,q2:=(b.best b.sells).1.qty}),rfl,?_,?_⟩
     ·rw[hx2,Top.sell,yWl c]
     ·(repeat'(first|exact rfl|exact trivial|assumption|apply And.intro|refine fun(_:Unit) (_:True)=>?_|refine Exists.intro () ?_|omega|(dsimp only;omega)))
      rw[fJ hb];rfl
    ·have c:(b.best b.sells).2=false:=c
     refine⟨(j,x),rfl,?_,?_⟩
     ·rw[hx2,Top.sell,yWk (by rw[c];simp)]
     ·(repeat'(first|exact rfl|exact trivial|assumption|apply And.intro|refine fun(_:Unit) (_:True)=>?_|refine Exists.intro () ?_|omega|(dsimp only;omega)))
      rw[fJ hb];rfl
   ·rintro _ rfl
    refine⟨j+1,by rw[w64 (by omega)];rfl,?_⟩
    refine⟨by dsimp only;rw[zHb hb],?_⟩
    exact kp
 ·have hj:j≤s.books.length:=hj
  obtain rfl:j=s.books.length:=by omega
  have e:xY s s.books.length=s.tops:=by
   rw[xY,y2d,List.replicate_zero,yXi,yXc (by rw[MSt.tops,yWm];omega)]
  rw[e]
  exact kp
theorem zUe:topsOC.ok Tryz.prog 105:=okw mixed (gokc zIr gok0) 0 (fun s=>yKw s) (fun s=>yLv s) [] Tryz.func105 yRf
theorem yOv (i:StI) (h:stakeC.cnd i):yEx i:=by
 obtain⟨hR,hB⟩:i.s.Rep i.p i.B∧i.B.length≤1000:=h
 have hat:=hR.at_ i.id
 unfold yEx aK pS zBk zBp dI
 cases hi:aG i.B i.id with
 |none=>
  rw[hi]at hat
  refine⟨dK _ _,false,0,.inr ⟨by rw[nH,hat];rfl,rfl,rfl⟩,Cv.cnd.mk (fun _=>⟨i.s,?_⟩) (fun e=>absurd e (by decide))⟩
  have ht:kK i.B i.id i.q=(i.B,26):=by rw[kK,hi]
  rw[ht]
  exact⟨rfl,rfl,rfl,rfl,rfl,rfl,rfl,rfl,rfl,rfl,rfl,rfl,rfl,rfl,hR⟩
 |some k=>
  rw[hi]at hat
  obtain⟨L,hL,hh⟩:=hU hi
  have hk:=(yWn.1 hL).1
  obtain⟨b,hb⟩:=z6 (l:=i.s.books) (i:=k) (by rw[hR.bl];exact hk)
  have hbR:=hR.bk k b L hb hL
  have hbl:=hR.bl
  have hnd:=hbR.ords.2.1
  refine⟨dK _ _,true,k,.inl ⟨by rw[nH,hat];rfl,rfl⟩,Cv.cnd.mk (fun e=>absurd e (by decide)) (fun _=> ?_)⟩
  rw[yXf]
  refine⟨⟨by omega,by omega⟩,by omega,b,hb,⟨b,L,i.id,i.q⟩,rfl,rfl,rfl,hbR,fun b' hb'=> ?_⟩
  have hT:=hR.take (q:=i.q) hi hL hnd hb'
  have hk2:(kK i.B i.id i.q).2=(xV L i.id i.q).2:=by simp only[kK,hi,zT hL]
  refine⟨b',rfl,rfl,by omega,by rw[yXp];omega,by rw[yXp];omega,b',fE (by omega),⟨b',(xV L i.id i.q).1,i.id,0⟩,rfl,rfl,hb',fun _ _=>⟨b',rfl,rfl,by rw[yXp];omega,Cv.cnd.mk (fun e=>⟨dK _ _,?_⟩) (fun e=> ?_)⟩⟩
  ·have e:wJ (xV L i.id i.q).1 i.id=false:=by simpa using e
   rw[e,yWk (by decide)]at hT
   refine⟨{i.s with books:=i.s.books.set k b',wh:=z1n i.id i.s.wh},hk2,rfl,rfl,rfl,rfl,rfl,rfl,rfl,rfl,rfl,?_,(zXw _ _).symm,rfl,rfl,hT⟩
   rw[y0p]
  ·have e:wJ (xV L i.id i.q).1 i.id=true:=by simpa using e
   rw[e,yWl rfl]at hT
   refine⟨{i.s with books:=i.s.books.set k b',wh:=i.s.wh},hk2,rfl,rfl,rfl,rfl,rfl,rfl,rfl,rfl,rfl,?_,rfl,rfl,rfl,hT⟩
   rw[y0p]
theorem zCb:stakeC.ok Tryz.prog 171:=okw mixed (gokc yIg (gokc zWh gok0)) 0 (fun _=>[]) (fun _=>[]) [0] Tryz.func171 yOv
open Go Cv Go.Proofs
structure BOk (p:Prd) (B:List (List zJ)):Prop where
 pc:p.check=0
 ps:p.small
 bl:B.length=p.count
 pr:∀(k:Nat) (L:List zJ),B[k]? =some L→∀o∈L,p.price k o.price=0
def motherC:Con:=con1 Bool (fun b=>[zA (zD b)]) (fun _=>[]) (fun _=>True) (fun b=>zA (zD (!b))) (fun _=>[])
def cL (s:Bool) (p x:Int):Bool:=if s then decide (p≤x)else decide (x≤p)
structure GoI where
 s:Bool
 p:Int
 x:Int
def mgoodC:Con:=con1 GoI (fun i=>[zA (zD i.s),zA i.p,zA i.x]) (fun _=>[]) (fun _=>True) (fun i=>yG (cL i.s i.p i.x)) (fun _=>[])
def yR (p:Prd) (B:List (List zJ)) (inst:Int) (s:Int):Quote×Bool×Bool:=
 let bq:=zU (xR ⟨p,B.map qU,inst⟩ s) s
 let l:=bestL (B.getD inst.toNat []) s
 if(l.2 && !(bq.2 && btr s bq.1.price l.1.price))=true then(⟨l.1.price,l.1.qty,⟨0,0⟩,⟨0,0⟩⟩,false,true)else(bq.1,bq.2,bq.2)
structure NxI where
 s:MSt
 p:Prd
 B:List (List zJ)
 inst:Int
 sd:Bool
def nextC:Con:=con1 NxI (fun i=>[.nm 0 0,zA i.inst,zA (zD i.sd)]) (fun i=>[zE i.s]) (fun i=>i.s.Rep i.p i.B∧BOk i.p i.B∧0≤i.inst∧i.inst<i.B.length)
 (fun i=> .tup [zRw (yR i.p i.B i.inst (zD i.sd)).1,yG (yR i.p i.B i.inst (zD i.sd)).2.1,yG (yR i.p i.B i.inst (zD i.sd)).2.2]) (fun i=>[zE i.s])
structure cH where
 id:Int
 inst:Int
 side:Int
 price:Int
 qty:Int
 left:Int
 deriving DecidableEq
def yS (f:cH):List D:=[.v (.int .i64 f.id),.v (.int .i64 f.inst),.v (.int .i64 f.side),.v (.int .i64 f.price),.v (.int .i64 f.qty),.v (.int .i64 f.left)]
def xQ (inst s:Int):List zJ→List Int→List cH
 |o::os,k::ks=>if 0<k then⟨o.id,inst,s,o.price,k,o.qty-k⟩::xQ inst s os ks else xQ inst s os ks
 |_,_=>[]
def kJ (B:List (List zJ)) (fs:List cH):List (List zJ):=fs.foldl (fun B f=>(kK B f.id f.qty).1) B
def zUb (B:List (List zJ)) (inst s:Int):List zJ:=atL (B.getD inst.toNat []) s (bestL (B.getD inst.toNat []) s).1.price
def qQ (p:Prd) (B:List (List zJ)) (inst s q:Int):List cH:=xQ inst s (zUb B inst s) (qY ⟨p,zUb B inst s,q⟩)
structure TrI where
 s:MSt
 p:Prd
 B:List (List zJ)
 inst:Int
 sd:Bool
 q:Int
def TrI.os (i:TrI):List zJ:=zUb i.B i.inst (zD i.sd)
def TrI.sh (i:TrI):List Int:=qY ⟨i.p,i.os,i.q⟩
def TrI.fs (i:TrI) (j:Nat):List cH:=xQ i.inst (zD i.sd) (i.os.take j) (i.sh.take j)
def tradeC:Con where
 ι:=TrI
 pat:=fun i=>[.nm 0 0,.agg [zA i.inst,zA (zD i.sd)],zA i.q]
 pre:=fun i=>[zE i.s]
 cnd:=fun i=>i.s.Rep i.p i.B∧BOk i.p i.B∧0≤i.inst∧i.inst<i.B.length∧yV i.q
 alts:=fun i=>[{o:=MSt,res:=fun _=> .own 1,post:=fun s=>[zE s,.own 374 6 ((qQ i.p i.B i.inst (zD i.sd) i.q).map yS)],rel:=fun s=>s.Rep i.p (kJ i.B (qQ i.p i.B i.inst (zD i.sd) i.q))}]
def yOw (i:TrI):List SAnn:=[{ι:=Nat×MSt,slots:=fun j=>[(0,.nm 0 0),(11,.own 1),(44,zA j.1)],rows:=fun j=>[zE j.2,.own 374 6 ((i.fs j.1).map yS)]}]
open Go Cv Go.Proofs
def z5g (b:Bool):Prop:=
 ∃(a:Unit),(zD !b)=IntKind.i64.wrap (3-zD b)∧True
def yEr (i:GoI):Prop:=
 cnd (zD i.s==1) (cnd (decide (i.x≤i.p)) (∃(a:Unit),cL i.s i.p i.x=true∧True) (cnd (zD i.s==2) (∃(a:Unit),cL i.s i.p i.x=decide (i.x≥i.p)∧True) (∃(a:Unit),cL i.s i.p i.x=false∧True))) (cnd (zD i.s==2) (∃(a:Unit),cL i.s i.p i.x=decide (i.x≥i.p)∧True) (∃(a:Unit),cL i.s i.p i.x=false∧True))
def zFc (a:MSt) (b:NxI):Prop:=sb a.p.code=sb b.s.p.code∧True∧a.p.tick=b.s.p.tick∧a.p.low=b.s.p.low∧a.p.high=b.s.p.high∧a.p.wide=b.s.p.wide∧a.p.rule=b.s.p.rule∧a.p.top=b.s.p.top∧a.p.least=b.s.p.least∧a.p.part=b.s.p.part∧True∧True
def dN (a:BsI):Prop:=(a.s=1∨a.s=2)∧a.l.length≤1000000
def z7 (a:NxI):=(yR a.p a.B a.inst (zD a.sd))
def zJv (a:NxI) (b:MSt) (c:Book):Prop:=sb a.s.p.code=sb b.p.code∧a.s.p.tick=b.p.tick∧a.s.p.low=b.p.low∧a.s.p.high=b.p.high∧a.s.p.wide=b.p.wide∧a.s.p.rule=b.p.rule∧a.s.p.top=b.p.top∧a.s.p.least=b.p.least∧a.s.p.part=b.p.part∧AObj.objs 241 Book 6 zS a.s.books none=AObj.objs 241 Book 6 zS (b.books.set a.inst.toNat c) none∧yW a.s.wh=yW b.wh∧AObj.fro 1 (iE a.s.p.months)=AObj.fro 1 (iE b.p.months)∧AObj.fro 1 (iE a.s.p.settle)=AObj.fro 1 (iE b.p.settle)∧True
def zJq (a:NxI) (b:BsI) (c:MSt) (d:Book):Prop:=∃(e:Unit),(z7 a).fst.price=(zU b.l b.s).fst.price∧(z7 a).fst.qty=(zU b.l b.s).fst.qty∧(z7 a).fst.a.inst=(zU b.l b.s).fst.a.inst∧(z7 a).fst.a.side=(zU b.l b.s).fst.a.side∧(z7 a).fst.b.inst=(zU b.l b.s).fst.b.inst∧(z7 a).fst.b.side=(zU b.l b.s).fst.b.side∧(z7 a).snd.fst=(zU b.l b.s).snd∧(z7 a).snd.snd=(zU b.l b.s).snd∧zJv a c d
def zNh (a:NxI) (b:BkS) (c:MSt) (d:Book):Prop:=∃(e:Unit),(z7 a).fst.price=(zV b).fst.price∧(z7 a).fst.qty=(zV b).fst.qty∧(z7 a).fst.a.inst=0∧(z7 a).fst.a.side=0∧(z7 a).fst.b.inst=0∧(z7 a).fst.b.side=0∧(z7 a).snd.fst=false∧(z7 a).snd.snd=true∧zJv a c d
def zIl (a:tK) (b:NxI) (c:MSt):Prop:=∃(d:BsI),List.map zL d.l=List.map zL (xR a.i (zD a.s))∧d.s=zD b.sd∧(dN d)∧∀(e:Unit),True→(0≤b.inst∧b.inst<(↑c.books.length:Int))∧b.inst.toNat<c.books.length∧∃(f:Book),c.books[b.inst.toNat]?=some f∧∃(g:BkS),zD g.side=zD b.sd∧z8 g.b=z8 f∧(wZ g)∧∀(h:Unit),True→∃(j:Book),z8 g.b=z8 j∧b.inst.toNat=b.inst.toNat∧b.inst.toNat<c.books.length∧cnd (zV g).snd (cnd (zU d.l d.s).snd (∃(k:I3'),k.side=zD b.sd∧k.x=(zU d.l d.s).fst.price∧k.y=(zV g).fst.price∧True∧∀(l:Unit),True→cnd (!btr k.side k.x k.y) (zNh b g c j) (zJq b d c j)) (zNh b g c j)) (zJq b d c j)
def zTy (a:MSt) (b:NxI):Prop:=(zFc a b)∧∃(c:tK),sb c.i.p.code=sb b.s.p.code∧iE c.i.p.months=iE a.p.months∧c.i.p.tick=b.s.p.tick∧c.i.p.low=b.s.p.low∧c.i.p.high=b.s.p.high∧c.i.p.wide=b.s.p.wide∧c.i.p.rule=b.s.p.rule∧c.i.p.top=b.s.p.top∧c.i.p.least=b.s.p.least∧c.i.p.part=b.s.p.part∧iE c.i.p.settle=iE a.p.settle∧List.map zX c.i.tops=List.map zX a.tops∧c.i.inst=b.inst∧zD c.s=zD b.sd∧(kC c)∧∀(d:Unit),True→zIl c b a
def f7 (a:MSt):Prop:=a.books.length≤1000000∧∀(b:Book),b∈a.books→∀(c:cF),c∈b.a.queues→(-9223372036854775808)≤c.count∧c.count≤9223372036854775807
def yKi (i:NxI):Prop:=
 (∃(a:MSt),sb a.p.code=sb i.s.p.code∧a.p.tick=i.s.p.tick∧a.p.low=i.s.p.low∧a.p.high=i.s.p.high∧a.p.wide=i.s.p.wide∧a.p.rule=i.s.p.rule∧a.p.top=i.s.p.top∧a.p.least=i.s.p.least∧a.p.part=i.s.p.part∧AObj.objs 241 Book 6 zS a.books none=AObj.objs 241 Book 6 zS i.s.books none∧yW a.wh=yW i.s.wh∧AObj.fro 1 (iE a.p.months)=AObj.fro 1 (iE i.s.p.months)∧AObj.fro 1 (iE a.p.settle)=AObj.fro 1 (iE i.s.p.settle)∧(f7 a)∧∀(b:Unit),True→(zFc a i)∧(∃(c:tK),sb c.i.p.code=sb i.s.p.code∧iE c.i.p.months=iE a.p.months∧c.i.p.tick=i.s.p.tick∧c.i.p.low=i.s.p.low∧c.i.p.high=i.s.p.high∧c.i.p.wide=i.s.p.wide∧c.i.p.rule=i.s.p.rule∧c.i.p.top=i.s.p.top∧c.i.p.least=i.s.p.least∧c.i.p.part=i.s.p.part∧iE c.i.p.settle=iE a.p.settle∧List.map zX c.i.tops=List.map zX a.tops∧c.i.inst=i.inst∧zD c.s=zD i.sd∧(kC c)∧∀(d:Unit),True→(zIl c i a)∧zIl c i a)∧zTy a i)∧(sb i.s.p.code=sb i.s.p.code∧True∧i.s.p.tick=i.s.p.tick∧i.s.p.low=i.s.p.low∧i.s.p.high=i.s.p.high∧i.s.p.wide=i.s.p.wide∧i.s.p.rule=i.s.p.rule∧i.s.p.top=i.s.p.top∧i.s.p.least=i.s.p.least∧i.s.p.part=i.s.p.part∧True∧True)∧∃(a:MSt),sb a.p.code=sb i.s.p.code∧a.p.tick=i.s.p.tick∧a.p.low=i.s.p.low∧a.p.high=i.s.p.high∧a.p.wide=i.s.p.wide∧a.p.rule=i.s.p.rule∧a.p.top=i.s.p.top∧a.p.least=i.s.p.least∧a.p.part=i.s.p.part∧AObj.objs 241 Book 6 zS a.books none=AObj.objs 241 Book 6 zS i.s.books none∧yW a.wh=yW i.s.wh∧AObj.fro 1 (iE a.p.months)=AObj.fro 1 (iE i.s.p.months)∧AObj.fro 1 (iE a.p.settle)=AObj.fro 1 (iE i.s.p.settle)∧(f7 a)∧∀(b:Unit),True→zTy a i
def aE (a:AtI):=(List.map wT (atL a.L (zD a.s) a.price))
def zFk (a:Nat×MSt→Prop) (b:Nat×MSt) (c:Nat×MSt→Nat) (d:Nat×MSt) (e:AlI) (f:AtI) (g:BkS) (h:TrI):Prop:=a b∧c b<c d∧AObj.own 2 1 (iE (qY e))=AObj.own 2 1 (iE (qY e))∧AObj.fro 5 (aE f)=AObj.fro 5 (aE f)∧Sx.AObj.cells [V.d (dI (dJ g)),V.d (dI (uI g)),V.d (dI ((zV g).fst.count))] 41=Sx.AObj.cells [V.d (dI (dJ g)),V.d (dI (uI g)),V.d (dI ((zV g).fst.count))] 41∧Sx.AObj.cells [V.d (dI h.inst),V.d (dI (zD h.sd))] 256=Sx.AObj.cells [V.d (dI h.inst),V.d (dI (zD h.sd))] 256∧AObj.fro 1 (iE h.s.p.months)=AObj.fro 1 (iE h.s.p.months)∧AObj.fro 1 (iE h.s.p.settle)=AObj.fro 1 (iE h.s.p.settle)
def gF (a:TrI):=(qQ a.p a.B a.inst (zD a.sd) a.q)
def fY (a:TrI):=(kJ a.B (gF a))
def yEo (i:TrI):Prop:=
 (0≤i.inst∧i.inst<(↑i.s.books.length:Int))∧i.inst.toNat<i.s.books.length∧∃(a:Book),i.s.books[i.inst.toNat]?=some a∧∃(b:BkS),zD b.side=zD i.sd∧z8 b.b=z8 a∧(wZ b)∧∀(c:Unit),True→∃(d:Book),z8 b.b=z8 d∧i.inst.toNat=i.inst.toNat∧i.inst.toNat<i.s.books.length∧∃(e:Book),(i.s.books.set i.inst.toNat d)[i.inst.toNat]?=some e∧∃(f:AtI),zD f.s=zD i.sd∧f.price=(zV b).fst.price∧z8 f.b=z8 e∧f.b.Rep f.L∧∀(g:Unit),True→∃(h:Book),z8 f.b=z8 h∧i.inst.toNat=i.inst.toNat∧i.inst.toNat<(i.s.books.set i.inst.toNat d).length∧∃(j:AlI),sb j.p.code=sb i.s.p.code∧iE j.p.months=iE i.s.p.months∧j.p.tick=i.s.p.tick∧j.p.low=i.s.p.low∧j.p.high=i.s.p.high∧j.p.wide=i.s.p.wide∧j.p.rule=i.s.p.rule∧j.p.top=i.s.p.top∧j.p.least=i.s.p.least∧j.p.part=i.s.p.part∧iE j.p.settle=iE i.s.p.settle∧List.map wT j.l=List.map wT (atL f.L (zD f.s) f.price)∧j.q=i.q∧(j.l.length≤1000∧((-9223372036854775808)≤j.q∧j.q≤9223372036854775807)∧((-9223372036854775808)≤j.p.least∧j.p.least≤9223372036854775807)∧((-9223372036854775808)≤j.p.top∧j.p.top≤9223372036854775807)∧(-9223372036854775808)≤j.p.part∧j.p.part≤9223372036854775807)∧∀(k:Unit),True→∃(l:Nat×MSt),(↑l.fst:Int)=0∧sb l.snd.p.code=sb i.s.p.code∧l.snd.p.tick=i.s.p.tick∧l.snd.p.low=i.s.p.low∧l.snd.p.high=i.s.p.high∧l.snd.p.wide=i.s.p.wide∧l.snd.p.rule=i.s.p.rule∧l.snd.p.top=i.s.p.top∧l.snd.p.least=i.s.p.least∧l.snd.p.part=i.s.p.part∧AObj.objs 241 Book 6 zS l.snd.books none=AObj.objs 241 Book 6 zS ((i.s.books.set i.inst.toNat d).set i.inst.toNat h) none∧yW l.snd.wh=yW i.s.wh∧AObj.fro 1 (iE l.snd.p.months)=AObj.fro 1 (iE i.s.p.months)∧AObj.fro 1 (iE l.snd.p.settle)=AObj.fro 1 (iE i.s.p.settle)∧List.map yS (i.fs l.fst)=[]∧∃(m:Nat×MSt→Prop),∃(n:Nat×MSt→Nat),m l∧∀(p:Nat×MSt),m p→cnd (decide ((↑p.fst:Int)<(↑(iE (qY j)).length:Int))) ((0≤(↑p.fst:Int)∧(↑p.fst:Int)<(↑(iE (qY j)).length:Int))∧∃(q:Int),zF (iE (qY j)) (↑p.fst:Int).toNat 0 1=some [dI q]∧cnd (decide (q>0)) ((0≤(↑p.fst:Int)∧(↑p.fst:Int)<(↑(aE f).length:Int))∧∃(r:Int),∃(s:Int),∃(t:Int),∃(u:Int),∃(v:Bool),zF (aE f) (↑p.fst:Int).toNat 0 5=some [dI r,dI s,dI t,dI u,D.v (.bool v)]∧∃(w:StI),w.id=r∧w.q=q∧zE w.s=zE p.snd∧(w.s.Rep w.p w.B∧w.B.length≤1000)∧∀(x:MSt),x.Rep w.p (kK w.B w.id w.q).fst→((List.map yS (i.fs p.fst)).length+1)*(48:Nat)≤(140737488355328:Nat)∧∃(y:Nat×MSt),(↑y.fst:Int)=IntKind.i64.wrap ((↑p.fst:Int)+1)∧zE y.snd=zE x∧List.map yS (i.fs y.fst)=List.map yS (i.fs p.fst)++[[dI r,dI i.inst,dI (zD i.sd),dI t,dI q,dI (IntKind.i64.wrap (u-q))]]∧zFk m y n p j f b i) (∃(r:Nat×MSt),(↑r.fst:Int)=IntKind.i64.wrap ((↑p.fst:Int)+1)∧zE r.snd=zE p.snd∧List.map yS (i.fs r.fst)=List.map yS (i.fs p.fst)∧zFk m r n p j f b i)) (∃(q:MSt),zE q=zE p.snd∧List.map yS (gF i)=List.map yS (i.fs p.fst)∧q.Rep i.p (fY i))
open Go Cv Go.Proofs
theorem sS {p:Prd} (hc:p.check=0) {k v:Int} (h:p.price k v=0): -2000000≤v∧v≤2000000:=by
 have ok:=jM hc
 have:=ok.b1
 have:=ok.b2
 have:=ok.b3
 have:=ok.b4
 have:=ok.b5
 rw[Prd.price]at h
 by_cases c1:p.count=0
 ·rw[yWl c1]at h;cases h
 by_cases c2:k<0∨(p.count:Int)≤k
 ·rw[yWk c1,yWl c2]at h;cases h
 cases c3:qK p.tick v with
 |true=>rw[yWk c1,yWk c2,yWl c3]at h;cases h
 |false=>
  rw[yWk c1,yWk c2,yWk (by rw[c3];decide)]at h
  by_cases c4:(p.months.length:Int)≤k
  ·simp only[yWl c4]at h
   by_cases c5:v< -p.wide∨p.wide<v
   ·rw[yWl c5]at h;cases h
   ·omega
  ·simp only[yWk c4]at h
   by_cases c5:v<p.low∨p.high<v
   ·rw[yWl c5]at h;cases h
   ·omega
theorem zIh {t:Int} (k:Int):qK t (t*k)=false:=by
 simp[qK,Int.mul_tmod_right]
theorem zYa (x:Prd):(g7 x).small:=by
 have:=yEu x
 refine⟨by simp[g7],?_,?_⟩
 ·show(qZ _).length≤_
  rw[sE];omega
 ·show(qE _ _).length≤_
  rw[aW];omega
theorem zVj (x:Prd):(g7 x).check=0:=by
 have ht:=zWo x
 have hn:=yEu x
 have hw:=xI (n:=x.wide) (lo:=0) (hi:=60) (by omega)
 have hr:=xI (n:=x.rule) (lo:=0) (hi:=2) (by omega)
 have ho:=xI (n:=x.top) (lo:=0) (hi:=9) (by omega)
 have hl:=xI (n:=x.least) (lo:=0) (hi:=4) (by omega)
 have hp:=xI (n:=x.part) (lo:=0) (hi:=100) (by omega)
 have h1:j5 (g7 x).code=true:=by show j5 [206,169]=true;decide+kernel
 obtain⟨k,hk,hk1⟩:∃k:Nat,(kN x).toNat=k∧(2≤k∧k≤5):=⟨_,rfl,by omega⟩
 have h2:xE (g7 x).months=true:=by
  show xE (qZ (kN x).toNat)=true
  rw[hk]
  have:k=2∨k=3∨k=4∨k=5:=by omega
  rcases this with rfl|rfl|rfl|rfl<;>decide
 have h3:qJ (g7 x)=true:=by
  have a:qK (yF x) (-20*yF x)=false:=by rw[Int.mul_comm];exact zIh _
  have b:qK (yF x) (100*yF x)=false:=by rw[Int.mul_comm];exact zIh _
  have c:(qE (yF x) (kN x).toNat).any (qK (yF x))=false:=by
   rw[y2r]
   intro y hy
   obtain⟨j,_,rfl⟩:=yXm.1 hy
   rw[zIh];decide
  simp only[qJ,g7,a,b,c,zIh,y1r,Bool.and_true,yXa]
  exact⟨yXb (by omega),yXb (by omega)⟩
 have mw:=zKb (a:=yF x) (b:=5+zI x.wide 0 60) (m:=yF x) (n:=65) (by omega) (by omega)
 have h4:qC (g7 x)=false:=by
  simp only[qC,g7,y0x]
  exact⟨⟨⟨⟨yWx (by omega),yWx (by omega)⟩,yWx (by omega)⟩,yWx (by omega)⟩,yWx (by omega)⟩
 have h5:xG (g7 x)=false:=by
  have e:(qE (yF x) (kN x).toNat).length=(qZ (kN x).toNat).length:=by rw[aW,sE]
  have ne:qE (yF x) (kN x).toNat≠[]:=by
   intro hc
   have:=aW (yF x) (kN x).toNat
   rw[hc]at this
   simp at this
   omega
  have bd:∀y∈qE (yF x) (kN x).toNat,0≤y∧y≤yF x*15:=by
   intro y hy
   obtain⟨j,hj,rfl⟩:=yXm.1 hy
   have:=yZr.1 hj
   exact zKb (by omega) (by omega)
  have m1:=bd _ (zWk ne)
  have m2:=bd _ (zVp ne)
  simp only[xG,g7,e,ne_eq,not_true_eq_false,decide_false,y2j,y0x]
  exact⟨yWx (by omega),yWx (by omega)⟩
 have h6:kA (g7 x)=false:=by
  simp only[kA,g7,y0x]
  exact⟨yWx (by omega),yWx (by omega)⟩
 have h7:xU (g7 x)=false:=by
  simp only[xU,g7,y0x]
  exact⟨⟨⟨⟨⟨yWx (by omega),yWx (by omega)⟩,yWx (by omega)⟩,yWx (by omega)⟩,yWx (by omega)⟩,yWx (by omega)⟩
 rw[Prd.check,h1,h2,h3,h4,h5,h6,h7]
 rfl
open Go Cv Go.Proofs
structure zTn (qs sh:List Int) (q:Int):Prop where
 len:sh.length=qs.length
 bd:∀n,0≤sh.getD n 0∧sh.getD n 0≤qs.getD n 0
 sum:sh.sum=q
theorem yCq:∀{l:List Int},(∀x∈l,0≤x)→0≤l.sum
 |[],_=>y0b 0
 |a::l,h=>by
  have:=yCq (l:=l) fun x hx=>h x (yWq _ hx)
  have:=h a yWr
  rw[yXy];omega
theorem z4f:∀{z:List (Int×Int)},(∀y∈z,0≤y.2∧y.2≤y.1)→(z.map (·.2)).sum≤(z.map (·.1)).sum
 |[],_=>y0b 0
 |a::l,h=>by
  have:=z4f (z:=l) fun x hx=>h x (yWq _ hx)
  have:=h a yWr
  rw[yWy,yWy,yXy,yXy];omega
theorem tP:∀(l:List Int) (q:Int),(∀x∈l,0≤x)→0≤q→q≤l.sum→zTn l (uM l q) q
 |[],q,_,h0,h1=>⟨rfl,fun n=>by simp[uM],by simp at h1;simp[uM];omega⟩
 |n::l,q,h,h0,h1=>by
  have hn:=h n yWr
  rw[yXy]at h1
  have:=yCq fun x hx=>h x (yWq _ hx)
  have ih:=tP l (q-min n q) (fun x hx=>h x (yWq _ hx)) (by omega) (by omega)
  refine⟨by rw[uM,yWs,yWs,ih.len],fun k=> ?_,by rw[uM,yXy,ih.sum];omega⟩
  cases k with
  |zero=>exact⟨by show 0≤min n q;omega,by show min n q≤n;omega⟩
  |succ k=>exact ih.bd k
theorem lT:∀(z:List (Int×Int)) (q:Int),(∀y∈z,0≤y.2∧y.2≤y.1)→0≤q→q≤(z.map (·.1)).sum-(z.map (·.2)).sum→(jY z q).length=z.length∧(∀n,0≤(jY z q).getD n 0∧(jY z q).getD n 0≤(z.map (·.1)).getD n 0)∧(jY z q).sum=(z.map (·.2)).sum+q
 |[],q,_,h0,h1=>⟨rfl,fun n=>by simp[jY],by simp at h1;simp[jY];omega⟩
 |(n,x)::r,q,h,h0,h1=>by
  have hn:=h (n,x) yWr
  simp only[yWy,yXy]at h1
  have:=z4f fun y hy=>h y (yWq _ hy)
  have ih:=lT r (q-min (n-x) q) (fun y hy=>h y (yWq _ hy)) (by omega) (by omega)
  refine⟨by rw[jY,yWs,yWs,ih.1],fun k=> ?_,by rw[jY,yXy,ih.2.2,yWy,yXy];omega⟩
  cases k with
  |zero=>exact⟨by show 0≤x+min (n-x) q;have:=hn.1;have:=hn.2;dsimp only at*;omega,by show x+min (n-x) q≤n;have:=hn.2;dsimp only at*;omega⟩
  |succ k=>exact ih.2.1 k
theorem yFg {l:List Int} {q:Int} (h1:l.length≤250) (h2:0≤q) (h3:∀x∈l,1≤x∧x≤1000000) (h4:q≤l.sum):yT l q=true:=by
 rw[yT,yXb h1,yXb h2,yXb h4]
 simp only[yZl,Bool.and_true,yZu,yXa,yYm]
 exact h3
theorem zRm {i:PlI} (h:yT i.l i.q=true) (hl:1≤i.least):zTn i.l (kR i) i.q:=by
 obtain⟨r1,r2,r3,r4⟩:=kW h
 rw[kR,yWl ⟨h,hl⟩]
 by_cases hne:i.l.length=0
 ·have e:i.l=[]:=yXn hne
  have hq:i.q=0:=by rw[e]at r4;simp at r4;omega
  have e0:i.p1=[]:=by rw[PlI.p1,e];rfl
  rw[e0,e,hq]
  exact⟨rfl,fun n=>by simp,rfl⟩
 ·obtain⟨_,_,f1,f2⟩:=zDm h (by omega)
  have hpl:=zYn i
  have m1:(i.l.zip i.p0).map (·.1)=i.l:=List.map_fst_zip (by omega)
  have m2:(i.l.zip i.p0).map (·.2)=i.p0:=List.map_snd_zip (by omega)
  have hp:=lT (i.l.zip i.p0) (i.q-i.p0.sum) (fun y hy=>by
   obtain⟨j,hj⟩:=yZd.1 hy
   rw[y1h]at hj
   exact f1 j _ _ hj.1 hj.2) (by omega) (by rw[m1,m2];omega)
  rw[m1,m2]at hp
  refine⟨?_,hp.2.1,?_⟩
  ·rw[PlI.p1,hp.1,List.length_zip,hpl,Nat.min_self]
  ·rw[PlI.p1,hp.2.2];omega
theorem zTl:∀{l:List Int} {k:Nat} {x:Int},k<l.length→(l.set k x).sum=l.sum+(x-l.getD k 0)
 |[],k,x,h=>absurd h (by simp)
 |a::l,0,x,_=>by
  show x+l.sum=a+l.sum+(x-a);omega
 |a::l,k+1,x,h=>by
  have:=zTl (l:=l) (k:=k) (x:=x) (by simpa using h)
  show a+(l.set k x).sum=a+l.sum+(x-l.getD k 0)
  omega
theorem zNa {l:List Int} {k n:Nat} {x:Int} (h:k<l.length):(l.set k x).getD n 0=if n=k then x else l.getD n 0:=by
 rw[yWt,yZe]
 by_cases e:k=n
 ·subst e;rw[yWl rfl,yWl h,yWl rfl];rfl
 ·rw[yWk e,yWk (fun e2=>e e2.symm),yWt]
theorem zVg {l:List Int}:∀(z:List (Nat×Int)) (o:List Int),(z.map (·.1)).Nodup→(∀y∈z,y.1<o.length∧0≤y.2∧o.getD y.1 0+y.2≤l.getD y.1 0)→(∀n,0≤o.getD n 0∧o.getD n 0≤l.getD n 0∧l.getD n 0≤1000000)→
 (z.foldl (fun o y=>o.set y.1 (IntKind.i64.wrap (o.getD y.1 0+y.2))) o).length=o.length∧(z.foldl (fun o y=>o.set y.1 (IntKind.i64.wrap (o.getD y.1 0+y.2))) o).sum=o.sum+(z.map (·.2)).sum∧∀n,0≤(z.foldl (fun o y=>o.set y.1 (IntKind.i64.wrap (o.getD y.1 0+y.2))) o).getD n 0∧(z.foldl (fun o y=>o.set y.1 (IntKind.i64.wrap (o.getD y.1 0+y.2))) o).getD n 0≤l.getD n 0
 |[],o,_,_,h=>⟨rfl,by simp,fun n=>⟨(h n).1,(h n).2.1⟩⟩
 |y::z,o,hn,hz,h=>by
  obtain⟨h1,h2,h3⟩:=hz y yWr
  rw[yWy,yZa]at hn
  have hw:IntKind.i64.wrap (o.getD y.1 0+y.2)=o.getD y.1 0+y.2:=by
   have:=h y.1
   exact w64 (by omega)
  rw[yZh,hw]
  have ih:=zVg (l:=l) z (o.set y.1 (o.getD y.1 0+y.2)) hn.2 (fun x hx=>by
   obtain⟨g1,g2,g3⟩:=hz x (yWq _ hx)
   have hne:x.1≠y.1:=fun e=>hn.1 (e▸yXq (f:=(·.1)) hx)
   rw[yXp,zNa h1,yWk hne]
   exact⟨g1,g2,g3⟩) (fun n=>by
   rw[zNa h1]
   split
   ·rename_i e
    rw[e]
    exact⟨by have:=h y.1;omega,h3,(h y.1).2.2⟩
   ·exact h n)
  refine⟨by rw[ih.1,yXp],?_,ih.2.2⟩
  rw[ih.2.1,zTl h1,yWy,yXy];omega
theorem zJw (l:List Int):(List.range l.length).map (fun n=>l.getD n 0)=l:=by
 apply yZn
 intro n
 rw[yXj]
 by_cases h:n<l.length
 ·rw[y1a h,yXu h,yYl,yWt,yXu h];rfl
 ·rw[yXr (by simpa using h),yXr (by omega)];rfl
theorem z5q {f g:Nat→Int}:∀l:List Nat,(l.map fun n=>f n-g n).sum=(l.map f).sum-(l.map g).sum
 |[]=>rfl
 |a::l=>by rw[yWy,yWy,yWy,yXy,yXy,yXy,z5q l];omega
theorem zLq {f:Nat→Int} {p:Nat→Bool}:∀{l:List Nat},(∀n∈l,p n=false→f n=0)→((l.filter p).map f).sum=(l.map f).sum
 |[],_=>rfl
 |a::l,h=>by
  have ih:=zLq (l:=l) fun n hn=>h n (yWq _ hn)
  rw[yWy,yXy]
  by_cases e:p a=true
  ·rw[y1n e,yWy,yXy,ih]
  ·rw[y1o e,ih,h a yWr (by simpa using e)];omega
theorem sC {i:RsI} (hl:i.l.length≤250) (ho:i.out.length=i.l.length) (hn:∀n,0≤i.out.getD n 0∧i.out.getD n 0≤i.l.getD n 0∧i.l.getD n 0≤1000000) (hq:0≤i.q∧i.q≤i.l.sum-i.out.sum) (hle:1≤i.least):
 zTn i.l (m9 i) (i.out.sum+i.q):=by
 have hidx:(i.idx i.l.length).length≤250:=y0j (y0a _ _) (by simpa using hl)
 have hmem:∀n∈i.idx i.l.length,n<i.l.length∧i.out.getD n 0<i.l.getD n 0:=by
  intro n hn
  obtain⟨a,b⟩:=yYp.1 hn
  exact⟨yZr.1 a,yYq b⟩
 have hls:(i.left i.l.length).sum=i.l.sum-i.out.sum:=by
  rw[RsI.left,RsI.idx,zLq,z5q,zJw]
  ·rw[← ho,zJw]
  ·intro n _ e
   have:=y1f e
   have:=hn n
   omega
 have hr:yT (i.left i.l.length) i.q=true:=by
  refine yFg (by rw[RsI.left,yWm];exact hidx) hq.1 (fun x hx=> ?_) (by omega)
  obtain⟨n,hm,rfl⟩:=yXm.1 hx
  have:=hmem n hm
  have:=hn n
  omega
 have hp:=zRm (i:=⟨i.left i.l.length,i.least,i.q⟩) hr hle
 have hpl:i.pl.length=(i.idx i.l.length).length:=by
  have:=hp.len
  rw[RsI.pl,this,RsI.left,yWm]
 have hnd:(i.idx i.l.length).Nodup:=List.nodup_range.sublist y2h
 have z1:((i.idx i.l.length).zip i.pl).map (·.1)=i.idx i.l.length:=List.map_fst_zip (by omega)
 have z2:((i.idx i.l.length).zip i.pl).map (·.2)=i.pl:=List.map_snd_zip (by omega)
 have hf:=zVg (l:=i.l) ((i.idx i.l.length).zip i.pl) i.out (by rw[z1];exact hnd) (fun y hy=>by
  obtain⟨j,hj⟩:=yZd.1 hy
  rw[y1h]at hj
  have hm:=hmem y.1 (yWu hj.1)
  have hb:=hp.bd j
  have e1:(kR ⟨i.left i.l.length,i.least,i.q⟩).getD j 0=y.2:=by
   rw[yWt]
   have:(kR ⟨i.left i.l.length,i.least,i.q⟩)[j]? =some y.2:=hj.2
   rw[this];rfl
  have e2:(i.left i.l.length).getD j 0=i.l.getD y.1 0-i.out.getD y.1 0:=by
   rw[yWt,RsI.left,yXj,hj.1];rfl
  dsimp only at hb
  rw[e1,e2]at hb
  exact⟨by omega,hb.1,by omega⟩) hn
 have hall:m9 i=((i.idx i.l.length).zip i.pl).foldl (fun o y=>o.set y.1 (IntKind.i64.wrap (o.getD y.1 0+y.2))) i.out:=by
  rw[m9,RsI.add,yXc (by rw[List.length_zip];omega)]
 rw[hall]
 refine⟨by rw[hf.1,ho],hf.2.2,?_⟩
 rw[hf.2.1,z2]
 have:=hp.sum
 rw[RsI.pl,this]
theorem z5h {l:List Int} (h:∀x∈l,1≤x∧x≤1000000) (n:Nat):0≤l.getD n 0∧l.getD n 0≤1000000:=by
 by_cases hn:n<l.length
 ·obtain⟨x,hx⟩:=z6 hn
  have:=h x (yWu hx)
  rw[zT hx];omega
 ·rw[yWt,yXr (by omega)];decide
theorem yNc (n k:Nat):(List.replicate n (0:Int)).getD k 0=0:=by
 rw[yWt,List.getElem?_replicate]
 split<;>rfl
theorem zKd (n:Nat):(List.replicate n (0:Int)).sum=0:=by
 induction n with
 |zero=>rfl
 |succ n ih=>rw[y0z,yXy,ih];rfl
theorem yMv {q part:Int} (hq:0≤q) (h0:0≤part) (h1:part≤100):0≤q*part / 100∧q*part / 100≤q:=by
 have h2:0≤q*part:=y2s hq h0
 have h3:q*part≤q*100:=y1m h1 hq
 constructor<;>omega
theorem zSm {p:Prd} (hc:p.check=0) {l:List zJ} {q:Int} (hr:yT (l.map (·.qty)) q=true):zTn (l.map (·.qty)) (qY ⟨p,l,q⟩) q:=by
 have ok:=jM hc
 obtain⟨r1,r2,r3,r4⟩:=kW hr
 have q1:=ok.q1
 have q3:=ok.q3
 have q5:=ok.q5
 have q6:=ok.q6
 have r5:=ok.r1
 have r6:=ok.r2
 have gb:=z5h r3
 have eqs:(AlI.qs ⟨p,l,q⟩)=l.map (·.qty):=rfl
 rw[qY]
 simp only[eqs]
 generalize l.map (·.qty)=qs at*
 by_cases c1:p.rule=1
 ·rw[yWl c1,uZ,yWl hr]
  exact tP _ _ (fun x hx=>by have:=r3 x hx;omega) r2 r4
 by_cases c2:p.rule=2
 ·rw[yWk c1,yWl c2,zCm,yWl ⟨hr,q3,q1⟩]
  rw[PsI.rs]
  dsimp only
  split
  ·rename_i ht
   have hk:(topI l).toNat<(List.replicate qs.length (0:Int)).length:=by simp;omega
   have hf:0≤PsI.first ⟨qs,topI l,p.top,p.least,q⟩∧PsI.first ⟨qs,topI l,p.top,p.least,q⟩≤qs.getD (topI l).toNat 0∧PsI.first ⟨qs,topI l,p.top,p.least,q⟩≤q:=by
    have:=gb (topI l).toNat
    simp only[PsI.first]
    omega
   have hs:((List.replicate qs.length (0:Int)).set (topI l).toNat (PsI.first ⟨qs,topI l,p.top,p.least,q⟩)).sum=PsI.first ⟨qs,topI l,p.top,p.least,q⟩:=by
    rw[zTl hk,zKd,yNc];omega
   have:=sC (i:=⟨qs,(List.replicate qs.length 0).set (topI l).toNat (PsI.first ⟨qs,topI l,p.top,p.least,q⟩),p.least,q-PsI.first ⟨qs,topI l,p.top,p.least,q⟩⟩) r1 (by simp) (fun n=>by
    dsimp only
    rw[zNa hk,yNc]
    have:=gb n
    split
    ·rename_i e;rw[e];exact⟨hf.1,hf.2.1,(gb _).2⟩
    ·omega) (by dsimp only;rw[hs];omega) q3
   dsimp only at this
   rw[hs]at this
   have e:PsI.first ⟨qs,topI l,p.top,p.least,q⟩+(q-PsI.first ⟨qs,topI l,p.top,p.least,q⟩)=q:=by omega
   rw[e]at this
   exact this
  ·have:=sC (i:=⟨qs,List.replicate qs.length 0,p.least,q⟩) r1 (by simp) (fun n=>by
    dsimp only
    rw[yNc]
    have:=gb n
    omega) (by dsimp only;rw[zKd];omega) q3
   dsimp only at this
   rw[zKd,Int.zero_add]at this
   exact this
 ·have c3:p.rule=3:=by omega
  rw[yWk c1,yWk c2,yWl c3,zBh,yWl ⟨hr,q5,q6,q3⟩]
  rw[SpI.rs]
  dsimp only
  obtain⟨d1,d2⟩:=yMv r2 q5 q6
  have hr2:yT qs (q*p.part / 100)=true:=yFg r1 d1 r3 (by omega)
  have hfs:=tP qs (q*p.part / 100) (fun x hx=>by have:=r3 x hx;omega) d1 (by omega)
  have e0:uZ qs (q*p.part / 100)=uM qs (q*p.part / 100):=by rw[uZ,yWl hr2]
  have:=sC (i:=⟨qs,uZ qs (q*p.part / 100),p.least,q-q*p.part / 100⟩) r1 (by dsimp only;rw[e0];exact hfs.len) (fun n=>by
   dsimp only
   rw[e0]
   exact⟨(hfs.bd n).1,(hfs.bd n).2,(gb n).2⟩) (by dsimp only;rw[e0,hfs.sum];omega) q3
  dsimp only at this
  rw[e0,hfs.sum]at this
  rw[e0]
  have e:q*p.part / 100+(q-q*p.part / 100)=q:=by omega
  rw[e]at this
  exact this
theorem zYu {p:Prd} {l:List zJ} {q:Int} (hr:yT (l.map (·.qty)) q=false):qY ⟨p,l,q⟩=[]:=by
 have eqs:(AlI.qs ⟨p,l,q⟩)=l.map (·.qty):=rfl
 rw[qY]
 simp only[eqs,uZ,zCm,zBh,hr]
 simp
open Go Cv Go.Proofs
theorem zQd:motherC.ok Tryz.prog 206:=okw (V:=z5g) mixed gok0 0 (fun _=>[]) (fun _=>[]) [] Tryz.func206 fun(b:Bool) _=>by
 unfold z5g
 cases b<;>exact⟨(),by decide,trivial⟩
theorem zYi:mgoodC.ok Tryz.prog 207:=okw (V:=yEr) mixed gok0 0 (fun _=>[]) (fun _=>[]) [] Tryz.func207 fun(i:GoI) _=>by
 obtain⟨s,p,x⟩:=i
 unfold yEr
 cases s
 ·refine Cv.cnd.mk (fun _=>zK (fun c=>⟨(),?_,trivial⟩) (fun c=>Cv.cnd.mk (fun e=>by simp[zD]at e) (fun _=>⟨(),?_,trivial⟩))) (fun e=>by simp[zD]at e)
  ·exact yXb c
  ·exact yWx c
 ·exact Cv.cnd.mk (fun e=>by simp[zD]at e) (fun _=>Cv.cnd.mk (fun _=>⟨(),rfl,trivial⟩) (fun e=>by simp[zD]at e))
theorem zUm {L:List zJ} {s:Int}:((bestL L s).2=true∧∃o∈L,o.side=s∧o.price=(bestL L s).1.price)∨(bestL L s=(⟨0,0,0⟩,false)∧∀o∈L,o.side≠s):=by
 rw[bestL]
 cases hl:uS L s with
 |nil=>
  refine .inr ⟨rfl,fun o ho e=> ?_⟩
  rw[uS]at hl
  cases hf:L.filter fun o=>decide (o.side=s)with
  |nil=>
   rw[y0f]at hf
   have:=hf o ho
   simp[e]at this
  |cons x y=>
   rw[hf,grp]at hl
   split at hl
   ·cases hl
   ·split at hl<;>cases hl
 |cons v vs=>
  refine .inl ⟨rfl,?_⟩
  rw[uS]at hl
  obtain⟨o,r,e1,e2⟩:=zNo hl
  have:o∈L.filter fun o=>decide (o.side=s):=by rw[e1];exact yWr
  rw[yYp]at this
  exact⟨o,this.1,by simpa using this.2,e2⟩
theorem zRy {L:List zJ} {s:Int} (h:∀o∈L,-2000000≤o.price∧o.price≤2000000): -2000000≤(bestL L s).1.price∧(bestL L s).1.price≤2000000:=by
 rcases zUm (L:=L) (s:=s)with⟨_,o,ho,_,e⟩|⟨e,_⟩
 ·rw[← e];exact h o ho
 ·rw[e];constructor<;>decide
theorem zIn (L:List zJ):(qU L).p1=(bestL L 1).1.price∧(qU L).q1=(bestL L 1).1.qty∧(qU L).has1=(bestL L 1).2∧(qU L).p2=(bestL L 2).1.price∧(qU L).q2=(bestL L 2).1.qty∧(qU L).has2=(bestL L 2).2:=by
 have h:∀s,(bestL L s).2=true∨bestL L s=(⟨0,0,0⟩,false):=fun s=>by
  rcases zUm (L:=L) (s:=s)with⟨h,_⟩|⟨h,_⟩
  ·exact .inl h
  ·exact .inr h
 rw[qU,Top.sell,Top.buy]
 rcases h 1 with h1|h1<;>rcases h 2 with h2|h2<;>simp[h1,h2,top0]
theorem BOk.prices {p:Prd} {B:List (List zJ)} (h:BOk p B) {k:Nat} {L:List zJ} (hL:B[k]? =some L):∀o∈L,-2000000≤o.price∧o.price≤2000000:=fun o ho=>sS h.pc (h.pr k L hL o ho)
theorem BOk.tops {p:Prd} {B:List (List zJ)} (h:BOk p B):vE (B.map qU):=by
 have:=xS p
 refine⟨by rw[yWm,h.bl];omega,fun t ht=> ?_⟩
 obtain⟨L,hL,rfl⟩:=yXm.1 ht
 obtain⟨k,hk⟩:=yZd.1 hL
 have b1:=zRy (s:=1) (h.prices hk)
 have b2:=zRy (s:=2) (h.prices hk)
 rw[(zIn L).1,(zIn L).2.2.2.1]
 exact⟨by constructor<;>omega,by constructor<;>omega⟩
theorem MSt.Rep.tops {s:MSt} {p:Prd} {B:List (List zJ)} (h:s.Rep p B):s.tops=B.map qU:=by
 rw[MSt.tops]
 apply yZn
 intro k
 rw[yXj,yXj]
 by_cases hk:k<B.length
 ·obtain⟨L,hL⟩:=z6 hk
  obtain⟨b,hb⟩:=z6 (l:=s.books) (i:=k) (by rw[h.bl];exact hk)
  rw[hL,hb,yYl,yYl,(h.bk k b L hb hL).top]
 ·rw[yXr (by rw[h.bl];omega),yXr (by omega)];rfl
theorem MSt.Rep.cnt {s:MSt} {p:Prd} {B:List (List zJ)} (h:s.Rep p B) (hB:B.length≤1000000):s.cntOk:=by
 refine⟨by rw[h.bl];exact hB,fun b hb=> ?_⟩
 obtain⟨k,hk⟩:=yZd.1 hb
 have hlt:=(yWn.1 hk).1
 rw[h.bl]at hlt
 obtain⟨L,hL⟩:=z6 hlt
 exact(h.bk k b L hk hL).cnt
theorem zXm {b:Book} {L:List zJ} (h:b.Rep L) (sd:Bool):b.best (b.side sd)=bestL L (zD sd):=by
 obtain⟨Q,c,ht,rfl⟩:=h
 cases sd
 ·exact c.bestL (.inl rfl)
 ·exact c.bestL (.inr rfl)
theorem zDb (sd:Bool):zD sd=1∨zD sd=2:=by cases sd;exact .inl rfl;exact .inr rfl
theorem yTm (i:NxI) (h:nextC.cnd i):yKi i:=by
 obtain⟨hR,hB,h0,h1⟩:i.s.Rep i.p i.B∧BOk i.p i.B∧0≤i.inst∧i.inst<i.B.length:=h
 have hcl:=xS i.p
 have hbl:=hB.bl
 have hsl:=hR.bl
 obtain⟨k,hk⟩:∃k:Nat,i.inst=k:=⟨i.inst.toNat,by omega⟩
 obtain⟨L,hL⟩:=z6 (l:=i.B) (i:=k) (by omega)
 obtain⟨b,hb⟩:=z6 (l:=i.s.books) (i:=k) (by omega)
 have hbR:=hR.bk k b L hb hL
 have hps:i.s.p.small:=by rw[hR.ep];exact hB.ps
 have hto:vE i.s.tops:=by rw[hR.tops];exact hB.tops
 have hnx:yR i.p i.B i.inst (zD i.sd)=if((bestL L (zD i.sd)).2 && !((zU (xR ⟨i.s.p,i.s.tops,i.inst⟩ (zD i.sd)) (zD i.sd)).2 && btr (zD i.sd) (zU (xR ⟨i.s.p,i.s.tops,i.inst⟩ (zD i.sd)) (zD i.sd)).1.price (bestL L (zD i.sd)).1.price))=true then(⟨(bestL L (zD i.sd)).1.price,(bestL L (zD i.sd)).1.qty,⟨0,0⟩,⟨0,0⟩⟩,false,true)else((zU (xR ⟨i.s.p,i.s.tops,i.inst⟩ (zD i.sd)) (zD i.sd)).1,(zU (xR ⟨i.s.p,i.s.tops,i.inst⟩ (zD i.sd)) (zD i.sd)).2,(zU (xR ⟨i.s.p,i.s.tops,i.inst⟩ (zD i.sd)) (zD i.sd)).2):=by
  rw[yR,hR.tops,hR.ep,hk,yXf,zT hL]
 have hbest:=zXm hbR i.sd
 unfold yKi zTy kC gX zIl wZ zNh zV zJq zJv z7 dN f7 zFc
 have hcnt:i.s.cntOk:=hR.cnt (by omega)
 have hql:(xR ⟨i.s.p,i.s.tops,i.inst⟩ (zD i.sd)).length≤1000000:=by
  have:=y0j (y0a (fun q=>decide (i.s.p.price i.inst q.price=0)) _) (zDu ⟨i.s.p,i.s.tops,i.inst⟩ (zD i.sd))
  exact y0j this (by decide)
 refine(fun hT=>⟨⟨i.s,rfl,rfl,rfl,rfl,rfl,rfl,rfl,rfl,rfl,rfl,rfl,rfl,rfl,hcnt,fun _ _=>⟨⟨rfl,trivial,rfl,rfl,rfl,rfl,rfl,rfl,rfl,rfl,trivial,trivial⟩,⟨⟨⟨i.s.p,i.s.tops,i.inst⟩,i.sd⟩,rfl,rfl,rfl,rfl,rfl,rfl,rfl,rfl,rfl,rfl,rfl,rfl,rfl,rfl,⟨hps,hto⟩,fun _ _=>⟨hT,hT⟩⟩,⟨rfl,trivial,rfl,rfl,rfl,rfl,rfl,rfl,rfl,rfl,trivial,trivial⟩,⟨⟨⟨i.s.p,i.s.tops,i.inst⟩,i.sd⟩,rfl,rfl,rfl,rfl,rfl,rfl,rfl,rfl,rfl,rfl,rfl,rfl,rfl,rfl,⟨hps,hto⟩,fun _ _=>hT⟩⟩⟩,
  ⟨rfl,trivial,rfl,rfl,rfl,rfl,rfl,rfl,rfl,rfl,trivial,trivial⟩,⟨i.s,rfl,rfl,rfl,rfl,rfl,rfl,rfl,rfl,rfl,rfl,rfl,rfl,rfl,hcnt,fun _ _=>⟨⟨rfl,trivial,rfl,rfl,rfl,rfl,rfl,rfl,rfl,rfl,trivial,trivial⟩,⟨⟨⟨i.s.p,i.s.tops,i.inst⟩,i.sd⟩,rfl,rfl,rfl,rfl,rfl,rfl,rfl,rfl,rfl,rfl,rfl,rfl,rfl,rfl,⟨hps,hto⟩,fun _ _=>hT⟩⟩⟩⟩) ?_
 refine⟨⟨xR ⟨i.s.p,i.s.tops,i.inst⟩ (zD i.sd),zD i.sd⟩,rfl,rfl,⟨zDb _,hql⟩,fun _ _=>⟨⟨h0,by omega⟩,by omega,b,by rw[hk];exact hb,⟨i.sd,b⟩,rfl,rfl,hbR.cnt,fun _ _=>⟨b,rfl,rfl,by omega,?_⟩⟩⟩
 dsimp only
 rw[hbest]
 generalize bestL L (zD i.sd)=l at*
 generalize zU (xR ⟨i.s.p,i.s.tops,i.inst⟩ (zD i.sd)) (zD i.sd)=bq at*
 have hset:i.s.books.set i.inst.toNat b=i.s.books:=vY (by rw[hk];exact hb)
 rw[hset]
 refine Cv.cnd.mk (fun c1=>Cv.cnd.mk (fun c2=>⟨⟨zD i.sd,bq.1.price,l.1.price⟩,rfl,rfl,rfl,trivial,fun _ _=>Cv.cnd.mk (fun c3=> ?_) (fun c3=> ?_)⟩) (fun c2=> ?_)) (fun c1=> ?_)
 ·dsimp only at c3
  rw[yWl (by rw[c1,c2];simpa using c3)]at hnx
  rw[hnx];exact⟨(),by(repeat'(first|exact trivial|exact rfl|apply And.intro))⟩
 ·dsimp only at c3
  rw[yWk (by rw[c1,c2];simpa using c3)]at hnx
  rw[hnx];exact⟨(),by(repeat'(first|exact trivial|exact rfl|apply And.intro))⟩
 ·rw[yWl (by rw[c1,c2];rfl)]at hnx
  rw[hnx];exact⟨(),by(repeat'(first|exact trivial|exact rfl|apply And.intro))⟩
 ·rw[yWk (by rw[c1];simp)]at hnx
  rw[hnx];exact⟨(),by(repeat'(first|exact trivial|exact rfl|apply And.intro))⟩
theorem yHe:nextC.ok Tryz.prog 234:=okw mixed (gokc zUe (gokc zPz (gokc zUy (gokc zIr (gokc bQ gok0))))) 0 (fun _=>[]) (fun _=>[]) [0] Tryz.func234 yTm
theorem z2x (i:RsI) (k:Nat):(i.add k).length=i.out.length:=by
 have:∀(l:List (Nat×Int)) (o:List Int),(l.foldl (fun o y=>o.set y.1 (IntKind.i64.wrap (o.getD y.1 0+y.2))) o).length=o.length:=by
  intro l
  induction l with
  |nil=>intro o;rfl
  |cons x l ih=>intro o;rw[yZh,ih,yXp]
 exact this _ _
theorem zXq (l:List Int) (q:Int):(uZ l q).length≤l.length:=by
 rw[uZ];split
 ·rw[tG];exact yXs _
 ·exact yYa _
theorem z6u (i:AlI):(qY i).length≤i.l.length:=by
 have hq:i.qs.length=i.l.length:=by simp[AlI.qs]
 rw[qY,← hq]
 repeat' split
 ·exact zXq _ _
 ·rw[zCm];split
  ·rw[m9,z2x,PsI.rs]
   split
   ·simp
   ·simp
  ·exact yYa _
 ·rw[zBh];split
  ·rw[m9,z2x];exact zXq _ _
  ·exact yYa _
 ·exact yYa _
theorem zKo {inst s:Int}:∀{os:List zJ} {sh:List Int} {j:Nat} {o:zJ} {k:Int},os[j]? =some o→sh[j]? =some k→xQ inst s (os.take (j+1)) (sh.take (j+1))=xQ inst s (os.take j) (sh.take j)++(if 0<k then[⟨o.id,inst,s,o.price,k,o.qty-k⟩]else[])
 |[],_,_,_,_,h,_=>by simp at h
 |_::_,[],_,_,_,_,h=>by simp at h
 |o::os,k::sh,0,_,_,h,h2=>by
  cases h;cases h2
  rw[yXv,yXv,y0k,y0k,y0k,y0k,xQ]
  split<;>rfl
 |o::os,k::sh,j+1,o',k',h,h2=>by
  rw[yXv,yXv,xQ,yXv,yXv,xQ,zKo (os:=os) (sh:=sh) (j:=j) h h2]
  split<;>rfl
theorem zPm {inst s:Int}:∀(os:List zJ) (sh:List Int),xQ inst s (os.take sh.length) (sh.take sh.length)=xQ inst s os sh
 |[],sh=>by simp
 |_::_,[]=>by simp[xQ]
 |o::os,k::sh=>by
  rw[yWs,yXv,yXv,xQ,xQ,zPm os sh]
theorem z7q (B:List (List zJ)) (a b:List cH):kJ B (a++b)=kJ (kJ B a) b:=y1l
theorem tT (B:List (List zJ)) (id q:Int):(kK B id q).1.length=B.length:=by
 rw[kK];split
 ·rfl
 ·simp
theorem uA:∀(fs:List cH) (B:List (List zJ)),(kJ B fs).length=B.length
 |[],B=>rfl
 |f::fs,B=>by
  show(kJ (kK B f.id f.qty).1 fs).length=_
  rw[uA fs,tT]
theorem yOi {p:Prd} (h:p.check=0):yV p.least∧yV p.top∧yV p.part:=by
 have ok:=jM h
 have:=ok.q1
 have:=ok.q2
 have:=ok.q3
 have:=ok.q4
 have:=ok.q5
 have:=ok.q6
 exact⟨⟨by omega,by omega⟩,⟨by omega,by omega⟩,⟨by omega,by omega⟩⟩
theorem yQz (i:TrI) (h:tradeC.cnd i):yEo i:=by
 obtain⟨hR,hB,h0,h1,hq⟩:i.s.Rep i.p i.B∧BOk i.p i.B∧0≤i.inst∧i.inst<i.B.length∧yV i.q:=h
 have hcl:=xS i.p
 have hbl:=hB.bl
 have hsl:=hR.bl
 have ep:=hR.ep
 obtain⟨k,hk⟩:∃k:Nat,i.inst=k:=⟨i.inst.toNat,by omega⟩
 obtain⟨L,hL⟩:=z6 (l:=i.B) (i:=k) (by omega)
 obtain⟨b,hb⟩:=z6 (l:=i.s.books) (i:=k) (by omega)
 have hbR:=hR.bk k b L hb hL
 have hbest:=zXm hbR i.sd
 have hos:atL L (zD i.sd) (bestL L (zD i.sd)).1.price=i.os:=by rw[TrI.os,zUb,hk,yXf,zT hL]
 have hset:i.s.books.set i.inst.toNat b=i.s.books:=vY (by rw[hk];exact hb)
 have hosl:i.os.length≤250:=by
  rw[← hos];exact y0j (y0a _ _) hbR.ords.2.2
 have hsh:i.sh.length≤i.os.length:=z6u _
 obtain⟨k1,k2,k3⟩:=yOi hB.pc
 have hsb:∀(j:Nat) (n:Int),i.sh[j]? =some n→n≤1000000:=by
  intro j n hn
  cases hr:yT (i.os.map (·.qty)) i.q with
  |false=>
   have:i.sh=[]:=zYu hr
   rw[this]at hn;cases hn
  |true=>
   have:=(zSm hB.pc hr).bd j
   have e:(qY ⟨i.p,i.os,i.q⟩).getD j 0=n:=zT hn
   rw[e]at this
   have:=(z5h (kW hr).2.2.1 j).2
   omega
 unfold yEo zFk uI dJ aE fY gF zV wZ dI
 refine⟨⟨h0,by omega⟩,by omega,b,by rw[hk];exact hb,⟨i.sd,b⟩,rfl,rfl,hbR.cnt,fun _ _=> ?_⟩
 refine⟨b,rfl,rfl,by omega,b,by rw[hset,hk];exact hb,⟨b,L,i.sd,(bestL L (zD i.sd)).1.price⟩,rfl,by dsimp only;rw[hbest],rfl,hbR,fun _ _=> ?_⟩
 dsimp only
 try rw[hbest]
 rw[hset,hos]
 refine⟨b,rfl,rfl,by omega,⟨i.p,i.os,i.q⟩,by rw[ep],by rw[ep],by rw[ep],by rw[ep],by rw[ep],by rw[ep],by rw[ep],by rw[ep],by rw[ep],by rw[ep],by rw[ep],rfl,rfl,⟨by dsimp only;omega,hq,k1,k2,k3⟩,fun _ _=> ?_⟩
 have esh:qY ⟨i.p,i.os,i.q⟩=i.sh:=rfl
 rw[esh,hset,xF,yWm]
 refine⟨(0,i.s),rfl,rfl,rfl,rfl,rfl,rfl,rfl,rfl,rfl,rfl,rfl,rfl,rfl,rfl,rfl,fun j=>j.2.Rep i.p (kJ i.B (i.fs j.1))∧j.1≤i.sh.length,fun j=>i.sh.length-j.1,⟨hR,yYa _⟩,fun j hj=> ?_⟩
 obtain⟨hjR,hjl⟩:=hj
 obtain⟨j,sj⟩:=j
 dsimp only at hjR hjl ⊢
 refine zK (fun c=> ?_) (fun c=> ?_)
 ·obtain⟨n,hn⟩:=z6 (l:=i.sh) (i:=j) (by omega)
  obtain⟨o,ho⟩:=z6 (l:=i.os) (i:=j) (by omega)
  have hst:=zKo (inst:=i.inst) (s:=zD i.sd) ho hn
  have hoL:o∈L:=by
   have:=yWu ho
   rw[← hos]at this
   exact(yYp.1 this).1
  have hoq:=(hbR.ords.1 o hoL).q
  have hnb:=hsb j n hn
  refine⟨⟨by omega,by omega⟩,n,elI hn,zK (fun c2=> ?_) (fun c2=> ?_)⟩
  ·rw[yWl (show 0<n from c2)]at hst
   have hfl:(i.fs j).length≤j:=by
    have:∀(os:List zJ) (sh:List Int),(xQ i.inst (zD i.sd) os sh).length≤os.length:=by
     intro os
     induction os with
     |nil=>intro sh;exact yXs 0
     |cons o os ih=>
      intro sh
      cases sh with
      |nil=>exact yYa _
      |cons k sh=>
       have:=ih sh
       rw[xQ]
       split
       ·simp only[yWs];omega
       ·simp only[yWs];omega
    exact y0j (this _ _) (by rw[yXg];omega)
   refine⟨⟨by omega,by omega⟩,o.id,o.side,o.price,o.qty,o.top,yPm ho,⟨sj,i.p,kJ i.B (i.fs j),o.id,n⟩,rfl,rfl,rfl,⟨hjR,by dsimp only;rw[uA];omega⟩,fun s' hs'=>⟨by rw[yWm];omega,(j+1,s'),wjn (by omega),rfl,?_,⟨?_,by dsimp only;omega⟩,by dsimp only;omega,by(repeat'(first|exact trivial|exact rfl|apply And.intro))⟩⟩
   ·show List.map yS (xQ i.inst (zD i.sd) (i.os.take (j+1)) (i.sh.take (j+1)))=_
    rw[hst,yWw,w64 (by omega)];rfl
   ·show s'.Rep i.p (kJ i.B (xQ i.inst (zD i.sd) (i.os.take (j+1)) (i.sh.take (j+1))))
    rw[hst,z7q];exact hs'
  ·rw[yWk (show ¬0<n from c2),yXi]at hst
   refine⟨(j+1,sj),wjn (by omega),rfl,?_,⟨?_,by dsimp only;omega⟩,by dsimp only;omega,by(repeat'(first|exact trivial|exact rfl|apply And.intro))⟩
   ·show List.map yS (xQ i.inst (zD i.sd) (i.os.take (j+1)) (i.sh.take (j+1)))=_
    rw[hst];rfl
   ·show sj.Rep i.p (kJ i.B (xQ i.inst (zD i.sd) (i.os.take (j+1)) (i.sh.take (j+1))))
    rw[hst];exact hjR
 ·have hje:j=i.sh.length:=by omega
  subst hje
  have hfa:i.fs i.sh.length=qQ i.p i.B i.inst (zD i.sd) i.q:=zPm _ _
  rw[hfa]at hjR ⊢
  exact⟨sj,rfl,rfl,hjR⟩
theorem yDw:tradeC.ok Tryz.prog 235:=okw mixed (gokc zIr (gokc yTi (gokc yBa (gokc zCb gok0)))) 0 (fun _=>[]) (fun i=>yOw i) [0] Tryz.func235 yQz
open Go Cv Go.Proofs
structure wE where
 price:Int
 qty:Int
 implied:Bool
 fills:List cH
 deriving DecidableEq
def j9 (t:wE):List D:=[.v (.int .i64 t.price),.v (.int .i64 t.qty),.v (.bool t.implied),.ro 6 (t.fills.map yS)]
def bX (p:Prd) (B:List (List zJ)) (inst:Int) (sd:Bool) (price qty:Int):Option (wE×List (List zJ)):=
 let n:=yR p B inst (zD (!sd))
 if(n.2.2 && (cL sd price n.1.price && decide (1≤n.1.qty)))=true then
  if n.2.1=true then
   let f1:=qQ p B n.1.a.inst n.1.a.side (min qty n.1.qty)
   let f2:=qQ p (kJ B f1) n.1.b.inst n.1.b.side (min qty n.1.qty)
   some (⟨n.1.price,min qty n.1.qty,true,f1++f2⟩,kJ (kJ B f1) f2)
  else
   let f:=qQ p B inst (zD (!sd)) (min qty n.1.qty)
   some (⟨n.1.price,min qty n.1.qty,false,f⟩,kJ B f)
 else none
structure yRa where
 steps:List wE
 left:Int
 B:List (List zJ)
def zHw (p:Prd) (inst:Int) (sd:Bool) (price:Int):Nat→List (List zJ)→Int→yRa
 |0,B,q=>⟨[],q,B⟩
 |n+1,B,q=>if q≤0 then⟨[],q,B⟩else match bX p B inst sd price q with
  |none=>⟨[],q,B⟩
  |some (t,B')=>let r:=zHw p inst sd price n B' (q-t.qty);⟨t::r.steps,r.left,r.B⟩
def wD (p:Prd) (B:List (List zJ)) (inst:Int) (sd:Bool) (price q:Int):yRa:=zHw p inst sd price q.toNat B q
structure RunI where
 s:MSt
 p:Prd
 B:List (List zJ)
 inst:Int
 sd:Bool
 price:Int
 q:Int
def RunI.r (i:RunI):yRa:=wD i.p i.B i.inst i.sd i.price i.q
def runC:Con where
 ι:=RunI
 pat:=fun i=>[.nm 0 0,zA i.inst,zA (zD i.sd),zA i.price,zA i.q]
 pre:=fun i=>[zE i.s]
 cnd:=fun i=>i.s.Rep i.p i.B∧BOk i.p i.B∧(0≤i.inst∧i.inst<i.B.length)∧1≤i.q∧i.q≤1000000
 alts:=fun i=>[{o:=MSt,res:=fun _=> .tup [.own 1,zA i.r.left],post:=fun s=>[zE s,.own 321 4 (i.r.steps.map j9)],rel:=fun s=>s.Rep i.p i.r.B}]
structure zMp where
 s:MSt
 B:List (List zJ)
 steps:List wE
 q:Int
def yVp:List SAnn:=[
 {ι:=zMp,slots:=fun j=>[(0,.nm 0 0),(12,.own 1),(4,zA j.q)],rows:=fun j=>[zE j.s,.own 321 4 (j.steps.map j9)]},
 {ι:=Unit,slots:=fun _=>[],rows:=fun _=>[],un:=3}]
open Go Cv Go.Proofs
def zLn (a:zMp→Nat) (b:zMp) (c:zMp) (d:RunI):Prop:=a b<a c∧AObj.fro 1 (iE d.s.p.months)=AObj.fro 1 (iE d.s.p.months)∧AObj.fro 1 (iE d.s.p.settle)=AObj.fro 1 (iE d.s.p.settle)
def zBy (a:TrI):Prop:=a.s.Rep a.p a.B∧BOk a.p a.B∧0≤a.inst∧a.inst<(↑a.B.length:Int)∧(-9223372036854775808)≤a.q∧a.q≤9223372036854775807
def zMu (a:RunI) (b:zMp) (c:NxI):Prop:=∃(d:MSt),a.r.left=b.q∧zE d=zE c.s∧List.map j9 a.r.steps=List.map j9 b.steps∧d.Rep a.p a.r.B
def tM (a:TrI):=(List.map yS (gF a))
def zZk (a:RunI):Prop:=∃(b:zMp),b.q=a.q∧sb b.s.p.code=sb a.s.p.code∧b.s.p.tick=a.s.p.tick∧b.s.p.low=a.s.p.low∧b.s.p.high=a.s.p.high∧b.s.p.wide=a.s.p.wide∧b.s.p.rule=a.s.p.rule∧b.s.p.top=a.s.p.top∧b.s.p.least=a.s.p.least∧b.s.p.part=a.s.p.part∧AObj.objs 241 Book 6 zS b.s.books none=AObj.objs 241 Book 6 zS a.s.books none∧yW b.s.wh=yW a.s.wh∧AObj.fro 1 (iE b.s.p.months)=AObj.fro 1 (iE a.s.p.months)∧AObj.fro 1 (iE b.s.p.settle)=AObj.fro 1 (iE a.s.p.settle)∧List.map j9 b.steps=[]∧∃(c:zMp→Prop),∃(d:zMp→Nat),c b∧∀(e:zMp),c e→cnd (decide (e.q>0)) (∃(f:Bool),zD f=zD a.sd∧True∧∀(g:Unit),True→∃(h:NxI),h.inst=a.inst∧zD h.sd=zD !f∧zE h.s=zE e.s∧(h.s.Rep h.p h.B∧BOk h.p h.B∧0≤h.inst∧h.inst<(↑h.B.length:Int))∧∀(j:Unit),True→cnd (!(z7 h).snd.snd) (zMu a e h) (∃(k:GoI),zD k.s=zD a.sd∧k.p=a.price∧k.x=(z7 h).fst.price∧True∧∀(l:Unit),True→cnd (!cL k.s k.p k.x) (zMu a e h) (cnd (z7 h).snd.fst (∃(m:TrI),m.inst=(z7 h).fst.a.inst∧zD m.sd=(z7 h).fst.a.side∧m.q=min e.q (z7 h).fst.qty∧zE m.s=zE h.s∧(zBy m)∧∀(n:MSt),n.Rep m.p (fY m)→True∧(tM m).length*(48:Nat)≤(140737488355328:Nat)∧∃(p:TrI),p.inst=(z7 h).fst.b.inst∧zD p.sd=(z7 h).fst.b.side∧p.q=min e.q (z7 h).fst.qty∧zE p.s=zE n∧(zBy p)∧∀(q:MSt),q.Rep p.p (fY p)→True∧((tM m).length+(tM p).length)*(48:Nat)≤(140737488355328:Nat)∧((List.map j9 e.steps).length+1)*(48:Nat)≤(140737488355328:Nat)∧∃(r:zMp),r.q=IntKind.i64.wrap (e.q-min e.q (z7 h).fst.qty)∧zE r.s=zE q∧List.map j9 r.steps=List.map j9 e.steps++[[dI ((z7 h).fst.price),dI (min e.q (z7 h).fst.qty),D.v (.bool (z7 h).snd.fst),D.ro 6 (List.map yS (gF m)++List.map yS (gF p))]]∧c r∧zLn d r e a) (∃(m:Bool),zD m=zD a.sd∧True∧∀(n:Unit),True→min e.q (z7 h).fst.qty=min e.q (z7 h).fst.qty∧∃(p:TrI),p.inst=a.inst∧zD p.sd=zD !m∧p.q=min e.q (z7 h).fst.qty∧zE p.s=zE h.s∧(zBy p)∧∀(q:MSt),q.Rep p.p (fY p)→((List.map j9 e.steps).length+1)*(48:Nat)≤(140737488355328:Nat)∧∃(r:zMp),r.q=IntKind.i64.wrap (e.q-min e.q (z7 h).fst.qty)∧zE r.s=zE q∧List.map j9 r.steps=List.map j9 e.steps++[[dI ((z7 h).fst.price),dI (min e.q (z7 h).fst.qty),D.v (.bool (z7 h).snd.fst),D.ro 6 (tM p)]]∧c r∧zLn d r e a)))) (∃(f:MSt),a.r.left=e.q∧zE f=zE e.s∧List.map j9 a.r.steps=List.map j9 e.steps∧f.Rep a.p a.r.B)
def aS (a:RunI):Prop:=∃(b:MSt),a.r.left=a.q∧sb b.p.code=sb a.s.p.code∧b.p.tick=a.s.p.tick∧b.p.low=a.s.p.low∧b.p.high=a.s.p.high∧b.p.wide=a.s.p.wide∧b.p.rule=a.s.p.rule∧b.p.top=a.s.p.top∧b.p.least=a.s.p.least∧b.p.part=a.s.p.part∧AObj.objs 241 Book 6 zS b.books none=AObj.objs 241 Book 6 zS a.s.books none∧yW b.wh=yW a.s.wh∧AObj.fro 1 (iE b.p.months)=AObj.fro 1 (iE a.s.p.months)∧AObj.fro 1 (iE b.p.settle)=AObj.fro 1 (iE a.s.p.settle)∧List.map j9 a.r.steps=[]∧b.Rep a.p a.r.B
def ySx (i:RunI):Prop:=
 cnd (decide (i.inst≥0)) (cnd (decide (i.inst<(↑i.s.books.length:Int))) (cnd (zD i.sd==1) (cnd (decide (i.q≥1)) (cnd (!decide (i.q≤1000000)) (aS i) (zZk i)) (aS i)) (cnd (zD i.sd==2) (cnd (decide (i.q≥1)) (cnd (!decide (i.q≤1000000)) (aS i) (zZk i)) (aS i)) (aS i))) (aS i)) (aS i)
open Go Cv Go.Proofs
structure QOk (T:List Top) (q:Quote):Prop where
 a:0≤q.a.inst∧q.a.inst<T.length
 b:0≤q.b.inst∧q.b.inst<T.length
 sa:q.a.side=1∨q.a.side=2
 sb:q.b.side=1∨q.b.side=2
 ne:q.a.inst≠q.b.inst
 ha:(T.getD q.a.inst.toNat top0).has q.a.side=true
 hb:(T.getD q.b.inst.toNat top0).has q.b.side=true
 qty:q.qty=min ((T.getD q.a.inst.toNat top0).qty q.a.side) ((T.getD q.b.inst.toNat top0).qty q.b.side)
theorem z0q {T:List Top} {a b:Leg} {less:Bool} {q:Quote} (h:q∈mkq T a b less) (h1:0≤a.inst∧a.inst<T.length) (h2:0≤b.inst∧b.inst<T.length) (h3:a.side=1∨a.side=2) (h4:b.side=1∨b.side=2) (hne:a.inst≠b.inst):QOk T q∧q.a=a∧q.b=b:=by
 cases less
 all_goals
  simp only[mkq,yXe,↓reduceIte]at h
  split at h
  ·rename_i hc
   simp only[yXa]at hc
   rw[yXx]at h
   subst h
   exact⟨⟨h1,h2,h3,h4,hne,hc.1.1,hc.1.2,rfl⟩,rfl,rfl⟩
  ·cases h
theorem yPs:∀n≤6,∀k<n+n*(n-1) / 2,n≤k→(kI n k n 0).1≠(kI n k n 0).2.1:=by decide
theorem z3x {p:Prd} (hc:p.check=0) {k:Nat} (hk:k<p.count) (hs:(p.legs k).2.2=true):(p.legs k).1≠(p.legs k).2.1:=by
 have m6:=(jM hc).m6
 have hk':=hk
 rw[Prd.count,yWl hc]at hk'
 by_cases h:k<p.months.length
 ·rw[Prd.legs,yWk (by omega),yWl (by omega)]at hs
  cases hs
 ·rw[Prd.legs,yWk (by omega),yWk (by omega)]
  exact yPs p.months.length m6 k hk' (by omega)
theorem z7f:∀n≤6,∀a<n,∀b<n,a<b→(yK n a:Int)+b-a-1≥n:=by decide
theorem zOt {p:Prd} (hc:p.check=0) {a b:Nat} (hab:a<b) (hb:b<p.months.length):(p.months.length:Int)≤(p.spread a b).1:=by
 have m6:=(jM hc).m6
 have:=z7f p.months.length m6 a (by omega) b hb hab
 rw[Prd.spread,yWk (by omega)]
 simpa using this
theorem z5a {p:Prd} (hc:p.check=0) {T:List Top} (hT:T.length=p.count) {inst:Int} {s:Int} (hs:s=1∨s=2) {q:Quote} (h:q∈kE ⟨p,T,inst⟩ s):QOk T q∧0≤inst∧inst<p.count∧
 (((p.legs inst).2.2=true∧q.a=⟨(p.legs inst).1,s⟩∧q.b=⟨(p.legs inst).2.1,3-s⟩)∨(inst<p.months.length∧q.a.inst≠inst∧(p.months.length:Int)≤q.a.inst)):=by
 rw[kE]at h
 dsimp only at h
 split at h
 ·cases h
 ·rename_i hn
  have h0:0≤inst∧inst<p.count:=by omega
  obtain⟨k,rfl⟩:∃k:Nat,inst=k:=⟨inst.toNat,by omega⟩
  have hk:k<p.count:=by omega
  have hge:=zLz hc
  split at h
  ·rename_i hl
   obtain⟨q',hq',rfl⟩:=yXm.1 h
   have hle:=cA hc hk
   rcases hle with⟨_,l1,l2,l3,l4⟩|⟨e,_⟩
   ·obtain⟨ok,e1,e2⟩:=z0q hq' (by dsimp only;omega) (by dsimp only;omega) (by dsimp only;omega) hs (fun e=>z3x hc hk hl e.symm)
    refine⟨⟨by dsimp only[cN];omega,by dsimp only[cN];omega,hs,by dsimp only[cN];omega,z3x hc hk hl,?_,?_,?_⟩,h0.1,h0.2,.inl ⟨hl,rfl,rfl⟩⟩
    ·have:=ok.hb;rw[e2]at this;exact this
    ·have:=ok.ha;rw[e1]at this;exact this
    ·have:=ok.qty;rw[e1,e2]at this;dsimp only[cN];rw[this];exact Int.min_comm _ _
   ·rw[e]at hl;cases hl
  ·rename_i hl
   have hm:k<p.months.length:=by
    rcases cA hc hk with⟨e,_⟩|⟨_,e⟩
    ·exact absurd e hl
    ·exact e
   rcases yXh.1 h with h|h
   ·obtain⟨j,hj,h⟩:=yZf.1 h
    have hj:=yZr.1 hj
    rw[yXf]at hj
    have s1:=bE hc (a:=k) (b:=k+1+j) (by omega) (by omega)
    have s2:=zOt hc (a:=k) (b:=k+1+j) (by omega) (by omega)
    have ec:((k:Int)+1+j)=((k+1+j:Nat):Int):=by omega
    rw[ec]at h
    obtain⟨ok,e1,e2⟩:=z0q h (by dsimp only;omega) (by dsimp only;omega) hs hs (by dsimp only;omega)
    exact⟨ok,h0.1,h0.2,.inr ⟨by omega,by rw[e1];dsimp only;omega,by rw[e1];exact s2⟩⟩
   ·obtain⟨j,hj,h⟩:=yZf.1 h
    have hj:=yZr.1 hj
    rw[yXf]at hj
    have s1:=bE hc (a:=j) (b:=k) (by omega) (by omega)
    have s2:=zOt hc (a:=j) (b:=k) (by omega) (by omega)
    obtain⟨ok,e1,e2⟩:=z0q h (by dsimp only;omega) (by dsimp only;omega) (by dsimp only;omega) hs (by dsimp only;omega)
    exact⟨ok,h0.1,h0.2,.inr ⟨by omega,by rw[e1];dsimp only;omega,by rw[e1];exact s2⟩⟩
theorem zQi {s:Int}:∀(r:List Quote) (q:Quote),r.foldl (fun b q=>if btr s q.price b.price then q else b) q∈q::r
 |[],q=>yWr
 |x::r,q=>by
  rw[yZh]
  have:=zQi (s:=s) r (if btr s x.price q.price then x else q)
  rcases yWz.1 this with e|h
  ·rw[e];split
   ·exact yWq _ yWr
   ·exact yWr
  ·exact yWq _ (yWq _ h)
theorem zEn {l:List Quote} {s:Int} (h:(zU l s).2=true):(zU l s).1∈l:=by
 cases l with
 |nil=>cases h
 |cons q r=>exact zQi r q
def yGh (B:List (List zJ)):Prop:=∀(k:Nat) (L:List zJ),B[k]?=some L→(∀o∈L,zJh o)∧(L.map (·.id)).Nodup∧L.length≤250
theorem MSt.Rep.ords {s:MSt} {p:Prd} {B:List (List zJ)} (h:s.Rep p B):yGh B:=by
 intro k L hL
 obtain⟨b,hb⟩:=z6 (l:=s.books) (i:=k) (by rw[h.bl];exact(yWn.1 hL).1)
 exact(h.bk k b L hb hL).ords
theorem z2l:∀{l:List zJ} {v:Lv},(∀o∈l,zJh o)→v∈grp l→1≤v.qty∧v.qty≤1000000*l.length
 |[],v,_,h=>by cases h
 |o::l,v,ho,h=>by
  have h0:=(ho o yWr).q
  have ih:∀v∈grp l,1≤v.qty∧v.qty≤1000000*l.length:=fun v hv=>z2l (fun x hx=>ho x (yWq _ hx)) hv
  rw[grp]at h
  rw[yWs]
  split at h
  ·rw[yXx]at h
   subst h;dsimp only;omega
  ·rename_i w ws e
   rw[e]at ih
   have hw:=ih w yWr
   split at h
   ·rcases yWz.1 h with rfl|h
    ·dsimp only;omega
    ·have:=ih v (yWq _ h);omega
   ·rcases yWz.1 h with rfl|h
    ·dsimp only;omega
    ·have:=ih v h;omega
theorem zZz {L:List zJ} {s:Int} (h:∀o∈L,zJh o) (hl:L.length≤250) (hb:(bestL L s).2=true):1≤(bestL L s).1.qty∧(bestL L s).1.qty≤250000000:=by
 rw[bestL]at hb ⊢
 cases hl2:uS L s with
 |nil=>rw[hl2]at hb;cases hb
 |cons v vs=>
  dsimp only
  have hm:v∈grp (L.filter fun o=>decide (o.side=s)):=by rw[← uS,hl2];exact yWr
  have:=z2l (fun o ho=>h o (yYp.1 ho).1) hm
  have:=y0a (fun o:zJ=>decide (o.side=s)) L
  omega
theorem yCx {B:List (List zJ)} {k:Nat} {L:List zJ} (hL:B[k]? =some L):(B.map qU).getD k top0=qU L:=zT (by rw[yXj,hL];rfl)
theorem zIq (L:List zJ) {s:Int} (hs:s=1∨s=2):(qU L).has s=(bestL L s).2∧(qU L).qty s=(bestL L s).1.qty∧(qU L).price s=(bestL L s).1.price:=by
 obtain⟨e1,e2,e3,e4,e5,e6⟩:=zIn L
 rcases hs with rfl|rfl
 ·exact⟨e3,e2,e1⟩
 ·exact⟨e6,e5,e4⟩
theorem z2o {p:Prd} {B:List (List zJ)} (h:BOk p B) (ho:yGh B) {inst:Int} (hi:0≤inst∧inst<B.length) {s:Int} (hs:s=1∨s=2) (hn:(yR p B inst s).2.2=true):
 (1≤(yR p B inst s).1.qty∧(yR p B inst s).1.qty≤250000000)∧((yR p B inst s).2.1=true→(yR p B inst s).1∈kE ⟨p,B.map qU,inst⟩ s∧QOk (B.map qU) (yR p B inst s).1)∧
 ((yR p B inst s).2.1=false→(bestL (B.getD inst.toNat []) s).2=true∧(yR p B inst s).1.price=(bestL (B.getD inst.toNat []) s).1.price∧(yR p B inst s).1.qty=(bestL (B.getD inst.toNat []) s).1.qty):=by
 obtain⟨k,rfl⟩:∃k:Nat,inst=k:=⟨inst.toNat,by omega⟩
 obtain⟨L,hL⟩:=z6 (l:=B) (i:=k) (by omega)
 have hLo:=ho k L hL
 rw[yR]at hn ⊢
 rw[yXf,zT hL]at hn ⊢
 split
 ·rename_i c
  simp only[yXa]at c
  exact⟨zZz hLo.1 hLo.2.2 c.1,⟨fun e=>(by cases e),fun _=>⟨c.1,rfl,rfl⟩⟩⟩
 ·rename_i c
  rw[yWk c]at hn
  dsimp only at hn ⊢
  have hm:=zEn hn
  have ha:(zU (xR ⟨p,B.map qU,k⟩ s) s).1∈kE ⟨p,B.map qU,k⟩ s:=(yYp.1 hm).1
  obtain⟨ok,_⟩:=z5a h.pc (by rw[yWm];exact h.bl) hs ha
  refine⟨?_,fun _=>⟨ha,ok⟩,fun e=>by rw[hn]at e;cases e⟩
  generalize (zU (xR ⟨p,B.map qU,k⟩ s) s).1=q at ok
  have a:=ok.a
  have b:=ok.b
  rw[yWm]at a b
  obtain⟨La,hLa⟩:=z6 (l:=B) (i:=q.a.inst.toNat) (by omega)
  obtain⟨Lb,hLb⟩:=z6 (l:=B) (i:=q.b.inst.toNat) (by omega)
  have e1:=ok.ha
  have e2:=ok.hb
  have e3:=ok.qty
  rw[yCx hLa]at e1 e3
  rw[yCx hLb]at e2 e3
  rw[(zIq La ok.sa).1]at e1
  rw[(zIq Lb ok.sb).1]at e2
  rw[(zIq La ok.sa).2.1,(zIq Lb ok.sb).2.1]at e3
  have:=zZz (ho _ _ hLa).1 (ho _ _ hLa).2.2 e1
  have:=zZz (ho _ _ hLb).1 (ho _ _ hLb).2.2 e2
  omega
theorem yDd {L:List zJ} {id q:Int} {o:zJ} (h:o∈(xV L id q).1):∃o'∈L,o.price=o'.price∧o.side=o'.side∧o.id=o'.id:=by
 rw[xV]at h
 split at h
 ·exact⟨o,h,rfl,rfl,rfl⟩
 split at h
 ·exact⟨o,h,rfl,rfl,rfl⟩
 obtain⟨o',ho',e⟩:=y1w.1 h
 refine⟨o',ho',?_⟩
 split at e
 ·split at e
  ·cases e
  ·cases e;exact⟨rfl,rfl,rfl⟩
 ·cases e;exact⟨rfl,rfl,rfl⟩
theorem BOk.take {p:Prd} {B:List (List zJ)} (h:BOk p B) (id q:Int):BOk p (kK B id q).1:=by
 refine⟨h.pc,h.ps,by rw[tT];exact h.bl,fun k L hL o ho=> ?_⟩
 rw[kK]at hL
 split at hL
 ·exact h.pr k L hL o ho
 ·rename_i j hj
  dsimp only at hL
  rcases cS hL with⟨rfl,rfl⟩|⟨_,hL⟩
  ·obtain⟨o',ho',e,_⟩:=yDd ho
   obtain⟨L',hL',_⟩:=hU hj
   rw[zT hL']at ho'
   rw[e];exact h.pr k L' hL' o' ho'
  ·exact h.pr k L hL o ho
theorem BOk.takes {p:Prd}:∀{fs:List cH} {B:List (List zJ)},BOk p B→BOk p (kJ B fs)
 |[],B,h=>h
 |f::fs,B,h=>BOk.takes (fs:=fs) (h.take f.id f.qty)
theorem zWt (inst s:Int):∀(os:List zJ) (sh:List Int),(xQ inst s os sh).length≤os.length
 |[],sh=>yXs 0
 |o::os,[]=>yYa _
 |o::os,k::sh=>by
  have:=zWt inst s os sh
  rw[xQ]
  split
  ·simp only[yWs];omega
  ·simp only[yWs];omega
theorem nF {p:Prd} {B:List (List zJ)} (ho:yGh B) (inst s q:Int):(qQ p B inst s q).length≤250:=by
 refine y0j (zWt _ _ _ _) (y0j (y0a _ _) ?_)
 by_cases h:inst.toNat<B.length
 ·obtain⟨L,hL⟩:=z6 h
  rw[zT hL];exact(ho _ _ hL).2.2
 ·rw[yWt,yXr (by omega)];exact yYa _
theorem zMx {p:Prd} {B:List (List zJ)} {inst:Int} {sd:Bool} {price q:Int} {t:wE} {B':List (List zJ)} (hq:1≤q) (h:bX p B inst sd price q=some (t,B')):1≤t.qty∧t.qty≤q:=by
 rw[bX]at h
 dsimp only at h
 split at h
 ·rename_i c
  simp only[yXa,yYm]at c
  split at h
  ·cases h;dsimp only;omega
  ·cases h;dsimp only;omega
 ·cases h
theorem zUr {p:Prd} {inst:Int} {sd:Bool} {price:Int}:∀(m n:Nat) (B:List (List zJ)) (q:Int),q.toNat≤m→q.toNat≤n→zHw p inst sd price m B q=zHw p inst sd price n B q
 |0,0,B,q,_,_=>rfl
 |0,n+1,B,q,h,_=>by rw[zHw,zHw,yWl (by omega)]
 |m+1,0,B,q,_,h=>by rw[zHw,zHw,yWl (by omega)]
 |m+1,n+1,B,q,h1,h2=>by
  rw[zHw,zHw]
  split
  ·rfl
  ·rename_i hq
   cases hs:bX p B inst sd price q with
   |none=>rfl
   |some x=>
    obtain⟨t,B'⟩:=x
    have:=zMx (by omega) hs
    dsimp only
    rw[zUr m n B' (q-t.qty) (by omega) (by omega)]
theorem tD {p:Prd} {B:List (List zJ)} {inst:Int} {sd:Bool} {price q:Int} (h:q≤0∨bX p B inst sd price q=none):wD p B inst sd price q=⟨[],q,B⟩:=by
 rw[wD]
 cases hn:q.toNat with
 |zero=>rfl
 |succ n=>
  rw[zHw]
  rcases h with h|h
  ·rw[yWl h]
  ·rw[yWk (by omega),h]
theorem zJm {p:Prd} {B:List (List zJ)} {inst:Int} {sd:Bool} {price q:Int} {t:wE} {B':List (List zJ)} (hq:1≤q) (h:bX p B inst sd price q=some (t,B')):
 wD p B inst sd price q=⟨t::(wD p B' inst sd price (q-t.qty)).steps,(wD p B' inst sd price (q-t.qty)).left,(wD p B' inst sd price (q-t.qty)).B⟩:=by
 have ht:=zMx hq h
 rw[wD]
 cases hn:q.toNat with
 |zero=>omega
 |succ n=>
  rw[zHw,yWk (by omega),h]
  dsimp only
  rw[zUr n (q-t.qty).toNat B' (q-t.qty) (by omega) (yXs _)]
  rfl
open Go Cv Go.Proofs
theorem gS {s:Int} (h:s=1∨s=2):zD (decide (s=2))=s:=by
 rcases h with rfl|rfl<;>rfl
theorem yUo (i:RunI) (h:runC.cnd i):ySx i:=by
 obtain⟨hR,hB,⟨h0,h1⟩,hq1,hq2⟩:i.s.Rep i.p i.B∧BOk i.p i.B∧(0≤i.inst∧i.inst<i.B.length)∧1≤i.q∧i.q≤1000000:=h
 have hbl:=hR.bl
 have hcl:=xS i.p
 have hbB:=hB.bl
 unfold ySx aS zZk fY tM gF zMu zBy zLn z7 dI
 refine(fun hT=>zK (fun c=>zK (fun c2=>Cv.cnd.mk (fun _=>zK (fun _=>Cv.cnd.mk (fun e=>absurd hq2 (by simpa using e)) (fun _=>hT)) (fun e=>absurd hq1 e)) (fun e1=>Cv.cnd.mk (fun _=>zK (fun _=>Cv.cnd.mk (fun e=>absurd hq2 (by simpa using e)) (fun _=>hT)) (fun e=>absurd hq1 e)) (fun e2=>by
  rcases zDb i.sd with e|e
  ·rw[e]at e1;cases e1
  ·rw[e]at e2;cases e2))) (fun c2=>absurd (by omega) c2)) (fun c=>absurd h0 c)) ?_
 refine⟨⟨i.s,i.B,[],i.q⟩,rfl,rfl,rfl,rfl,rfl,rfl,rfl,rfl,rfl,rfl,rfl,rfl,rfl,rfl,rfl,fun j=>j.s.Rep i.p j.B∧BOk i.p j.B∧j.B.length=i.B.length∧(0≤j.q∧j.q≤i.q)∧(j.steps.length:Int)≤i.q-j.q∧i.r=⟨j.steps++(wD i.p j.B i.inst i.sd i.price j.q).steps,(wD i.p j.B i.inst i.sd i.price j.q).left,(wD i.p j.B i.inst i.sd i.price j.q).B⟩,fun j=>j.q.toNat,⟨hR,hB,rfl,⟨by dsimp only;omega,y0b _⟩,by dsimp only;simp,rfl⟩,?_⟩
 rintro⟨s,B,st,q⟩ ⟨r1,r2,r3,⟨r4,r4'⟩,r5,r6⟩
 dsimp only at r1 r2 r3 r4 r4' r5 r6 ⊢
 have hno (hn:q≤0∨bX i.p B i.inst i.sd i.price q=none):∃(o:MSt),i.r.left=q∧AObj.adt MSt (5:Nat) xM o=AObj.adt MSt (5:Nat) xM s∧List.map j9 i.r.steps=List.map j9 st∧o.Rep i.p i.r.B:=by
  rw[tD hn,yXi]at r6
  rw[r6];exact⟨s,rfl,rfl,rfl,r1⟩
 refine zK (fun c=> ?_) (fun c=>hno (.inl (by omega)))
 have c:0<q:=c
 refine⟨i.sd,rfl,trivial,fun _ _=>⟨⟨s,i.p,B,i.inst,!i.sd⟩,rfl,rfl,rfl,⟨r1,r2,h0,by dsimp only;omega⟩,fun _ _=> ?_⟩⟩
 dsimp only
 have hni:=z2o r2 r1.ords (inst:=i.inst) ⟨h0,by omega⟩ (zDb (!i.sd))
 have hsb:bX i.p B i.inst i.sd i.price q=(if((yR i.p B i.inst (zD (!i.sd))).2.2 && (cL i.sd i.price (yR i.p B i.inst (zD (!i.sd))).1.price && decide (1≤(yR i.p B i.inst (zD (!i.sd))).1.qty)))=true then
  if(yR i.p B i.inst (zD (!i.sd))).2.1=true then
   some (⟨(yR i.p B i.inst (zD (!i.sd))).1.price,min q (yR i.p B i.inst (zD (!i.sd))).1.qty,true,qQ i.p B (yR i.p B i.inst (zD (!i.sd))).1.a.inst (yR i.p B i.inst (zD (!i.sd))).1.a.side (min q (yR i.p B i.inst (zD (!i.sd))).1.qty)++qQ i.p (kJ B (qQ i.p B (yR i.p B i.inst (zD (!i.sd))).1.a.inst (yR i.p B i.inst (zD (!i.sd))).1.a.side (min q (yR i.p B i.inst (zD (!i.sd))).1.qty))) (yR i.p B i.inst (zD (!i.sd))).1.b.inst (yR i.p B i.inst (zD (!i.sd))).1.b.side (min q (yR i.p B i.inst (zD (!i.sd))).1.qty)⟩,kJ (kJ B (qQ i.p B (yR i.p B i.inst (zD (!i.sd))).1.a.inst (yR i.p B i.inst (zD (!i.sd))).1.a.side (min q (yR i.p B i.inst (zD (!i.sd))).1.qty))) (qQ i.p (kJ B (qQ i.p B (yR i.p B i.inst (zD (!i.sd))).1.a.inst (yR i.p B i.inst (zD (!i.sd))).1.a.side (min q (yR i.p B i.inst (zD (!i.sd))).1.qty))) (yR i.p B i.inst (zD (!i.sd))).1.b.inst (yR i.p B i.inst (zD (!i.sd))).1.b.side (min q (yR i.p B i.inst (zD (!i.sd))).1.qty)))
  else some (⟨(yR i.p B i.inst (zD (!i.sd))).1.price,min q (yR i.p B i.inst (zD (!i.sd))).1.qty,false,qQ i.p B i.inst (zD (!i.sd)) (min q (yR i.p B i.inst (zD (!i.sd))).1.qty)⟩,kJ B (qQ i.p B i.inst (zD (!i.sd)) (min q (yR i.p B i.inst (zD (!i.sd))).1.qty)))else none):=rfl
 generalize yR i.p B i.inst (zD (!i.sd))=nb at hni hsb ⊢
 refine Cv.cnd.mk (fun n1=> ?_) (fun n1=>⟨⟨i.sd,i.price,nb.1.price⟩,rfl,rfl,rfl,trivial,fun _ _=>Cv.cnd.mk (fun n2=> ?_) (fun n2=> ?_)⟩)
 ·have n1:nb.2.2=false:=by simpa using n1
  rw[n1,yWk (by simp)]at hsb
  exact hno (.inr hsb)
 ·have n2:cL i.sd i.price nb.1.price=false:=by simpa using n2
  rw[n2,yWk (by simp)]at hsb
  exact hno (.inr hsb)
 have n1:nb.2.2=true:=by simpa using n1
 have n2:cL i.sd i.price nb.1.price=true:=by simpa using n2
 obtain⟨⟨b1,b2⟩,hi,hr⟩:=hni n1
 rw[n1,n2,yXb b1,yWl (by rfl)]at hsb
 have hk:yV (min q nb.1.qty):=by constructor<;>omega
 have hsl:(st.length+1)*48≤140737488355328:=by omega
 have beh:∀(t:wE) (B':List (List zJ)) (s':MSt),bX i.p B i.inst i.sd i.price q=some (t,B')→s'.Rep i.p B'→BOk i.p B'→B'.length=B.length→
  (s'.Rep i.p B'∧BOk i.p B'∧B'.length=i.B.length∧(0≤q-t.qty∧q-t.qty≤i.q)∧((st++[t]).length:Int)≤i.q-(q-t.qty)∧i.r=⟨(st++[t])++(wD i.p B' i.inst i.sd i.price (q-t.qty)).steps,(wD i.p B' i.inst i.sd i.price (q-t.qty)).left,(wD i.p B' i.inst i.sd i.price (q-t.qty)).B⟩)∧(q-t.qty).toNat<q.toNat:=by
  intro t B' s' h1 h2 h3 h4
  have ht:=zMx (by omega) h1
  refine⟨⟨h2,h3,by omega,⟨by omega,by omega⟩,by rw[yWp,yYs];omega,?_⟩,by omega⟩
  rw[zJm (by omega) h1]at r6
  rw[r6,yWv];rfl
 refine Cv.cnd.mk (fun n3=> ?_) (fun n3=> ?_)
 ·obtain⟨_,ok⟩:=hi n3
  rw[n3,yWl rfl]at hsb
  have oka:=ok.a
  have okb:=ok.b
  rw[yWm]at oka okb
  have ea:=gS ok.sa
  have eb:=gS ok.sb
  refine⟨⟨s,i.p,B,nb.1.a.inst,decide (nb.1.a.side=2),min q nb.1.qty⟩,rfl,ea,rfl,rfl,⟨r1,r2,oka.1,oka.2,hk⟩,fun s1 hs1=> ?_⟩
  dsimp only at hs1 ⊢
  rw[ea]at hs1 ⊢
  have l1:=nF (p:=i.p) r1.ords nb.1.a.inst nb.1.a.side (min q nb.1.qty)
  have hB1:=r2.takes (fs:=qQ i.p B nb.1.a.inst nb.1.a.side (min q nb.1.qty))
  have l2:=nF (p:=i.p) hs1.ords nb.1.b.inst nb.1.b.side (min q nb.1.qty)
  refine⟨trivial,by rw[yWm];omega,⟨s1,i.p,kJ B (qQ i.p B nb.1.a.inst nb.1.a.side (min q nb.1.qty)),nb.1.b.inst,decide (nb.1.b.side=2),min q nb.1.qty⟩,rfl,eb,rfl,rfl,⟨hs1,hB1,okb.1,by dsimp only;rw[uA];exact okb.2,hk⟩,fun s2 hs2=> ?_⟩
  dsimp only at hs2 ⊢
  rw[eb]at hs2 ⊢
  obtain⟨g1,g2⟩:=beh _ _ s2 hsb hs2 hB1.takes (by rw[uA,uA])
  refine⟨trivial,by rw[yWm,yWm];omega,by rw[yWm];exact hsl,⟨s2,_,st++[_],_⟩,?_,rfl,?_,g1,g2,by(repeat'(first|exact trivial|exact rfl|apply And.intro))⟩
  ·dsimp only;rw[w64 (by omega)]
  ·dsimp only
   rw[yWw,n3]
   simp[j9]
 ·rw[n3,yWk (by decide)]at hsb
  refine⟨i.sd,rfl,trivial,fun _ _=>⟨rfl,⟨s,i.p,B,i.inst,!i.sd,min q nb.1.qty⟩,rfl,rfl,rfl,rfl,⟨r1,r2,h0,by dsimp only;omega,hk⟩,fun s1 hs1=> ?_⟩⟩
  dsimp only at hs1 ⊢
  obtain⟨g1,g2⟩:=beh _ _ s1 hsb hs1 r2.takes (by rw[uA])
  refine⟨by rw[yWm];exact hsl,⟨s1,_,st++[_],_⟩,?_,rfl,?_,g1,g2,by(repeat'(first|exact trivial|exact rfl|apply And.intro))⟩
  ·dsimp only;rw[w64 (by omega)]
  ·dsimp only
   rw[yWw,n3]
   simp[j9]
theorem z0s:runC.ok Tryz.prog 205:=okw mixed (gokc yHe (gokc zQd (gokc zYi (gokc yDw gok0)))) 2 (fun _=>[]) (fun _=>yVp) [0] Tryz.func205 yUo
open Go Cv Go.Proofs
open Go Cv Go.Proofs
open Go Cv Go.Proofs
theorem yDy {L:List zJ} {s id p q:Int} {o:zJ} (h:o∈zSb L s id p q):o.price=p∨∃o'∈L,o.price=o'.price:=by
 have key:∀X:List zJ,(o∈X.takeWhile (before s p)++⟨id,s,p,q,hJ L s p⟩::X.dropWhile (before s p))→o.price=p∨o∈X:=by
  intro X hX
  rcases yXh.1 hX with hX|hX
  ·exact .inr (List.takeWhile_sublist _|>.subset hX)
  ·rcases yWz.1 hX with rfl|hX
   ·exact .inl rfl
   ·exact .inr (List.dropWhile_sublist _|>.subset hX)
 rw[zSb]at h
 split at h
 ·rcases key _ h with h|h
  ·exact .inl h
  ·obtain⟨o',ho',_,_,e,_⟩:=z3p h
   exact .inr ⟨o',ho',e⟩
 ·rcases key _ h with h|h
  ·exact .inl h
  ·exact .inr ⟨o,h,rfl⟩
theorem BOk.add {p:Prd} {B:List (List zJ)} (h:BOk p B) (inst id s price q:Int):BOk p (zZw p B inst id s price q).1:=by
 rw[zZw]
 split
 ·exact h
 split
 ·exact h
 split
 ·exact h
 split
 ·exact h
 rename_i c1 _ _ c4
 have c4:p.price inst price=0:=by simpa using c4
 refine⟨h.pc,h.ps,by simpa using h.bl,fun k L hL o ho=> ?_⟩
 dsimp only at hL
 rcases cS hL with⟨rfl,rfl⟩|⟨_,hL⟩
 ·obtain⟨L',hL'⟩:=z6 (l:=B) (i:=inst.toNat) (by omega)
  rw[zT hL',zHz]at ho
  have e:((inst.toNat:Nat):Int)=inst:=by omega
  repeat' split at ho
  ·exact h.pr _ L' hL' o ho
  ·exact h.pr _ L' hL' o ho
  ·exact h.pr _ L' hL' o ho
  ·rcases yDy ho with h1|⟨o',ho',h1⟩
   ·rw[h1,e];exact c4
   ·rw[h1];exact h.pr _ L' hL' o' ho'
 ·exact h.pr k L hL o ho
theorem BOk.new {p:Prd} (hc:p.check=0) (hp:p.small):BOk p (List.replicate p.count []):=by
 refine⟨hc,hp,by simp,fun k L hL o ho=> ?_⟩
 rw[y2g (yWu hL)]at ho
 cases ho
theorem MSt.Rep.fit {s:MSt} {p:Prd} {B:List (List zJ)} (h:s.Rep p B) (hb:BOk p B):s.fit:=by
 have:=xS p
 refine⟨by rw[h.ep];exact hb.ps,by rw[h.bl,hb.bl];omega,fun b hm=> ?_⟩
 obtain⟨k,hk⟩:=yZd.1 hm
 have hlt:=(yWn.1 hk).1
 rw[h.bl]at hlt
 obtain⟨L,hL⟩:=z6 hlt
 exact(h.bk k b L hk hL).fit
open Go Cv Go.Proofs
def zNs (r:Nat):Bool:=decide (32≤r) && decide (r≠127) && decide (r≠65533)
def cE (s:List UInt8):Bool:=(kP s).all zNs && decide (1≤(kP s).length) && decide ((kP s).length≤12)
def labC:Con:=con1 (List UInt8) (fun s=>[sV s]) (fun _=>[]) (fun s=>s.length≤140737488355328) (fun s=>yG (cE s)) (fun _=>[])
def yVz (s:List UInt8):List SAnn:=[{ι:=Nat×Nat,slots:=fun x=>[(3,zA x.2),(7,.nm 0 0)],rows:=fun x=>[.iter (sb s) x.1]}]
def fZ (n:Int):Bool:=decide (-2000000≤n) && decide (n≤2000000)
def vD (n:Int):Bool:=decide (1≤n) && decide (n≤1000000)
def Cmd.orderE (c:Cmd):Int:=
 if c.side≠1∧c.side≠2 then 21 else if c.time<1∨3<c.time then 27 else if vD c.qty=false then 24 else if c.least<0∨c.qty<c.least then 28
 else if c.label≠[]∧cE c.label=false then 29 else if fZ c.price=false then 23 else if c.inst<0∨255<c.inst then 20 else 0
def Cmd.right (c:Cmd):Int:=
 if c.kind<1∨4<c.kind then 31 else if c.id<1∨1099511627776<c.id then 1 else if c.kind=1 then c.orderE
 else if c.kind≠2∧vD c.qty=false then 24 else if c.kind=4∧fZ c.price=false then 23 else 0
def cmdOrdC:Con:=con1 Cmd (fun c=>[zNr c]) (fun _=>[]) (fun c=>c.label.length≤140737488355328) (fun c=>zA c.orderE) (fun _=>[])
def cmdRtC:Con:=con1 Cmd (fun c=>[zNr c]) (fun _=>[]) (fun c=>c.label.length≤140737488355328) (fun c=>zA c.right) (fun _=>[])
open Go Cv Go.Proofs
def yTg (s:List UInt8):Prop:=
 ∃(a:Nat×Nat),(↑a.snd:Int)=0∧sb s=sb s∧a.fst=0∧∃(b:Nat×Nat→Prop),∃(c:Nat×Nat→Nat),b a∧∀(d:Nat×Nat),b d→cnd (d.fst.blt (sb s).size) (cnd (decide ((x3 s d)<32)) (∃(e:Unit),cE s=false∧True) (cnd ((x3 s d)==127) (∃(e:Unit),cE s=false∧True) (cnd ((x3 s d)==65533) (∃(e:Unit),cE s=false∧True) (fX d s b c)))) (cnd (decide ((↑d.snd:Int)≥1)) (∃(e:Unit),cE s=decide ((↑d.snd:Int)≤12)∧True) (∃(e:Unit),cE s=false∧True))
def zKf (a:Cmd):Prop:=∃(b:List UInt8),sb b=sb a.label∧b.length≤140737488355328∧∀(c:Unit),True→cnd (!cE b) (∃(d:Unit),a.orderE=29∧True) (cnd (decide (a.price≥(-2000000))) (cnd (!decide (a.price≤2000000)) (∃(d:Unit),a.orderE=23∧True) (cnd (decide (a.inst<0)) (∃(d:Unit),a.orderE=20∧True) (cnd (decide (a.inst>255)) (∃(d:Unit),a.orderE=20∧True) (∃(d:Unit),a.orderE=0∧True)))) (∃(d:Unit),a.orderE=23∧True))
def yLq (c:Cmd):Prop:=
 cnd (c.side !=1) (cnd (c.side !=2) (∃(a:Unit),c.orderE=21∧True) (cnd (decide (c.time<1)) (∃(a:Unit),c.orderE=27∧True) (cnd (decide (c.time>3)) (∃(a:Unit),c.orderE=27∧True) (cnd (decide (c.qty≥1)) (cnd (!decide (c.qty≤1000000)) (∃(a:Unit),c.orderE=24∧True) (cnd (decide (c.least<0)) (∃(a:Unit),c.orderE=28∧True) (cnd (decide (c.least>c.qty)) (∃(a:Unit),c.orderE=28∧True) (cnd (!(sb c.label).toList==(ByteArray.mk #[]).toList) (zKf c) (cnd (decide (c.price≥(-2000000))) (cnd (!decide (c.price≤2000000)) (∃(a:Unit),c.orderE=23∧True) (cnd (decide (c.inst<0)) (∃(a:Unit),c.orderE=20∧True) (cnd (decide (c.inst>255)) (∃(a:Unit),c.orderE=20∧True) (∃(a:Unit),c.orderE=0∧True)))) (∃(a:Unit),c.orderE=23∧True)))))) (∃(a:Unit),c.orderE=24∧True))))) (cnd (decide (c.time<1)) (∃(a:Unit),c.orderE=27∧True) (cnd (decide (c.time>3)) (∃(a:Unit),c.orderE=27∧True) (cnd (decide (c.qty≥1)) (cnd (!decide (c.qty≤1000000)) (∃(a:Unit),c.orderE=24∧True) (cnd (decide (c.least<0)) (∃(a:Unit),c.orderE=28∧True) (cnd (decide (c.least>c.qty)) (∃(a:Unit),c.orderE=28∧True) (cnd (!(sb c.label).toList==(ByteArray.mk #[]).toList) (zKf c) (cnd (decide (c.price≥(-2000000))) (cnd (!decide (c.price≤2000000)) (∃(a:Unit),c.orderE=23∧True) (cnd (decide (c.inst<0)) (∃(a:Unit),c.orderE=20∧True) (cnd (decide (c.inst>255)) (∃(a:Unit),c.orderE=20∧True) (∃(a:Unit),c.orderE=0∧True)))) (∃(a:Unit),c.orderE=23∧True)))))) (∃(a:Unit),c.orderE=24∧True))))
def yBt (c:Cmd):Prop:=
 cnd (decide (c.kind<1)) (∃(a:Unit),c.right=31∧True) (cnd (decide (c.kind>4)) (∃(a:Unit),c.right=31∧True) (cnd (decide (c.id<1)) (∃(a:Unit),c.right=1∧True) (cnd (decide (c.id>1099511627776)) (∃(a:Unit),c.right=1∧True) (cnd (c.kind==1) (∃(a:Cmd),a.kind=c.kind∧a.id=c.id∧a.inst=c.inst∧a.side=c.side∧a.price=c.price∧a.qty=c.qty∧a.least=c.least∧a.time=c.time∧sb a.label=sb c.label∧a.label.length≤140737488355328∧∀(b:Unit),True→∃(d:Unit),c.right=a.orderE∧True) (cnd (c.kind !=2) (cnd (decide (c.qty≥1)) (cnd (!decide (c.qty≤1000000)) (∃(a:Unit),c.right=24∧True) (cnd (c.kind==4) (cnd (decide (c.price≥(-2000000))) (cnd (!decide (c.price≤2000000)) (∃(a:Unit),c.right=23∧True) (∃(a:Unit),c.right=0∧True)) (∃(a:Unit),c.right=23∧True)) (∃(a:Unit),c.right=0∧True))) (∃(a:Unit),c.right=24∧True)) (cnd (c.kind==4) (cnd (decide (c.price≥(-2000000))) (cnd (!decide (c.price≤2000000)) (∃(a:Unit),c.right=23∧True) (∃(a:Unit),c.right=0∧True)) (∃(a:Unit),c.right=23∧True)) (∃(a:Unit),c.right=0∧True)))))))
open Go Cv Go.Proofs
theorem yUr (s:List UInt8) (h:labC.cnd s):yTg s:=by
 have h:s.length≤140737488355328:=h
 have hr:=zEs s
 unfold yTg x3 fX
 refine⟨(0,0),rfl,rfl,rfl,fun x=>x.1≤s.length∧x.2+(u9 s x.1).length=(kP s).length∧(kP s).all zNs=(u9 s x.1).all fun x=>zNs x.2,fun x=>s.length-x.1,⟨by omega,by rw[kP,yWm];simp,by rw[kP,List.all_map];rfl⟩,?_⟩
 rintro⟨p,n⟩ ⟨h1,h2,h3⟩
 dsimp only at h1 h2 h3 ⊢
 refine Cv.cnd.mk (fun hp=> ?_) (fun hp=> ?_)
 ·have hp:p<s.length:=by simpa[yZs]using hp
  have hw:=bY s hp
  rw[wI hp,yWs]at h2
  rw[wI hp,List.all_cons]at h3
  generalize hc:(Utf8.decode (sb s) p).1=c at h2 h3 ⊢
  generalize hww:(Utf8.decode (sb s) p).2=w at h2 h3 hw ⊢
  dsimp only at h3
  have bad:zNs c=false→∃(o:Unit),cE s=false∧True:=fun e=>⟨(),by rw[cE,h3,e];rfl,trivial⟩
  refine zK (fun c1=>bad ?_) (fun c1=>Cv.cnd.mk (fun c2=>bad ?_) (fun c2=>Cv.cnd.mk (fun c3=>bad ?_) (fun c3=> ?_)))
  ·simp[zNs];omega
  ·have c2:(c:Int)=127:=by simpa using c2
   simp[zNs];omega
  ·have c3:(c:Int)=65533:=by simpa using c3
   simp[zNs];omega
  ·have c2:¬(c:Int)=127:=by simpa using c2
   have c3:¬(c:Int)=65533:=by simpa using c3
   have e:zNs c=true:=by simp[zNs];omega
   refine⟨(p+w,n+1),?_,rfl,rfl,⟨hw.2,by(first|omega|(dsimp only;omega)),by rw[h3,e];rfl⟩,by(first|omega|(dsimp only;omega)),trivial⟩
   rw[w64 (by omega)];rfl
 ·have hp:s.length≤p:=by have:=z4n hp;simpa using this
  rw[fV hp]at h2 h3
  have h2:n=(kP s).length:=h2
  have h3:(kP s).all zNs=true:=h3
  refine zK (fun c=>⟨(),?_,trivial⟩) (fun c=>⟨(),?_,trivial⟩)
  ·rw[cE,h3,← h2,yXb (show 1≤n by omega)]
   simp only[yZl]
   congr 1
   simp only[eq_iff_iff];omega
  ·rw[cE,← h2,yWx (show ¬1≤n by omega)];simp
theorem yRg:labC.ok Tryz.prog 203:=okw mixed gok0 0 (fun _=>[]) (fun s=>yVz s) [] Tryz.func203 yUr
theorem yVu (a b:Int):(a==b)=decide (a=b):=by
 by_cases h:a=b
 ·subst h;simp
 ·simp[h]
theorem yUg (a b:Int):(a !=b)=decide (a≠b):=by
 by_cases h:a=b
 ·subst h;simp
 ·simp[h]
theorem eqB (a b:List UInt8):((sb a).toList==(sb b).toList)=decide (a=b):=by
 rw[nI,nI]
 by_cases h:a=b
 ·subst h;simp
 ·simp[h]
theorem yOf:ByteArray.mk #[]=sb []:=rfl
theorem yTq (c:Cmd) (h:cmdOrdC.cnd c):yLq c:=by
 have h:c.label.length≤140737488355328:=h
 unfold yLq zKf
 simp only[yOf,eqB,yUg]
 have tail:¬(c.side≠1∧c.side≠2)→cnd (decide (c.time<1)) (∃(o:Unit),c.orderE=27∧True) (cnd (decide (c.time>3)) (∃(o:Unit),c.orderE=27∧True) (cnd (decide (c.qty≥1)) (cnd (!decide (c.qty≤1000000)) (∃(o:Unit),c.orderE=24∧True) (cnd (decide (c.least<0)) (∃(o:Unit),c.orderE=28∧True) (cnd (decide (c.least>c.qty)) (∃(o:Unit),c.orderE=28∧True) (cnd (!decide (c.label=[])) (∃(i:List UInt8),sb i=sb c.label∧i.length≤140737488355328∧∀(o:Unit),True→cnd (!cE i) (∃(o:Unit),c.orderE=29∧True) (cnd (decide (c.price≥-2000000)) (cnd (!decide (c.price≤2000000)) (∃(o:Unit),c.orderE=23∧True) (cnd (decide (c.inst<0)) (∃(o:Unit),c.orderE=20∧True) (cnd (decide (c.inst>255)) (∃(o:Unit),c.orderE=20∧True) (∃(o:Unit),c.orderE=0∧True)))) (∃(o:Unit),c.orderE=23∧True))) (cnd (decide (c.price≥-2000000)) (cnd (!decide (c.price≤2000000)) (∃(o:Unit),c.orderE=23∧True) (cnd (decide (c.inst<0)) (∃(o:Unit),c.orderE=20∧True) (cnd (decide (c.inst>255)) (∃(o:Unit),c.orderE=20∧True) (∃(o:Unit),c.orderE=0∧True)))) (∃(o:Unit),c.orderE=23∧True)))))) (∃(o:Unit),c.orderE=24∧True))):=by
  intro hs
  have e1:c.orderE=if c.time<1∨3<c.time then 27 else if vD c.qty=false then 24 else if c.least<0∨c.qty<c.least then 28
   else if c.label≠[]∧cE c.label=false then 29 else if fZ c.price=false then 23 else if c.inst<0∨255<c.inst then 20 else 0:=by rw[Cmd.orderE,yWk hs]
  refine zK (fun d1=>⟨(),by rw[e1,yWl (.inl d1)],trivial⟩) fun d1=>zK (fun d2=>⟨(),by rw[e1,yWl (.inr d2)],trivial⟩) fun d2=> ?_
  rw[yWk (by omega)]at e1
  have q (hq:vD c.qty=false):∃(o:Unit),c.orderE=24∧True:=⟨(),by rw[e1,yWl hq],trivial⟩
  refine zK (fun d3=>Cv.cnd.mk (fun d4=>q ?_) fun d4=> ?_) fun d3=>q ?_
  ·have d4:¬c.qty≤1000000:=by simpa using d4
   simp[vD,d4]
  ·have d4:c.qty≤1000000:=by simpa using d4
   have hq:¬vD c.qty=false:=by simp[vD,d4];omega
   rw[yWk hq]at e1
   refine zK (fun d5=>⟨(),by rw[e1,yWl (.inl d5)],trivial⟩) fun d5=>zK (fun d6=>⟨(),by rw[e1,yWl (.inr d6)],trivial⟩) fun d6=> ?_
   rw[yWk (by omega)]at e1
   have last:¬(c.label≠[]∧cE c.label=false)→cnd (decide (c.price≥-2000000)) (cnd (!decide (c.price≤2000000)) (∃(o:Unit),c.orderE=23∧True) (cnd (decide (c.inst<0)) (∃(o:Unit),c.orderE=20∧True) (cnd (decide (c.inst>255)) (∃(o:Unit),c.orderE=20∧True) (∃(o:Unit),c.orderE=0∧True)))) (∃(o:Unit),c.orderE=23∧True):=by
    intro hl
    rw[yWk hl]at e1
    have pr (hq:fZ c.price=false):∃(o:Unit),c.orderE=23∧True:=⟨(),by rw[e1,yWl hq],trivial⟩
    refine zK (fun g1=>Cv.cnd.mk (fun g2=>pr ?_) fun g2=> ?_) fun g1=>pr ?_
    ·have g2:¬c.price≤2000000:=by simpa using g2
     simp[fZ,g2]
    ·have g2:c.price≤2000000:=by simpa using g2
     have hp:¬fZ c.price=false:=by simp[fZ,g2];omega
     rw[yWk hp]at e1
     refine zK (fun g3=>⟨(),by rw[e1,yWl (.inl g3)],trivial⟩) fun g3=>zK (fun g4=>⟨(),by rw[e1,yWl (.inr g4)],trivial⟩) fun g4=>⟨(),by rw[e1,yWk (by omega)],trivial⟩
    ·simp[fZ];omega
   refine Cv.cnd.mk (fun d7=>⟨c.label,rfl,h,fun _ _=>Cv.cnd.mk (fun d8=> ?_) fun d8=>last ?_⟩) fun d7=>last ?_
   ·have d7:¬c.label=[]:=by simpa using d7
    have d8:cE c.label=false:=by simpa using d8
    exact⟨(),by rw[e1,yWl ⟨d7,d8⟩],trivial⟩
   ·have d8:cE c.label=true:=by simpa using d8
    simp[d8]
   ·have d7:c.label=[]:=by simpa using d7
    simp[d7]
  ·simp[vD];omega
 refine zK (fun c1=>zK (fun c2=>⟨(),by rw[Cmd.orderE,yWl ⟨c1,c2⟩],trivial⟩) fun c2=>tail ?_) fun c1=>tail ?_
 ·omega
 ·omega
theorem yJk:cmdOrdC.ok Tryz.prog 163:=okw mixed (gokc yRg gok0) 1 (fun _=>[]) (fun _=>[]) [] Tryz.func163 yTq
theorem yMo (c:Cmd) (h:cmdRtC.cnd c):yBt c:=by
 have h:c.label.length≤140737488355328:=h
 unfold yBt
 simp only[yVu,yUg]
 refine zK (fun c1=>⟨(),by rw[Cmd.right,yWl (.inl c1)],trivial⟩) fun c1=>zK (fun c2=>⟨(),by rw[Cmd.right,yWl (.inr c2)],trivial⟩) fun c2=> ?_
 refine zK (fun c3=>⟨(),by rw[Cmd.right,yWk (by omega),yWl (.inl c3)],trivial⟩) fun c3=>zK (fun c4=>⟨(),by rw[Cmd.right,yWk (by omega),yWl (.inr c4)],trivial⟩) fun c4=> ?_
 have e0:c.right=if c.kind=1 then c.orderE else if c.kind≠2∧vD c.qty=false then 24 else if c.kind=4∧fZ c.price=false then 23 else 0:=by rw[Cmd.right,yWk (by omega),yWk (by omega)]
 refine zK (fun c5=>⟨c,?_⟩) fun c5=> ?_
 ·rw[yWl c5]at e0
  exact kp
 rw[yWk c5]at e0
 have last (hn:¬(c.kind≠2∧vD c.qty=false)):cnd (decide (c.kind=4)) (cnd (decide (c.price≥-2000000)) (cnd (!decide (c.price≤2000000)) (∃(o:Unit),c.right=23∧True) (∃(o:Unit),c.right=0∧True)) (∃(o:Unit),c.right=23∧True)) (∃(o:Unit),c.right=0∧True):=by
  rw[yWk hn]at e0
  refine zK (fun d1=>zK (fun d2=>Cv.cnd.mk (fun d3=> ?_) fun d3=> ?_) fun d2=> ?_) fun d1=> ?_
  ·have d3:¬c.price≤2000000:=by simpa using d3
   exact⟨(),by rw[e0,yWl ⟨d1,by simp[fZ,d3]⟩],trivial⟩
  ·have d3:c.price≤2000000:=by simpa using d3
   exact⟨(),by rw[e0,yWk (by simp[fZ,d3];omega)],trivial⟩
  ·exact⟨(),by rw[e0,yWl ⟨d1,by simp[fZ];omega⟩],trivial⟩
  ·exact⟨(),by rw[e0,yWk (by simp[d1])],trivial⟩
 refine zK (fun d1=>zK (fun d2=>Cv.cnd.mk (fun d3=> ?_) fun d3=>last ?_) fun d2=> ?_) fun d1=>last ?_
 ·have d3:¬c.qty≤1000000:=by simpa using d3
  exact⟨(),by rw[e0,yWl ⟨d1,by simp[vD,d3]⟩],trivial⟩
 ·have d3:c.qty≤1000000:=by simpa using d3
  simp[vD,d3];omega
 ·exact⟨(),by rw[e0,yWl ⟨d1,by simp[vD];omega⟩],trivial⟩
 ·omega
theorem z8o:cmdRtC.ok Tryz.prog 111:=okw mixed (gokc yJk gok0) 1 (fun _=>[]) (fun _=>[]) [] Tryz.func111 yMo
open Go Cv Go.Proofs
structure SoI where
 s:MSt
 p:Prd
 B:List (List zJ)
 inst:Int
 sd:Bool
@[reducible] def SoI.ok (i:SoI):Prop:=i.s.Rep i.p i.B∧i.B.length≤1000
def atB (B:List (List zJ)) (inst:Int):List zJ:=if inst<0 then[]else B.getD inst.toNat []
def sladC:Con:=con1 SoI (fun i=>[.nm 0 0,zA i.inst,zA (zD i.sd)]) (fun i=>[zE i.s]) (fun i=>i.ok) (fun _=> .own 1) (fun i=>[zE i.s,.own 41 3 ((uS (atB i.B i.inst) (zD i.sd)).map lvE)])
open Go Cv Go.Proofs
def bJ (a:SoI):=(uS (atB a.B a.inst) (zD a.sd))
def zJd (a:SoI):Prop:=∃(b:Unit),sb a.s.p.code=sb a.s.p.code∧a.s.p.tick=a.s.p.tick∧a.s.p.low=a.s.p.low∧a.s.p.high=a.s.p.high∧a.s.p.wide=a.s.p.wide∧a.s.p.rule=a.s.p.rule∧a.s.p.top=a.s.p.top∧a.s.p.least=a.s.p.least∧a.s.p.part=a.s.p.part∧AObj.objs 241 Book 6 zS a.s.books none=AObj.objs 241 Book 6 zS a.s.books none∧yW a.s.wh=yW a.s.wh∧AObj.fro 1 (iE a.s.p.months)=AObj.fro 1 (iE a.s.p.months)∧AObj.fro 1 (iE a.s.p.settle)=AObj.fro 1 (iE a.s.p.settle)∧List.map lvE (bJ a)=[]∧True
def yLg (i:SoI):Prop:=
 cnd (decide (i.inst≥0)) (cnd (!decide (i.inst<(↑i.s.books.length:Int))) (zJd i) ((0≤i.inst∧i.inst<(↑i.s.books.length:Int))∧i.inst.toNat<i.s.books.length∧∃(a:Book),i.s.books[i.inst.toNat]?=some a∧∃(b:BkT),zD b.s=zD i.sd∧z8 b.b=z8 a∧b.b.Rep b.L∧∀(c:Unit),True→∃(d:Book),z8 b.b=z8 d∧i.inst.toNat=i.inst.toNat∧i.inst.toNat<i.s.books.length∧∃(e:Unit),sb i.s.p.code=sb i.s.p.code∧i.s.p.tick=i.s.p.tick∧i.s.p.low=i.s.p.low∧i.s.p.high=i.s.p.high∧i.s.p.wide=i.s.p.wide∧i.s.p.rule=i.s.p.rule∧i.s.p.top=i.s.p.top∧i.s.p.least=i.s.p.least∧i.s.p.part=i.s.p.part∧AObj.objs 241 Book 6 zS i.s.books none=AObj.objs 241 Book 6 zS (i.s.books.set i.inst.toNat d) none∧yW i.s.wh=yW i.s.wh∧AObj.fro 1 (iE i.s.p.months)=AObj.fro 1 (iE i.s.p.months)∧AObj.fro 1 (iE i.s.p.settle)=AObj.fro 1 (iE i.s.p.settle)∧List.map lvE (bJ i)=List.map lvE (uS b.L (zD b.s))∧True)) (zJd i)
open Go Cv Go.Proofs
theorem yJc {B:List (List zJ)} {inst:Int} {L:List zJ} (h0:0≤inst) (hL:B[inst.toNat]? =some L):atB B inst=L:=by
 rw[atB,yWk (by omega),zT hL]
theorem yHs {B:List (List zJ)} {inst:Int} (h:inst<0∨(B.length:Int)≤inst):atB B inst=[]:=by
 rw[atB]
 split
 ·rfl
 ·rw[yWt,yXr (by omega)];rfl
theorem yRx (i:SoI) (h:sladC.cnd i):yLg i:=by
 obtain⟨hR,hB⟩:i.s.Rep i.p i.B∧i.B.length≤1000:=h
 have hbl:=hR.bl
 have out (hx:i.inst<0∨(i.B.length:Int)≤i.inst):List.map lvE (uS (atB i.B i.inst) (zD i.sd))=[]:=by
  rw[yHs hx];rfl
 unfold yLg zJd bJ
 refine zK (fun c=>Cv.cnd.mk (fun d=> ?_) (fun d=> ?_)) (fun c=> ?_)
 ·have d:¬i.inst<(i.s.books.length:Int):=by simpa using d
  rw[out (.inr (by omega))];exact⟨(),by(repeat'(first|exact trivial|exact rfl|apply And.intro))⟩
 ·have d:i.inst<(i.s.books.length:Int):=by simpa using d
  obtain⟨b,hb⟩:=z6 (l:=i.s.books) (i:=i.inst.toNat) (by omega)
  obtain⟨L,hL⟩:=z6 (l:=i.B) (i:=i.inst.toNat) (by omega)
  refine⟨⟨c,d⟩,by omega,b,hb,⟨b,L,i.sd⟩,rfl,rfl,hR.bk _ b L hb hL,fun _ _=>⟨b,rfl,rfl,by omega,?_⟩⟩
  rw[vY hb,yJc c hL]
  exact⟨(),by(repeat'(first|exact trivial|exact rfl|apply And.intro))⟩
 ·rw[out (.inl (by omega))];exact⟨(),by(repeat'(first|exact trivial|exact rfl|apply And.intro))⟩
theorem yGx:sladC.ok Tryz.prog 107:=okw mixed (gokc yNa gok0) 1 (fun _=>[]) (fun _=>[]) [0] Tryz.func107 yRx
open Go Cv Go.Proofs
def zVd (s:Int) (F:List zJ):Prop:=F.Pairwise fun o o'=>btr s o'.price o.price=false
def sN (L:List zJ) (s:Int):List zJ:=L.filter fun o=>decide (o.side=s)
structure BWf (p:Prd) (B:List (List zJ)):Prop where
 ok:BOk p B
 od:yGh B
 ub:((whL 0 B).map (·.1)).Nodup
 srt:∀(k:Nat) (L:List zJ),B[k]? =some L→∀s,s=1∨s=2→zVd s (sN L s)
theorem zXg {s:Int} {b:Book} {Q:List (List Nat)}:∀{R:List xH},(R.Pairwise fun r r'=>btr s r.price r'.price=true)→zVd s (R.flatMap (b.rOrds Q s))
 |[],_=>List.Pairwise.nil
 |r::R,h=>by
  rw[yYk]at h
  rw[yYf,zVd,List.pairwise_append]
  refine⟨List.pairwise_of_forall_mem_list fun o ho o' ho'=> ?_,zXg h.2,fun o ho o' ho'=> ?_⟩
  ·rw[(qA ho).2,(qA ho').2];exact lE _ _
  ·obtain⟨r',hr',ho'⟩:=yZf.1 ho'
   rw[(qA ho).2,(qA ho').2];exact zWy (h.1 r' hr')
theorem Book.Rep.srt {b:Book} {L:List zJ} (h:b.Rep L) {s:Int} (hs:s=1∨s=2):zVd s (sN L s):=by
 obtain⟨Q,c,ht,rfl⟩:=h
 rw[sN,zOi hs]
 exact zXg (c.srt s hs)
theorem MSt.Rep.wf {s:MSt} {p:Prd} {B:List (List zJ)} (h:s.Rep p B) (hb:BOk p B):BWf p B:=by
 refine⟨hb,h.ords,h.ids,fun k L hL=> ?_⟩
 obtain⟨b,hb⟩:=z6 (l:=s.books) (i:=k) (by rw[h.bl];exact(yWn.1 hL).1)
 exact fun s hs=>(h.bk k b L hb hL).srt hs
theorem z8w {L:List zJ} (h:∀o∈L,zJh o) (hn:(L.map (·.id)).Nodup) (id q:Int):∀o∈(xV L id q).1,zJh o:=by
 intro o ho
 rw[xV]at ho
 split at ho
 ·exact h o ho
 split at ho
 ·exact h o ho
 rename_i hb
 obtain⟨o',ho',e⟩:=y1w.1 ho
 have h0:=h o' ho'
 split at e
 ·rename_i e1
  have hg:=pH hn ho'
  rw[e1]at hg
  rw[hg]at hb
  split at e
  ·cases e
  ·rename_i e2
   cases e
   have:=h0.q
   exact⟨h0.s,by dsimp only;omega⟩
 ·cases e;exact h0
theorem z9n (L:List zJ) (id q:Int):(xV L id q).1.length≤L.length:=by
 rw[xV]
 split
 ·exact yXs _
 split
 ·exact yXs _
 exact List.length_filterMap_le _ _
theorem yEg {L:List zJ} {s:Int} (h:zVd s (sN L s)) (id q:Int):zVd s (sN (xV L id q).1 s):=by
 rw[xV]
 split
 ·exact h
 split
 ·exact h
 have e:sN (uN L id q) s=uN (sN L s) id q:=by
  rw[sN,sN,uN,uN,List.filter_filterMap,List.filterMap_filter]
  refine bN fun o _=> ?_
  by_cases e1:o.id=id
  ·rw[yWl e1]
   by_cases e2:o.qty=q
   ·rw[yWl e2];simp
   ·rw[yWk e2];by_cases e3:o.side=s<;>simp[Option.filter,e3]
  ·rw[yWk e1];by_cases e3:o.side=s<;>simp[Option.filter,e3]
 rw[e,uN]
 refine List.Pairwise.filterMap _ (fun a a' haa b hb b' hb'=> ?_) h
 have g:∀{a b:zJ},(if a.id=id then(if a.qty=q then none else some {a with qty:=a.qty-q})else some a)=some b→b.price=a.price:=by
  intro a b e
  split at e
  ·split at e
   ·cases e
   ·cases e;rfl
  ·cases e;rfl
 rw[g hb,g hb'];exact haa
theorem yJh {B:List (List zJ)} (h:((whL 0 B).map (·.1)).Nodup) {k:Nat} {L L':List zJ} (hL:B[k]? =some L) (hs:(L'.map (·.id)).Sublist (L.map (·.id))):((whL 0 (B.set k L')).map (·.1)).Nodup:=by
 have hk:=(yWn.1 hL).1
 obtain⟨rest,hr⟩:=zIt (B:=B) 0 k hk
 have h0:=hr L
 rw[vY hL]at h0
 have h1:=(h0.map (·.1)).nodup_iff.1 h
 refine((hr L').map (·.1)).nodup_iff.2 ?_
 rw[yWw,yZc]at h1 ⊢
 exact h1.sublist (List.Sublist.append hs (List.Sublist.refl _))
theorem BWf.take {p:Prd} {B:List (List zJ)} (h:BWf p B) (id q:Int):BWf p (kK B id q).1:=by
 refine⟨h.ok.take id q,?_,?_,?_⟩
 all_goals
  rw[kK]
  cases hi:aG B id with
  |none=>first|exact h.od|exact h.ub|exact h.srt
  |some k=>
   obtain⟨L,hL,hh⟩:=hU hi
   have ho:=h.od k L hL
   dsimp only
   rw[zT hL]
   first
   |(intro j M hM
     rcases cS hM with⟨rfl,rfl⟩|⟨_,hM⟩
     ·refine⟨z8w ho.1 ho.2.1 id q,?_,y0j (z9n L id q) ho.2.2⟩
      rcases zKy ho.2.1 id q with⟨e,_⟩|⟨e,_⟩
      ·rw[e];exact ho.2.1
      ·rw[e];exact ho.2.1.sublist (List.Sublist.map _ y2h)
     ·exact h.od j M hM)
   |(refine yJh h.ub hL ?_
     rcases zKy ho.2.1 id q with⟨e,_⟩|⟨e,_⟩
     ·rw[e];exact List.Sublist.refl _
     ·rw[e];exact List.Sublist.map _ y2h)
   |(intro j M hM s hs
     rcases cS hM with⟨rfl,rfl⟩|⟨_,hM⟩
     ·exact yEg (h.srt _ L hL s hs) id q
     ·exact h.srt j M hM s hs)
theorem BWf.takes {p:Prd}:∀{fs:List cH} {B:List (List zJ)},BWf p B→BWf p (kJ B fs)
 |[],B,h=>h
 |f::fs,B,h=>BWf.takes (fs:=fs) (h.take f.id f.qty)
open Go Cv Go.Proofs
theorem zOo {p:Prd} {B:List (List zJ)} (h:BWf p B) {inst:Int} {sd:Bool} {price q:Int} {t:wE} {B':List (List zJ)} (e:bX p B inst sd price q=some (t,B')):BWf p B'∧B'.length=B.length:=by
 rw[bX]at e
 dsimp only at e
 split at e
 ·split at e
  ·cases e;exact⟨h.takes.takes,by rw[uA,uA]⟩
  ·cases e;exact⟨h.takes,by rw[uA]⟩
 ·cases e
theorem mG {p:Prd} {inst:Int} {sd:Bool} {price:Int}:∀(m:Nat) (q:Int) (B:List (List zJ)),q.toNat≤m→BWf p B→BWf p (wD p B inst sd price q).B∧(wD p B inst sd price q).B.length=B.length∧(0≤q→0≤(wD p B inst sd price q).left∧(wD p B inst sd price q).left≤q)
 |m,q,B,hm,h=>by
  by_cases hq:q≤0
  ·rw[tD (.inl hq)]
   exact⟨h,rfl,fun x=>⟨x,y0b _⟩⟩
  cases hs:bX p B inst sd price q with
  |none=>
   rw[tD (.inr hs)]
   exact⟨h,rfl,fun x=>⟨x,y0b _⟩⟩
  |some x=>
   obtain⟨t,C⟩:=x
   obtain⟨k1,k2⟩:=zOo h hs
   have hq2:=zMx (by omega) hs
   cases m with
   |zero=>omega
   |succ m=>
   obtain⟨i1,i2,i3⟩:=mG (p:=p) (inst:=inst) (sd:=sd) (price:=price) m (q-t.qty) C (by omega) k1
   rw[zJm (by omega) hs]
   exact⟨i1,i2.trans k2,fun _=>⟨(i3 (by omega)).1,by dsimp only;have:=(i3 (by omega)).2;omega⟩⟩
open Go Cv Go.Proofs
@[reducible] def RunI.ok (i:RunI):Prop:=i.s.Rep i.p i.B∧BOk i.p i.B∧(0≤i.inst∧i.inst<i.B.length)∧1≤i.q∧i.q≤1000000
def scouldC:Con:=con1 RunI (fun i=>[.nm 0 0,zA i.inst,zA (zD i.sd),zA i.price,zA i.q]) (fun i=>[zE i.s]) (fun i=>i.ok) (fun i=>zA (i.q-i.r.left)) (fun i=>[zE i.s])
def bP (p:Prd) (B:List (List zJ)) (inst:Int) (sd:Bool) (price q:Int):Bool:=
 decide ((wD p B inst sd price q).left≠0) && (kE ⟨p,(wD p B inst sd price q).B.map qU,inst⟩ (zD (!sd))).any fun x=>cL sd price x.price
def stuckC:Con:=con1 RunI (fun i=>[.nm 0 0,zA i.inst,zA (zD i.sd),zA i.price,zA i.q]) (fun i=>[zE i.s]) (fun i=>i.ok) (fun i=>yG (bP i.p i.B i.inst i.sd i.price i.q)) (fun i=>[zE i.s])
def z8j (B:List (List zJ)):Nat:=(whL 0 B).length
def countC16:Con:=con1 SoI (fun i=>[.nm 0 0]) (fun i=>[zE i.s]) (fun i=>i.ok) (fun i=>zA (z8j i.B)) (fun i=>[zE i.s])
def fM (p:Prd) (inst price:Int):Int×Int×Int:=
 if(p.legs inst).2.2=false then(0,0,20)else if p.price inst price≠0 then(0,0,p.price inst price)else
 let far:=p.settle.getD (p.legs inst).2.1.toNat 0
 let a:=if p.high<far+price then(p.high,p.high-price)else(far+price,far)
 if a.1<p.low then(p.low,p.low-price,0)else(a.1,a.2,0)
structure LpI where
 p:Prd
 inst:Int
 price:Int
def lpricesC:Con:=con1 LpI (fun i=>[prdV i.p,zA i.inst,zA i.price]) (fun _=>[]) (fun i=>i.p.check=0∧i.p.small∧yV i.price) (fun i=> .tup [zA (fM i.p i.inst i.price).1,zA (fM i.p i.inst i.price).2.1,zA (fM i.p i.inst i.price).2.2]) (fun _=>[])
def ijj (t u:Nat):SAnn:={ι:=Int×Int,slots:=fun n=>[(t,zA n.1),(u,zA n.2)],rows:=fun _=>[]}
def lpJ:List (Nat×SAnn):=[(50,ijj 15 14),(58,ijj 15 14)]
def yOs:List SAnn:=[{ι:=Nat,slots:=fun j=>[(40,zA j)],rows:=fun _=>[]}]
def yOg:List (Nat×SAnn):=[(8,{ι:=Unit,slots:=fun _=>[],rows:=fun _=>[],opn:=[11]})]
open Go Cv Go.Proofs
def wO (a:Book):Prop:=(a.a.slots.length≤1000000∧a.a.queues.length≤1000000)∧a.buys.length≤1000000∧a.sells.length≤1000000∧a.spare.length≤1000000
def gK (a:MSt):Prop:=a.books.length≤1000000∧∀(b:Book),b∈a.books→wO b
def qL (a:RunI):Prop:=a.s.Rep a.p a.B∧BOk a.p a.B∧(0≤a.inst∧a.inst<(↑a.B.length:Int))∧1≤a.q∧a.q≤1000000
def zAh (a:RunI):Prop:=∃(b:MSt),sb b.p.code=sb a.s.p.code∧b.p.tick=a.s.p.tick∧b.p.low=a.s.p.low∧b.p.high=a.s.p.high∧b.p.wide=a.s.p.wide∧b.p.rule=a.s.p.rule∧b.p.top=a.s.p.top∧b.p.least=a.s.p.least∧b.p.part=a.s.p.part∧AObj.objs 241 Book 6 zS b.books none=AObj.objs 241 Book 6 zS a.s.books none∧yW b.wh=yW a.s.wh∧AObj.fro 1 (iE b.p.months)=AObj.fro 1 (iE a.s.p.months)∧AObj.fro 1 (iE b.p.settle)=AObj.fro 1 (iE a.s.p.settle)∧(gK b)∧∀(c:Unit),True→∃(d:RunI),d.inst=a.inst∧zD d.sd=zD a.sd∧d.price=a.price∧d.q=a.q∧zE d.s=zE b∧(qL d)∧∀(e:MSt),e.Rep d.p d.r.B→∃(f:Unit),a.q-a.r.left=IntKind.i64.wrap (a.q-d.r.left)∧zE a.s=zE b∧True
def vN (a:RunI):Prop:=∃(b:Unit),a.q-a.r.left=0∧sb a.s.p.code=sb a.s.p.code∧a.s.p.tick=a.s.p.tick∧a.s.p.low=a.s.p.low∧a.s.p.high=a.s.p.high∧a.s.p.wide=a.s.p.wide∧a.s.p.rule=a.s.p.rule∧a.s.p.top=a.s.p.top∧a.s.p.least=a.s.p.least∧a.s.p.part=a.s.p.part∧AObj.objs 241 Book 6 zS a.s.books none=AObj.objs 241 Book 6 zS a.s.books none∧yW a.s.wh=yW a.s.wh∧AObj.fro 1 (iE a.s.p.months)=AObj.fro 1 (iE a.s.p.months)∧AObj.fro 1 (iE a.s.p.settle)=AObj.fro 1 (iE a.s.p.settle)∧True
def z3z (i:RunI):Prop:=
 cnd (decide (i.inst≥0)) (cnd (decide (i.inst<(↑i.s.books.length:Int))) (cnd (zD i.sd==1) (cnd (decide (i.q≥1)) (cnd (!decide (i.q≤1000000)) (vN i) (zAh i)) (vN i)) (cnd (zD i.sd==2) (cnd (decide (i.q≥1)) (cnd (!decide (i.q≤1000000)) (vN i) (zAh i)) (vN i)) (vN i))) (vN i)) (vN i)
def zVx (i:SoI):Prop:=
 ∃(a:Unit),(↑(z8j i.B):Int)=(↑(yW i.s.wh).length:Int)∧sb i.s.p.code=sb i.s.p.code∧i.s.p.tick=i.s.p.tick∧i.s.p.low=i.s.p.low∧i.s.p.high=i.s.p.high∧i.s.p.wide=i.s.p.wide∧i.s.p.rule=i.s.p.rule∧i.s.p.top=i.s.p.top∧i.s.p.least=i.s.p.least∧i.s.p.part=i.s.p.part∧AObj.objs 241 Book 6 zS i.s.books none=AObj.objs 241 Book 6 zS i.s.books none∧yW i.s.wh=yW i.s.wh∧AObj.fro 1 (iE i.s.p.months)=AObj.fro 1 (iE i.s.p.months)∧AObj.fro 1 (iE i.s.p.settle)=AObj.fro 1 (iE i.s.p.settle)∧True
def cD (a:Int×Int→Prop) (b:Int×Int) (c:LpI):Prop:=a b∧Sx.AObj.cells [V.d (D.v (Value.string (sb c.p.code))),V.own 0,V.d (dI c.p.tick),V.d (dI c.p.low),V.d (dI c.p.high),V.d (dI c.p.wide),V.d (dI c.p.rule),V.d (dI c.p.top),V.d (dI c.p.least),V.d (dI c.p.part),V.own ((0:Nat)+(1:Nat))] 25=Sx.AObj.cells [V.d (D.v (Value.string (sb c.p.code))),V.own 0,V.d (dI c.p.tick),V.d (dI c.p.low),V.d (dI c.p.high),V.d (dI c.p.wide),V.d (dI c.p.rule),V.d (dI c.p.top),V.d (dI c.p.least),V.d (dI c.p.part),V.own ((0:Nat)+(1:Nat))] 25∧AObj.fro 1 (iE c.p.settle)=AObj.fro 1 (iE c.p.settle)∧AObj.fro 1 (iE c.p.months)=AObj.fro 1 (iE c.p.months)
def yX (a:LpI):=(fM a.p a.inst a.price)
def zWl (i:LpI):Prop:=
 ∃(a:Prd),sb a.code=sb i.p.code∧iE a.months=iE i.p.months∧a.tick=i.p.tick∧a.low=i.p.low∧a.high=i.p.high∧a.wide=i.p.wide∧a.rule=i.p.rule∧a.top=i.p.top∧a.least=i.p.least∧a.part=i.p.part∧iE a.settle=iE i.p.settle∧(zY a)∧∀(b:Unit),True→cnd (a.check !=0) (∃(c:Unit),(yX i).fst=0∧(yX i).snd.fst=0∧(yX i).snd.snd=1∧True) (∃(c:cI),sb c.p.code=sb i.p.code∧iE c.p.months=iE i.p.months∧c.p.tick=i.p.tick∧c.p.low=i.p.low∧c.p.high=i.p.high∧c.p.wide=i.p.wide∧c.p.rule=i.p.rule∧c.p.top=i.p.top∧c.p.least=i.p.least∧c.p.part=i.p.part∧iE c.p.settle=iE i.p.settle∧c.n=i.inst∧(kU c)∧∀(d:Unit),True→cnd (!(c.p.legs c.n).snd.snd) (∃(e:Unit),(yX i).fst=0∧(yX i).snd.fst=0∧(yX i).snd.snd=20∧True) (∃(e:r9),sb e.p.code=sb i.p.code∧iE e.p.months=iE i.p.months∧e.p.tick=i.p.tick∧e.p.low=i.p.low∧e.p.high=i.p.high∧e.p.wide=i.p.wide∧e.p.rule=i.p.rule∧e.p.top=i.p.top∧e.p.least=i.p.least∧e.p.part=i.p.part∧iE e.p.settle=iE i.p.settle∧e.a=i.inst∧e.b=i.price∧(x0 e)∧∀(f:Unit),True→cnd (e.p.price e.a e.b !=0) (∃(g:Unit),(yX i).fst=0∧(yX i).snd.fst=0∧(yX i).snd.snd=e.p.price e.a e.b∧True) ((0≤(c.p.legs c.n).snd.fst∧(c.p.legs c.n).snd.fst<(↑(iE i.p.settle).length:Int))∧∃(g:Int),zF (iE i.p.settle) (c.p.legs c.n).snd.fst.toNat 0 1=some [dI g]∧∃(h:Int×Int),∃(j:Int×Int→Prop),cnd (decide (IntKind.i64.wrap (g+i.price)>i.p.high)) (∃(k:Int×Int),k.fst=i.p.high∧k.snd=IntKind.i64.wrap (i.p.high-i.price)∧cD j k i) (∃(k:Int×Int),k.fst=IntKind.i64.wrap (g+i.price)∧k.snd=g∧cD j k i)∧∀(k:Int×Int),j k→∃(l:Int×Int),∃(m:Int×Int→Prop),cnd (decide (k.fst<i.p.low)) (∃(n:Int×Int),n.fst=i.p.low∧n.snd=IntKind.i64.wrap (i.p.low-i.price)∧cD m n i) (∃(n:Int×Int),n.fst=k.fst∧n.snd=k.snd∧cD m n i)∧∀(n:Int×Int),m n→∃(p:Unit),(yX i).fst=n.fst∧(yX i).snd.fst=n.snd∧(yX i).snd.snd=0∧True)))
def zBe (a:MSt) (b:MSt):Prop:=sb a.p.code=sb b.p.code∧True∧a.p.tick=b.p.tick∧a.p.low=b.p.low∧a.p.high=b.p.high∧a.p.wide=b.p.wide∧a.p.rule=b.p.rule∧a.p.top=b.p.top∧a.p.least=b.p.least∧a.p.part=b.p.part∧True∧True
def yFh (i:RunI):Prop:=
 ∃(a:MSt),zE a=zE i.s∧(gK a)∧∀(b:Unit),True→∃(c:RunI),c.inst=i.inst∧zD c.sd=zD i.sd∧c.price=i.price∧c.q=i.q∧zE c.s=zE a∧(qL c)∧∀(d:MSt),d.Rep c.p c.r.B→cnd (c.r.left==0) (∃(e:Unit),bP i.p i.B i.inst i.sd i.price i.q=false∧zE i.s=zE a∧True) (∃(e:MSt),sb e.p.code=sb d.p.code∧e.p.tick=d.p.tick∧e.p.low=d.p.low∧e.p.high=d.p.high∧e.p.wide=d.p.wide∧e.p.rule=d.p.rule∧e.p.top=d.p.top∧e.p.least=d.p.least∧e.p.part=d.p.part∧AObj.objs 241 Book 6 zS e.books none=AObj.objs 241 Book 6 zS d.books none∧yW e.wh=yW d.wh∧AObj.fro 1 (iE e.p.months)=AObj.fro 1 (iE d.p.months)∧AObj.fro 1 (iE e.p.settle)=AObj.fro 1 (iE d.p.settle)∧(f7 e)∧∀(f:Unit),True→(zBe e d)∧∃(g:Bool),zD g=zD i.sd∧True∧∀(h:Unit),True→(zBe e d)∧∃(j:tK),sb j.i.p.code=sb d.p.code∧iE j.i.p.months=iE e.p.months∧j.i.p.tick=d.p.tick∧j.i.p.low=d.p.low∧j.i.p.high=d.p.high∧j.i.p.wide=d.p.wide∧j.i.p.rule=d.p.rule∧j.i.p.top=d.p.top∧j.i.p.least=d.p.least∧j.i.p.part=d.p.part∧iE j.i.p.settle=iE e.p.settle∧List.map zX j.i.tops=List.map zX e.tops∧j.i.inst=i.inst∧zD j.s=zD !g∧(kC j)∧∀(k:Unit),True→∃(l:Nat),(↑l:Int)=0∧∃(m:Nat→Prop),∃(n:Nat→Nat),m l∧∀(p:Nat),m p→cnd (decide ((↑p:Int)<(gL j))) ((0≤(↑p:Int)∧(↑p:Int)<(gL j))∧∃(q:Int),∃(r:Int),∃(s:Int),∃(t:Int),∃(u:Int),∃(v:Int),zF (k0 j) (↑p:Int).toNat 0 6=some [dI q,dI r,dI s,dI t,dI u,dI v]∧∃(w:GoI),zD w.s=zD i.sd∧w.p=i.price∧w.x=q∧True∧∀(x:Unit),True→cnd (cL w.s w.p w.x) (∃(y:Unit),bP i.p i.B i.inst i.sd i.price i.q=true∧zE i.s=zE a∧True) (∃(y:Nat),(↑y:Int)=IntKind.i64.wrap ((↑p:Int)+1)∧m y∧n y<n p∧AObj.own 259 6 (k0 j)=AObj.own 259 6 (k0 j)∧Sx.AObj.cells (vK (cM 5 (1+((2:Nat)-(1:Nat))+((2:Nat)-(1:Nat))+((5:Nat)-(1:Nat))) ((6:Nat)-(5:Nat)) [((2:Nat),1+((2:Nat)-(1:Nat))+((2:Nat)-(1:Nat))+nat_lit 1),((1:Nat),1+((2:Nat)-(1:Nat))+((2:Nat)-(1:Nat))+nat_lit 0),((4:Nat),1+((2:Nat)-(1:Nat))+((2:Nat)-(1:Nat))+nat_lit 3),((3:Nat),1+((2:Nat)-(1:Nat))+((2:Nat)-(1:Nat))+nat_lit 2),((0:Nat),1+nat_lit 0)]) [sV e.p.code,V.own 3,zA e.p.tick,zA e.p.low,zA e.p.high,zA e.p.wide,zA e.p.rule,zA e.p.top,zA e.p.least,zA e.p.part,V.own 4,V.own 1,V.mp 2]) (240:TypeId)=Sx.AObj.cells (vK (cM 5 (1+((2:Nat)-(1:Nat))+((2:Nat)-(1:Nat))+((5:Nat)-(1:Nat))) ((6:Nat)-(5:Nat)) [((2:Nat),1+((2:Nat)-(1:Nat))+((2:Nat)-(1:Nat))+nat_lit 1),((1:Nat),1+((2:Nat)-(1:Nat))+((2:Nat)-(1:Nat))+nat_lit 0),((4:Nat),1+((2:Nat)-(1:Nat))+((2:Nat)-(1:Nat))+nat_lit 3),((3:Nat),1+((2:Nat)-(1:Nat))+((2:Nat)-(1:Nat))+nat_lit 2),((0:Nat),1+nat_lit 0)]) [sV e.p.code,V.own 3,zA e.p.tick,zA e.p.low,zA e.p.high,zA e.p.wide,zA e.p.rule,zA e.p.top,zA e.p.least,zA e.p.part,V.own 4,V.own 1,V.mp 2]) (240:TypeId)∧AObj.objs 241 Book 6 zS e.books none=AObj.objs 241 Book 6 zS e.books none∧Sx.AObj.map (yW e.wh)=Sx.AObj.map (yW e.wh)∧AObj.fro 1 (iE e.p.months)=AObj.fro 1 (iE e.p.months)∧AObj.fro 1 (iE e.p.settle)=AObj.fro 1 (iE e.p.settle)∧AObj.fro 6 (List.map zX e.tops)=AObj.fro 6 (List.map zX e.tops)∧AObj.fro 1 (iE d.p.months)=AObj.fro 1 (iE d.p.months)∧AObj.fro 1 (iE d.p.settle)=AObj.fro 1 (iE d.p.settle)∧AObj.own 321 4 (List.map j9 c.r.steps)=AObj.own 321 4 (List.map j9 c.r.steps)∧zE a=zE a)) (∃(q:Unit),bP i.p i.B i.inst i.sd i.price i.q=false∧zE i.s=zE a∧True))
open Go Cv Go.Proofs
theorem MSt.Rep.small {s:MSt} {p:Prd} {B:List (List zJ)} (h:s.Rep p B) (hb:BOk p B):s.small:=by
 have:=xS p
 refine⟨by rw[h.bl,hb.bl];omega,fun b hm=> ?_⟩
 obtain⟨k,hk⟩:=yZd.1 hm
 have hlt:=(yWn.1 hk).1
 rw[h.bl]at hlt
 obtain⟨L,hL⟩:=z6 hlt
 obtain⟨Q,c,_⟩:=h.bk k b L hk hL
 exact c.small
theorem yIy (i:RunI) (h:scouldC.cnd i):z3z i:=by
 have h':i.ok:=h
 obtain⟨hR,hB,⟨h0,h1⟩,hq1,hq2⟩:=h'
 have hbl:=hR.bl
 have hl:=(mG (inst:=i.inst) (sd:=i.sd) (price:=i.price) _ i.q i.B (yXs _) (hR.wf hB)).2.2 (by omega)
 have er:i.r=wD i.p i.B i.inst i.sd i.price i.q:=rfl
 unfold z3z vN zAh qL gK wO
 refine(fun hT=>zK (fun c=>zK (fun c2=>Cv.cnd.mk (fun _=>zK (fun _=>Cv.cnd.mk (fun e=>absurd hq2 (by simpa using e)) (fun _=>hT)) (fun e=>absurd hq1 e)) (fun e1=>Cv.cnd.mk (fun _=>zK (fun _=>Cv.cnd.mk (fun e=>absurd hq2 (by simpa using e)) (fun _=>hT)) (fun e=>absurd hq1 e)) (fun e2=>by
  rcases zDb i.sd with e|e
  ·rw[e]at e1;cases e1
  ·rw[e]at e2;cases e2))) (fun c2=>absurd (by omega) c2)) (fun c=>absurd h0 c)) ?_
 refine⟨i.s,rfl,rfl,rfl,rfl,rfl,rfl,rfl,rfl,rfl,rfl,rfl,rfl,rfl,hR.small hB,fun _ _=>⟨i,rfl,rfl,rfl,rfl,rfl,h,fun o ho=>⟨(),?_,rfl,trivial⟩⟩⟩
 rw[w64 (by rw[er];omega)]
theorem z7y:scouldC.ok Tryz.prog 167:=okw mixed (gokc zCc (gokc z0s gok0)) 2 (fun _=>[]) (fun _=>[]) [0] Tryz.func167 yIy
theorem yFk (i:SoI) (h:countC16.cnd i):zVx i:=by
 obtain⟨hR,hB⟩:i.s.Rep i.p i.B∧i.B.length≤1000:=h
 unfold zVx
 have e:(yW i.s.wh).length=z8j i.B:=by rw[yW,yWm,hR.wh.length_eq,z8j]
 exact⟨(),by rw[e],by(repeat'(first|exact trivial|exact rfl|apply And.intro))⟩
theorem zZo:countC16.ok Tryz.prog 166:=okw mixed gok0 0 (fun _=>[]) (fun _=>[]) [0] Tryz.func166 yFk
theorem zVo {p:Prd} {i n:Int} (h:p.price i n=0):0≤i∧i<p.count:=by
 rw[Prd.price]at h
 split at h
 ·cases h
 split at h
 ·cases h
 omega
theorem z9z (i:LpI) (h:lpricesC.cnd i):zWl i:=by
 obtain⟨hc,hp,hpr⟩:i.p.check=0∧i.p.small∧yV i.price:=h
 unfold zWl cD yX zY kU x0 dI
 refine⟨i.p,rfl,rfl,rfl,rfl,rfl,rfl,rfl,rfl,rfl,rfl,rfl,hp,fun _ _=>Cv.cnd.mk (fun e=>by rw[hc]at e;cases e) (fun _=> ?_)⟩
 refine⟨⟨i.p,i.inst⟩,rfl,rfl,rfl,rfl,rfl,rfl,rfl,rfl,rfl,rfl,rfl,rfl,hp,fun _ _=>Cv.cnd.mk (fun e=> ?_) (fun e=> ?_)⟩
 ·have e:(i.p.legs i.inst).2.2=false:=by simpa using e
  have h0:fM i.p i.inst i.price=(0,0,20):=by rw[fM,yWl e]
  rw[h0];exact⟨(),rfl,rfl,rfl,trivial⟩
 have e:(i.p.legs i.inst).2.2=true:=by simpa using e
 refine⟨⟨i.p,i.inst,i.price⟩,rfl,rfl,rfl,rfl,rfl,rfl,rfl,rfl,rfl,rfl,rfl,rfl,rfl,hp,fun _ _=>Cv.cnd.mk (fun e2=> ?_) (fun e2=> ?_)⟩
 ·have e2:¬i.p.price i.inst i.price=0:=by simpa using e2
  have h0:fM i.p i.inst i.price=(0,0,i.p.price i.inst i.price):=by rw[fM,yWk (by rw[e];decide),yWl e2]
  rw[h0];exact⟨(),rfl,rfl,rfl,trivial⟩
 have e2:i.p.price i.inst i.price=0:=by simpa using e2
 have hin:=zVo e2
 have hbd:=sS hc e2
 have ok:=jM hc
 have b1:=ok.b1
 have b2:=ok.b2
 have b3:=ok.b3
 have s1:=ok.s1
 have s2:=ok.s2
 have s3:=ok.s3
 obtain⟨k,hk⟩:∃k:Nat,i.inst=k:=⟨i.inst.toNat,by omega⟩
 have hl:=cA hc (k:=k) (by omega)
 rw[← hk]at hl
 rcases hl with⟨_,_,_,l3,l4⟩|⟨x,_⟩
 rotate_left
 ·rw[e]at x;cases x
 have hsl:(iE i.p.settle).length=i.p.settle.length:=xF _
 obtain⟨n,hn⟩:=z6 (l:=i.p.settle) (i:=(i.p.legs i.inst).2.1.toNat) (by omega)
 have hm:=yWu hn
 have m1:=z3c hm
 have m2:=z2t hm
 have hg:i.p.settle.getD (i.p.legs i.inst).2.1.toNat 0=n:=zT hn
 have h0:fM i.p i.inst i.price=(if(if i.p.high<n+i.price then(i.p.high,i.p.high-i.price)else(n+i.price,n)).1<i.p.low then(i.p.low,i.p.low-i.price,0)else((if i.p.high<n+i.price then(i.p.high,i.p.high-i.price)else(n+i.price,n)).1,(if i.p.high<n+i.price then(i.p.high,i.p.high-i.price)else(n+i.price,n)).2,0)):=by
  rw[fM,yWk (by rw[e];decide),yWk (by rw[e2];decide)]
  dsimp only
  rw[hg]
 dsimp only
 refine⟨⟨l3,by omega⟩,n,elI hn,(0,0),fun a=>a=if i.p.high<n+i.price then(i.p.high,i.p.high-i.price)else(n+i.price,n),zK (fun c=>⟨(i.p.high,i.p.high-i.price),rfl,(w64 (by omega)).symm,?_,by(repeat'(first|exact trivial|exact rfl|apply And.intro))⟩) (fun c=>⟨(n+i.price,n),(w64 (by omega)).symm,rfl,?_,by(repeat'(first|exact trivial|exact rfl|apply And.intro))⟩),?_⟩
 ·rw[w64 (by omega)]at c;rw[yWl c]
 ·rw[w64 (by omega)]at c;rw[yWk c]
 rintro _ rfl
 generalize (if i.p.high<n+i.price then(i.p.high,i.p.high-i.price)else(n+i.price,n))=a at h0 ⊢
 refine⟨(0,0),fun b=>b=if a.1<i.p.low then(i.p.low,i.p.low-i.price)else a,zK (fun c=>⟨(i.p.low,i.p.low-i.price),rfl,(w64 (by omega)).symm,by rw[yWl c],by(repeat'(first|exact trivial|exact rfl|apply And.intro))⟩) (fun c=>⟨a,rfl,rfl,by rw[yWk c],by(repeat'(first|exact trivial|exact rfl|apply And.intro))⟩),?_⟩
 rintro _ rfl
 rw[h0]
 by_cases c:a.1<i.p.low
 ·rw[yWl c,yWl c];exact⟨(),rfl,rfl,rfl,trivial⟩
 ·rw[yWk c,yWk c];exact⟨(),rfl,rfl,rfl,trivial⟩
theorem z1g:lpricesC.ok Tryz.prog 264:=okw mixed (gokc sY (gokc eO (gokc sW gok0))) 0 (fun _=>lpJ) (fun _=>[]) [] Tryz.func264 z9z
theorem yJp {l:List Quote} {k:Nat} {q:Quote} (h:l[k]? =some q):zF (l.map zL) k 0 6=some [D.v (.int .i64 q.price),D.v (.int .i64 q.qty),D.v (.int .i64 q.a.inst),D.v (.int .i64 q.a.side),D.v (.int .i64 q.b.inst),D.v (.int .i64 q.b.side)]:=elA h (by simp[zL]) rfl
theorem yRd (i:RunI) (h:stuckC.cnd i):yFh i:=by
 have h':i.ok:=h
 obtain⟨hR,hB,⟨h0,h1⟩,hq1,hq2⟩:=h'
 have hwf:=hR.wf hB
 obtain⟨k1,k2,k3⟩:=mG (inst:=i.inst) (sd:=i.sd) (price:=i.price) _ i.q i.B (yXs _) hwf
 have hcl:=xS i.p
 unfold yFh zBe qL gK wO gL k0 kC gX f7 dI
 refine⟨i.s,rfl,hR.small hB,fun _ _=>⟨i,rfl,rfl,rfl,rfl,rfl,h,fun o ho=> ?_⟩⟩
 have er:i.r=wD i.p i.B i.inst i.sd i.price i.q:=rfl
 have es:bP i.p i.B i.inst i.sd i.price i.q=(decide ((wD i.p i.B i.inst i.sd i.price i.q).left≠0) && (kE ⟨i.p,(wD i.p i.B i.inst i.sd i.price i.q).B.map qU,i.inst⟩ (zD (!i.sd))).any fun x=>cL i.sd i.price x.price):=rfl
 rw[er]at ho ⊢
 rw[es]
 generalize wD i.p i.B i.inst i.sd i.price i.q=R at*
 obtain⟨ts,lf,RB⟩:=R
 dsimp only at*
 refine Cv.cnd.mk (fun e=>⟨(),?_,rfl,trivial⟩) (fun e=> ?_)
 ·have e:lf=0:=by simpa using e
  rw[e];rfl
 have e:lf≠0:=by simpa using e
 rw[yXb e,yZl]
 have ep:=ho.ep
 have hB':=k1.ok
 have hbl:=hB'.bl
 have hcnt:o.cntOk:=ho.cnt (by omega)
 have hps:o.p.small:=by rw[ep];exact hB'.ps
 have hto:vE (RB.map qU):=hB'.tops
 have hle:=zDu ⟨o.p,RB.map qU,i.inst⟩ (zD (!i.sd))
 refine⟨o,rfl,rfl,rfl,rfl,rfl,rfl,rfl,rfl,rfl,rfl,rfl,rfl,rfl,hcnt,fun _ _=>⟨⟨rfl,trivial,rfl,rfl,rfl,rfl,rfl,rfl,rfl,rfl,trivial,trivial⟩,i.sd,rfl,trivial,fun _ _=>⟨⟨rfl,trivial,rfl,rfl,rfl,rfl,rfl,rfl,rfl,rfl,trivial,trivial⟩,⟨⟨o.p,RB.map qU,i.inst⟩,!i.sd⟩,rfl,rfl,rfl,rfl,rfl,rfl,rfl,rfl,rfl,rfl,rfl,by rw[ho.tops],rfl,rfl,⟨hps,hto⟩,fun _ _=> ?_⟩⟩⟩
 dsimp only
 rw[← ep]
 generalize kE ⟨o.p,RB.map qU,i.inst⟩ (zD (!i.sd))=Q at*
 have e4:(Q.map zL).length=Q.length:=yWm ..
 refine⟨0,rfl,fun j=>j≤Q.length∧(Q.take j).any (fun x=>cL i.sd i.price x.price)=false,fun j=>Q.length-j,⟨yYa _,rfl⟩,?_⟩
 rintro j ⟨j1,j2⟩
 refine zK (fun c=> ?_) (fun c=>⟨(),?_,rfl,trivial⟩)
 ·obtain⟨q,hq⟩:=z6 (l:=Q) (i:=j) (by omega)
  refine⟨⟨by omega,by omega⟩,_,_,_,_,_,_,yJp hq,⟨i.sd,i.price,q.price⟩,rfl,rfl,rfl,trivial,fun _ _=>Cv.cnd.mk (fun g=>⟨(),?_,rfl,trivial⟩) (fun g=>⟨j+1,wjn (by omega),⟨by omega,?_⟩,by dsimp only;omega,by(repeat'(first|exact trivial|exact rfl|apply And.intro))⟩)⟩
  ·rw[List.any_eq_true];exact⟨q,yWu hq,g⟩
  ·rw[yXw,hq,List.any_append,j2]
   show(false||([q].any fun x=>cL i.sd i.price x.price))=false
   simp only[List.any_cons,List.any_nil,Bool.or_false,y2j]
   exact g
 ·have:j=Q.length:=by omega
  rw[this,yXc (yXs _)]at j2
  exact j2
theorem zWj:stuckC.ok Tryz.prog 168:=okw mixed (gokc zCc (gokc z0s (gokc zUe (gokc z9m (gokc zQd (gokc zYi gok0)))))) 0 (fun _=>yOg) (fun _=>yOs) [] Tryz.func168 yRd
open Go Cv Go.Proofs
def p9 (c:Cmd) (why:Int):List Rep:=[⟨2,c.id,0,0,0,0,0,why⟩]
def ofF (x:wE) (k:Int):Int:=match x.fills.find? fun f=>decide (f.inst=k)with
 |some f=>f.price
 |none=>x.price
def wQ (p:Prd) (inst:Int) (x:wE):Int×Int:=if x.implied=false then((fM p inst x.price).1,(fM p inst x.price).2.1)else(ofF x (p.legs inst).1,ofF x (p.legs inst).2.1)
def zIa (p:Prd) (r:Rep) (near far:Int):List Rep:=[{r with inst:=(p.legs r.inst).1,price:=near},{r with inst:=(p.legs r.inst).2.1,side:=3-r.side,price:=far}]
def rU (p:Prd) (x:wE) (r:Rep):List Rep:=r::if(p.legs r.inst).2.2=true then zIa p r (wQ p r.inst x).1 (wQ p r.inst x).2 else[]
def zDh (f:cH):Rep:=⟨3,f.id,f.inst,f.side,f.price,f.qty,f.left,0⟩
def mH (p:Prd) (c:Cmd) (x:wE) (left:Int):List Rep:=x.fills.flatMap (fun f=>rU p x (zDh f))++rU p x ⟨3,c.id,c.inst,c.side,x.price,x.qty,left,0⟩
def pR (p:Prd) (c:Cmd):List wE→Int→List Rep
 |[],_=>[]
 |x::l,left=>mH p c x (left-x.qty)++pR p c l (left-x.qty)
structure MkX where
 B:List (List zJ)
 U:List Int
 R:List Rep
def zNz (U:List Int) (id:Int):List Int:=if id∈U then U else U++[id]
def aZ (p:Prd) (B:List (List zJ)) (U:List Int) (c:Cmd):MkX:=match wD p B c.inst (decide (c.side=2)) c.price c.qty with
 |⟨ts,left,B'⟩=>⟨if left≠0∧c.time=1 then(zZw p B' c.inst c.id c.side c.price left).1 else B',zNz U c.id,
  (⟨1,c.id,c.inst,c.side,c.price,c.qty,c.qty,0⟩::pR p c ts c.qty)++if left≠0∧c.time≠1 then[⟨4,c.id,c.inst,c.side,c.price,left,0,0⟩]else[]⟩
def Cmd.lst (c:Cmd):Int:=if c.time=3 then c.qty else c.least
def tL (p:Prd) (B:List (List zJ)) (U:List Int) (c:Cmd):MkX:=
 if p.price c.inst c.price≠0 then⟨B,U,p9 c (p.price c.inst c.price)⟩
 else if c.id∈U then⟨B,U,p9 c 25⟩
 else if 250≤z8j B then⟨B,U,p9 c 13⟩
 else if 0<c.lst∧c.qty-(wD p B c.inst (decide (c.side=2)) c.price c.qty).left<c.lst then⟨B,U,p9 c 28⟩
 else if c.time=1∧bP p B c.inst (decide (c.side=2)) c.price c.qty=true then⟨B,U,p9 c 23⟩
 else aZ p B U c
def aQ (B:List (List zJ)) (U:List Int) (id inst:Int) (o:zJ):MkX:=⟨(kK B id o.qty).1,U,[⟨4,id,inst,o.side,o.price,o.qty,0,0⟩]⟩
def zDj (B:List (List zJ)) (U:List Int) (id q inst:Int) (o:zJ):MkX:=⟨(kK B id q).1,U,[⟨5,id,inst,o.side,o.price,q,o.qty-q,0⟩]⟩
def bT (p:Prd) (B:List (List zJ)) (U:List Int) (c:Cmd) (inst:Int) (o:zJ):MkX:=
 if p.price inst c.price≠0 then⟨B,U,p9 c (p.price inst c.price)⟩
 else if c.price=o.price∧c.qty≤o.qty then zDj B U c.id (o.qty-c.qty) inst o
 else if bP p (kK B c.id o.qty).1 inst (decide (o.side=2)) c.price c.qty=true then⟨B,U,p9 c 23⟩
 else
  let x:=aQ B U c.id inst o
  let y:=aZ p x.B U ⟨1,c.id,inst,o.side,c.price,c.qty,0,1,[]⟩
  ⟨y.B,y.U,x.R++y.R⟩
def doF (p:Prd) (B:List (List zJ)) (U:List Int) (c:Cmd):MkX:=
 if c.right≠0 then⟨B,U,p9 c c.right⟩
 else if c.kind=1 then tL p B U c
 else if(yH B c.id).2.2=false then⟨B,U,p9 c 26⟩
 else if c.kind=4 then bT p B U c (yH B c.id).1 (yH B c.id).2.1
 else if c.kind=2∨(yH B c.id).2.1.qty≤c.qty then aQ B U c.id (yH B c.id).1 (yH B c.id).2.1
 else zDj B U c.id c.qty (yH B c.id).1 (yH B c.id).2.1
structure Mkt.Rep (m:Mkt) (p:Prd) (B:List (List zJ)) (U:List Int):Prop where
 ep:m.p=p
 s:m.s.Rep p B
 u:m.used=U
@[reducible] def zDd (m:Mkt):List AObj:=[y3 m 0,y3 m 1,y3 m 2,y3 m 3,y3 m 4]
@[reducible] def yLy (x:wE):V:= .agg [zA x.price,zA x.qty,yG x.implied,roV 6 (x.fills.map yS)]
@[reducible] def tRp:Nat:=85
@[reducible] def zZc (l:List Rep):AObj:= .own tRp 8 (l.map x6)
structure RjI where
 c:Cmd
 why:Int
def rejC:Con:=con1 RjI (fun i=>[zNr i.c,zA i.why]) (fun _=>[]) (fun _=>True) (fun _=> .own 0) (fun i=>[zZc (p9 i.c i.why)])
structure MsI where
 m:Mkt
 r:Rep
 near:Int
 far:Int
@[reducible] def Mkt.fine (m:Mkt):Prop:=m.p.check=0∧m.p.small
def mspreadC:Con:=con1 MsI (fun i=>[.nm 0 0,yVk i.r,zA i.near,zA i.far]) (fun i=>zDd i.m) (fun i=>i.m.fine∧(i.r.side=1∨i.r.side=2)) (fun _=> .own 5) (fun i=>zDd i.m++[zZc (zIa i.m.p i.r i.near i.far)])
structure MiN where
 m:Mkt
 inst:Int
def misC:Con:=con1 MiN (fun i=>[.nm 0 0,zA i.inst]) (fun i=>zDd i.m) (fun i=>i.m.fine) (fun i=>yG (i.m.p.legs i.inst).2.2) (fun i=>zDd i.m)
structure OfI where
 x:wE
 k:Int
@[reducible] def zYe (x:wE) (n:Nat):List AObj:=[.cells [zA x.price,zA x.qty,yG x.implied,.own n] 321,.fro 6 (x.fills.map yS)]
def ofC:Con:=con1 OfI (fun i=>[zA i.k,.nm 0 0]) (fun i=>zYe i.x 1) (fun i=>i.x.fills.length≤1000000) (fun i=>zA (ofF i.x i.k)) (fun i=>zYe i.x 1)
def ofA:List SAnn:=[{ι:=Nat,slots:=fun j=>[(9,zA j)],rows:=fun _=>[]}]
structure MpI where
 m:Mkt
 inst:Int
 x:wE
def mpricesC:Con:=con1 MpI (fun i=>[.nm 0 0,zA i.inst,yLy i.x]) (fun i=>zDd i.m) (fun i=>i.m.fine∧yV i.x.price∧i.x.fills.length≤1000000) (fun i=> .tup [zA (wQ i.m.p i.inst i.x).1,zA (wQ i.m.p i.inst i.x).2]) (fun i=>zDd i.m)
structure StI' where
 m:Mkt
 c:Cmd
 x:wE
 left:Int
def StI'.out (i:StI') (j:Nat):List Rep:=(i.x.fills.take j).flatMap fun f=>rU i.m.p i.x (zDh f)
def mstepC:Con:=con1 StI' (fun i=>[.nm 0 0,zNr i.c,yLy i.x,zA i.left]) (fun i=>zDd i.m) (fun i=>i.m.fine∧yV i.x.price∧i.x.fills.length≤1000000∧(i.c.side=1∨i.c.side=2)∧∀f∈i.x.fills,f.side=1∨f.side=2) (fun _=> .own 5) (fun i=>zDd i.m++[zZc (mH i.m.p i.c i.x i.left)])
def yNg (i:StI'):List SAnn:=[{ι:=Nat,slots:=fun j=>[(9,.nm 0 0),(17,zA j)],rows:=fun j=>[.cells [.own 1] 106,zZc (i.out j)]}]
end Sx
