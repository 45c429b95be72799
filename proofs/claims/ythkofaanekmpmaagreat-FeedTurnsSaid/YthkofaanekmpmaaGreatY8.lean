/- Texts of ours, one behind the other: a walk that the kernel reckons, and contracts of functions. No condition. -/
import Derived.Test.YthkofaanekmpmaaGreatY7
open Sx.AObj renaming fro→aa,objs→ab,adt→ac,cells→ae,own→af,map→ag
open List renaming map→aj,replicate→ak,take→am
open Bool renaming false→ao,true→ap
open Go.IntKind renaming i64→aq
open Option renaming some→ar,none→au
open Exists renaming intro→av
open And renaming intro→aw
open Go.Value renaming int→ax,string→ay
namespace Sx
set_option linter.unusedVariables false
set_option maxRecDepth 100000
open Go Cv Go.Proofs
def zDk (a:Nat→Prop) (b:Nat) (c:Nat→Nat) (d:Nat) (e:BkL) (f:ArN):Prop:=a b∧c b<c d∧ae (vI (jE 0 1 6) [V.nm 1 0,V.own 2,V.own 3,V.mp 4,zA e.b.top1,zA e.b.top2,V.own 5,yF e.b.has1,yF e.b.has2]) (299:TypeId)=ae (vI (jE 0 1 6) [V.nm 1 0,V.own 2,V.own 3,V.mp 4,zA e.b.top1,zA e.b.top2,V.own 5,yF e.b.has1,yF e.b.has2]) (299:TypeId)∧ac Arena 3 zG f.a=ac Arena 3 zG e.b.a∧af 304 2 (aj zC e.b.buys)=af 304 2 (aj zC e.b.buys)∧af 304 2 (aj zC e.b.sells)=af 304 2 (aj zC e.b.sells)∧ag (atE e.b.at_)=ag (atE e.b.at_)∧af 3 1 (iE e.b.spare)=af 3 1 (iE e.b.spare)
def bG (a:Nat) (b:BkL):=(am a (uU b.L (zD ao)))
def yMq (i:BkL):Prop:=
 ∃(a:Int),a=zD ao∧True∧∀(b:Unit),True→cnd (qR a) (∃(c:Unit),i.b.top1=i.b.top1∧i.b.top2=i.b.top2∧i.b.has1=i.b.has1∧i.b.has2=i.b.has2∧ac Arena 3 zG i.b.a=ac Arena 3 zG i.b.a∧aj zC i.b.buys=aj zC i.b.buys∧aj zC i.b.sells=aj zC i.b.sells∧atE i.b.at_=atE i.b.at_∧iE i.b.spare=iE i.b.spare∧aj lvE (uU i.L (zD ao))=[]∧True) (∃(c:Nat),(↑c:Int)=0∧aj lvE (bG c i)=[]∧∃(d:Nat→Prop),∃(e:Nat→Nat),d c∧∀(f:Nat),d f→cnd (decide ((↑f:Int)<(↑(aj zC i.b.buys).length:Int))) ((0≤(↑f:Int)∧(↑f:Int)<(↑(aj zC i.b.buys).length:Int))∧∃(g:Int),∃(h:Int),zE (aj zC i.b.buys) (↑f:Int).toNat 0 2=ar [dI g,dI h]∧∃(j:ArN),j.n=h∧ac Arena 3 zG j.a=ac Arena 3 zG i.b.a∧True∧∀(k:Unit),True→h=h∧True∧g=g∧∃(l:ArN),l.n=h∧ac Arena 3 zG l.a=ac Arena 3 zG j.a∧True∧∀(m:Unit),True→g=g∧((aj lvE (bG f i)).length+1)*(24:Nat)≤(140737488355328:Nat)∧∃(n:Nat),(↑n:Int)=aq.wrap ((↑f:Int)+1)∧aj lvE (bG n i)=aj lvE (bG f i)++[[dI g,dI ((j.a.qAt j.n).total),dI ((l.a.qAt l.n).count)]]∧zDk d n e f i l) (∃(g:Unit),i.b.top1=i.b.top1∧i.b.top2=i.b.top2∧i.b.has1=i.b.has1∧i.b.has2=i.b.has2∧ac Arena 3 zG i.b.a=ac Arena 3 zG i.b.a∧aj zC i.b.buys=aj zC i.b.buys∧aj zC i.b.sells=aj zC i.b.sells∧atE i.b.at_=atE i.b.at_∧iE i.b.spare=iE i.b.spare∧aj lvE (uU i.L (zD ao))=aj lvE (bG f i)∧True))
def bC (a:Nat) (b:BkL):=(am a (uU b.L (zD ap)))
def yNi (i:BkL):Prop:=
 ∃(a:Int),a=zD ap∧True∧∀(b:Unit),True→cnd (qR a) (∃(c:Unit),i.b.top1=i.b.top1∧i.b.top2=i.b.top2∧i.b.has1=i.b.has1∧i.b.has2=i.b.has2∧ac Arena 3 zG i.b.a=ac Arena 3 zG i.b.a∧aj zC i.b.buys=aj zC i.b.buys∧aj zC i.b.sells=aj zC i.b.sells∧atE i.b.at_=atE i.b.at_∧iE i.b.spare=iE i.b.spare∧aj lvE (uU i.L (zD ap))=[]∧True) (∃(c:Nat),(↑c:Int)=0∧aj lvE (bC c i)=[]∧∃(d:Nat→Prop),∃(e:Nat→Nat),d c∧∀(f:Nat),d f→cnd (decide ((↑f:Int)<(↑(aj zC i.b.sells).length:Int))) ((0≤(↑f:Int)∧(↑f:Int)<(↑(aj zC i.b.sells).length:Int))∧∃(g:Int),∃(h:Int),zE (aj zC i.b.sells) (↑f:Int).toNat 0 2=ar [dI g,dI h]∧∃(j:ArN),j.n=h∧ac Arena 3 zG j.a=ac Arena 3 zG i.b.a∧True∧∀(k:Unit),True→h=h∧True∧g=g∧∃(l:ArN),l.n=h∧ac Arena 3 zG l.a=ac Arena 3 zG j.a∧True∧∀(m:Unit),True→g=g∧((aj lvE (bC f i)).length+1)*(24:Nat)≤(140737488355328:Nat)∧∃(n:Nat),(↑n:Int)=aq.wrap ((↑f:Int)+1)∧aj lvE (bC n i)=aj lvE (bC f i)++[[dI g,dI ((j.a.qAt j.n).total),dI ((l.a.qAt l.n).count)]]∧zDk d n e f i l) (∃(g:Unit),i.b.top1=i.b.top1∧i.b.top2=i.b.top2∧i.b.has1=i.b.has1∧i.b.has2=i.b.has2∧ac Arena 3 zG i.b.a=ac Arena 3 zG i.b.a∧aj zC i.b.buys=aj zC i.b.buys∧aj zC i.b.sells=aj zC i.b.sells∧atE i.b.at_=atE i.b.at_∧iE i.b.spare=iE i.b.spare∧aj lvE (uU i.L (zD ap))=aj lvE (bC f i)∧True))
def pT (a:Nat×Top→Prop) (b:Nat×Top) (c:MSt) (d:Nat) (e:Book):Prop:=a b∧af 3 1 [[dI 1],[dI 2]]=af 3 1 [[dI 1],[dI 2]]∧xL c 0=xL c 0∧ab 241 Book 6 zS (c.books.set (↑d:Int).toNat e) au=xL c 1∧xL c 2=xL c 2∧xL c 3=xL c 3∧xL c 4=xL c 4
def zBu (a:MSt) (b:Nat×Top) (c:Nat×Top→Prop) (d:Nat) (e:Book):Prop:=∃(f:Nat×Top),aj zX (xN a f.fst f.snd)=aj zX (xN a b.fst b.snd)∧pT c f a d e
def yDl (s:MSt):Prop:=
 (lG s)∧∃(a:Nat),(↑a:Int)=0∧aj zX (xX s a)=ak (↑s.books.length:Int).toNat [D.v (.bool ao),D.v (.bool ao),dI 0,dI 0,dI 0,dI 0]∧∃(b:Nat→Prop),∃(c:Nat→Nat),b a∧∀(d:Nat),b d→cnd (decide ((↑d:Int)<(↑s.books.length:Int))) ((0≤(↑d:Int)∧(↑d:Int)<(↑s.books.length:Int))∧(↑d:Int).toNat<s.books.length∧∃(e:Nat×Top),aj zX (xN s e.fst e.snd)=aj zX (xX s d)∧∃(f:Nat×Top→Prop),(((0:Int)≤(0:Int)∧0<(↑(2:Nat):Int))∧∃(g:Int),zE [[dI 1],[dI 2]] (Int.toNat 0) 0 1=ar [dI g]∧∃(h:Book),s.books[(↑d:Int).toNat]?=ar h∧∃(j:BkS),zD j.side=g∧z6 j.b=z6 h∧(wW j)∧∀(k:Unit),True→∃(l:Book),z6 j.b=z6 l∧(↑d:Int).toNat=(↑d:Int).toNat∧(↑d:Int).toNat<s.books.length∧cnd (zV j).snd ((qM d s e)∧(qM d s e)∧(qM d s e)∧(↑d:Int).toNat<(uK s e).length∧(bK d s e)∧(bK d s e)∧(zV j).fst.qty=(zV j).fst.qty∧(zV j).fst.price=(zV j).fst.price∧(↑d:Int).toNat<(bF s e d).length∧(lP d s e j)∧(zV j).fst.qty=(zV j).fst.qty∧(↑d:Int).toNat<(fZ s e d j).length∧∃(m:Nat×Top),aj zX (xN s m.fst m.snd)=zH (fZ s e d j) (↑d:Int).toNat ((0:Nat)+(4:Nat)+nat_lit 0*1) [dI (uN j)]∧pT f m s d l) (zBu s e f d l))∧∀(g:Nat×Top),f g→∃(h:Nat×Top),aj zX (xN s h.fst h.snd)=aj zX (xN s g.fst g.snd)∧∃(j:Nat×Top→Prop),((gR)∧∃(k:Int),zE [[dI 1],[dI 2]] (aq.wrap ((0:Int)+(1:Int))).toNat 0 1=ar [dI k]∧∃(l:Book),s.books[(↑d:Int).toNat]?=ar l∧∃(m:BkS),zD m.side=k∧z6 m.b=z6 l∧(wW m)∧∀(n:Unit),True→∃(p:Book),z6 m.b=z6 p∧(↑d:Int).toNat=(↑d:Int).toNat∧(↑d:Int).toNat<s.books.length∧cnd (zV m).snd ((qM d s h)∧(qM d s h)∧(qM d s h)∧(↑d:Int).toNat<(uK s h).length∧(bM d s h)∧(bM d s h)∧(zV m).fst.qty=(zV m).fst.qty∧(zV m).fst.price=(zV m).fst.price∧(↑d:Int).toNat<(bD s h d).length∧(lV d s h m)∧(zV m).fst.qty=(zV m).fst.qty∧(↑d:Int).toNat<(f8 s h d m).length∧∃(q:Nat×Top),aj zX (xN s q.fst q.snd)=zH (f8 s h d m) (↑d:Int).toNat ((0:Nat)+(4:Nat)+(nat_lit 0+nat_lit 1) % Vtopst364.natAbs*1) [dI (uN m)]∧pT j q s d p) (zBu s h j d p))∧∀(k:Nat×Top),j k→∃(l:Nat),(↑l:Int)=aq.wrap ((↑d:Int)+1)∧aj zX (xX s l)=aj zX (xN s k.fst k.snd)∧b l∧c l<c d∧xL s 0=xL s 0∧xL s 1=xL s 1∧xL s 2=xL s 2∧xL s 3=xL s 3∧xL s 4=xL s 4) (∃(e:Unit),sb s.p.code=sb s.p.code∧s.p.tick=s.p.tick∧s.p.low=s.p.low∧s.p.high=s.p.high∧s.p.wide=s.p.wide∧s.p.rule=s.p.rule∧s.p.top=s.p.top∧s.p.least=s.p.least∧s.p.part=s.p.part∧ab 241 Book 6 zS s.books au=xL s 1∧yW s.wh=yW s.wh∧aa 1 (iE s.p.months)=xL s 3∧aa 1 (iE s.p.settle)=xL s 4∧aj zX s.tops=aj zX (xX s d)∧True)
def zAr (a:MSt) (b:StI):Prop:=aa 1 (iE a.p.months)=aa 1 (iE b.s.p.months)∧aa 1 (iE a.p.settle)=aa 1 (iE b.s.p.settle)∧a.Rep b.p (kH b.B b.id b.q).fst
def zAo (a:MSt) (b:StI):Prop:=yW a.wh=yW b.s.wh∧zAr a b
def pH (a:StI) (b:Int) (c:Bool):Prop:=uM (ax aq a.id) (yW a.s.wh)=ar [dI b]∧c=ap∨uM (ax aq a.id) (yW a.s.wh)=au∧[dI b]=[dI 0]∧c=ao
def bV (a:StI):Prop:=∀(b:Value×List D),b∈yW a.s.wh→like (ax aq a.id) b.fst=ap
def yCm (i:StI):Prop:=
 (bV i)∧∃(a:Bool),∃(b:Int),(pH i b a)∧cnd (!a) (∃(c:MSt),(kH i.B i.id i.q).snd=26∧sb c.p.code=sb i.s.p.code∧c.p.tick=i.s.p.tick∧c.p.low=i.s.p.low∧c.p.high=i.s.p.high∧c.p.wide=i.s.p.wide∧c.p.rule=i.s.p.rule∧c.p.top=i.s.p.top∧c.p.least=i.s.p.least∧c.p.part=i.s.p.part∧ab 241 Book 6 zS c.books au=ab 241 Book 6 zS i.s.books au∧zAo c i) ((0≤b∧b<(↑i.s.books.length:Int))∧b.toNat<i.s.books.length∧∃(c:Book),i.s.books[b.toNat]?=ar c∧∃(d:FlI),d.id=i.id∧d.qty=i.q∧z6 d.b=z6 c∧d.b.Rep d.L∧∀(e:Book),e.Rep (xU d.L d.id d.qty).fst→∃(f:Book),z6 e=z6 f∧b.toNat=b.toNat∧b.toNat<i.s.books.length∧(0≤b∧b<(↑(i.s.books.set b.toNat f).length:Int))∧b.toNat<(i.s.books.set b.toNat f).length∧∃(g:Book),(i.s.books.set b.toNat f)[b.toNat]?=ar g∧∃(h:FlI),h.id=i.id∧z6 h.b=z6 g∧h.b.Rep h.L∧∀(j:Unit),True→∃(k:Book),z6 h.b=z6 k∧b.toNat=b.toNat∧b.toNat<(i.s.books.set b.toNat f).length∧cnd (!wI h.L h.id) ((bV i)∧∃(l:MSt),(kH i.B i.id i.q).snd=(xU d.L d.id d.qty).snd∧sb l.p.code=sb i.s.p.code∧l.p.tick=i.s.p.tick∧l.p.low=i.s.p.low∧l.p.high=i.s.p.high∧l.p.wide=i.s.p.wide∧l.p.rule=i.s.p.rule∧l.p.top=i.s.p.top∧l.p.least=i.s.p.least∧l.p.part=i.s.p.part∧ab 241 Book 6 zS l.books au=ab 241 Book 6 zS ((i.s.books.set b.toNat f).set b.toNat k) au∧yW l.wh=lX (ax aq i.id) (yW i.s.wh)∧zAr l i) (∃(l:MSt),(kH i.B i.id i.q).snd=(xU d.L d.id d.qty).snd∧sb l.p.code=sb i.s.p.code∧l.p.tick=i.s.p.tick∧l.p.low=i.s.p.low∧l.p.high=i.s.p.high∧l.p.wide=i.s.p.wide∧l.p.rule=i.s.p.rule∧l.p.top=i.s.p.top∧l.p.least=i.s.p.least∧l.p.part=i.s.p.part∧ab 241 Book 6 zS l.books au=ab 241 Book 6 zS ((i.s.books.set b.toNat f).set b.toNat k) au∧zAo l i))
set_option linter.unusedSimpArgs false
open Go Cv Go.Proofs
theorem yWe (i:BkL) (h:lad1C.cnd i):yMq i:=by
 obtain⟨Q,c,ht,hL⟩:i.b.Rep i.L:=h
 have hsm:=c.small
 obtain⟨⟨ha1,ha2⟩,hb1,hb2,hsp⟩:=id hsm
 have hlad:=c.lad (.inl rfl)
 rw[← hL]at hlad
 have hlad:uU i.L (zD ao)=i.b.buys.map i.b.told:=hlad
 unfold yMq zDk bG qR dI
 simp only[hlad,y0a]
 refine⟨1,rfl,trivial,fun _ _=>Cv.cnd.mk (fun e=>absurd e (by decide)) fun _=>⟨0,by(first|exact rfl|exact trivial),by(first|exact rfl|exact trivial),fun j=>j≤i.b.buys.length,fun j=>i.b.buys.length-j,y1n _,fun j hj=>zJ (fun e=> ?_) (fun e=> ?_)⟩⟩
 ·obtain⟨r,hr⟩:=z8 (l:=i.b.buys) (i:=j) (by omega)
  have hi:=c.cnt
  refine⟨⟨by omega,by omega⟩,r.price,r.queue,elA hr (by simp[zC]) rfl,⟨i.b.a,r.queue⟩,by(first|exact rfl|exact trivial),by(first|exact rfl|exact trivial),trivial,fun _ _=>⟨by(first|exact rfl|exact trivial),by(first|exact rfl|exact trivial),by(first|exact rfl|exact trivial),⟨i.b.a,r.queue⟩,by(first|exact rfl|exact trivial),by(first|exact rfl|exact trivial),by(first|exact rfl|exact trivial),fun _ _=>⟨by(first|exact rfl|exact trivial),by simp only[y0t,y0a];omega,j+1,wjn (by omega),?_,by omega,by dsimp only;omega,k0q⟩⟩⟩
  have hrt:(i.b.buys.map i.b.told)[j]? =ar (i.b.told r):=by rw[y0z,hr];rfl
  rw[y1i,hrt];simp[lvE,Book.told]
 ·rw[y0p (by rw[y0a];omega)]
  exact⟨(),k0q⟩
theorem yJd:lad1C.ok Tryz.prog 158:=okw mixed (gokc sX (gokc zFr (gokc m8 gok0))) 1 (fun _=>[]) (fun i=>yWy ao i) [0] Tryz.func158 yWe
theorem yVc (i:BkL) (h:lad2C.cnd i):yNi i:=by
 obtain⟨Q,c,ht,hL⟩:i.b.Rep i.L:=h
 have hsm:=c.small
 obtain⟨⟨ha1,ha2⟩,hb1,hb2,hsp⟩:=id hsm
 have hlad:=c.lad (.inr rfl)
 rw[← hL]at hlad
 have hlad:uU i.L (zD ap)=i.b.sells.map i.b.told:=hlad
 unfold yNi bC zDk qR dI
 simp only[hlad,y0a]
 refine⟨2,rfl,trivial,fun _ _=>Cv.cnd.mk (fun e=>absurd e (by decide)) fun _=>⟨0,by(first|exact rfl|exact trivial),by(first|exact rfl|exact trivial),fun j=>j≤i.b.sells.length,fun j=>i.b.sells.length-j,y1n _,fun j hj=>zJ (fun e=> ?_) (fun e=> ?_)⟩⟩
 ·obtain⟨r,hr⟩:=z8 (l:=i.b.sells) (i:=j) (by omega)
  have hi:=c.cnt
  refine⟨⟨by omega,by omega⟩,r.price,r.queue,elA hr (by simp[zC]) rfl,⟨i.b.a,r.queue⟩,by(first|exact rfl|exact trivial),by(first|exact rfl|exact trivial),trivial,fun _ _=>⟨by(first|exact rfl|exact trivial),by(first|exact rfl|exact trivial),by(first|exact rfl|exact trivial),⟨i.b.a,r.queue⟩,by(first|exact rfl|exact trivial),by(first|exact rfl|exact trivial),by(first|exact rfl|exact trivial),fun _ _=>⟨by(first|exact rfl|exact trivial),by simp only[y0t,y0a];omega,j+1,wjn (by omega),?_,by omega,by dsimp only;omega,k0q⟩⟩⟩
  have hrt:(i.b.sells.map i.b.told)[j]? =ar (i.b.told r):=by rw[y0z,hr];rfl
  rw[y1i,hrt];simp[lvE,Book.told]
 ·rw[y0p (by rw[y0a];omega)]
  exact⟨(),k0q⟩
theorem yLr:lad2C.ok Tryz.prog 158:=okw mixed (gokc sX (gokc zFr (gokc m8 gok0))) 1 (fun _=>[]) (fun i=>yWy ap i) [0] Tryz.func158 yVc
theorem ySk:ladC.ok Tryz.prog 158:=fun j=>match j with
 |⟨b,L,ao⟩=>yJd ⟨b,L⟩
 |⟨b,L,ap⟩=>yLr ⟨b,L⟩
theorem yTu (s:MSt) (h:topsOC.cnd s):yDl s:=by
 obtain⟨h1,h2⟩:s.cntOk:=h
 unfold yDl uN qM wW gR lG bK bM lP fZ bF lV f8 dQ zV bD Vtopst364 uK zBu pT dI
 have p48:(2:Int) ^ (48:Nat)=281474976710656:=by decide
 refine⟨⟨by omega,by omega,by omega,by rw[p48];omega⟩,0,rfl,?_,fun j=>j≤s.books.length,fun j=>s.books.length-j,by omega,fun j hj=>zJ (fun hlt=> ?_) (fun hlt=> ?_)⟩
 ·rw[xX,y0j,List.map_replicate];rfl
 ·have hj':j<s.books.length:=by omega
  obtain⟨b,hb⟩:=z8 hj'
  have hc:=h2 b (y0g hb)
  simp only[y0s]
  have ha:∀x,(aj zX (xN s j x)).length=s.books.length:=fun x=>by rw[y0a,zNb hj']
  have w1:aq.wrap (0+1)=1:=by decide
  have w2:(0+1) % ((2:Int) ^ aq.bits).natAbs=1:=by decide
  refine⟨⟨by omega,by omega⟩,by omega,(j,top0),by rw[zHn hj'],fun x=>x=(j,top0.buy (b.best b.buys)),⟨⟨by decide,by decide⟩,1,rfl,b,hb,⟨ao,b⟩,rfl,rfl,hc,fun _ _=>⟨b,rfl,kp,by omega,?_⟩⟩,?_⟩
  ·refine Cv.cnd.mk (fun c=> ?_) (fun c=> ?_)
   ·have c:(b.best b.buys).2=ap:=c
    have e1:=qS (s:=s) hj' (x:=top0) (y:={top0 with has1:=ap}) (f:=0+0+0*1) (ds:=[D.v (.bool ap)]) rfl
    have e2:=qS (s:=s) hj' (x:={top0 with has1:=ap}) (y:={top0 with has1:=ap,p1:=(b.best b.buys).1.price}) (f:=0+2+0*1) (ds:=[D.v (.int .i64 (b.best b.buys).1.price)]) rfl
    have e3:=qS (s:=s) hj' (x:={top0 with has1:=ap,p1:=(b.best b.buys).1.price}) (y:={top0 with has1:=ap,p1:=(b.best b.buys).1.price,q1:=(b.best b.buys).1.qty}) (f:=0+4+0*1) (ds:=[D.v (.int .i64 (b.best b.buys).1.qty)]) rfl
    dsimp only
    simp only[show b.side ao=b.buys from rfl,e1,e2,e3,ha]
    (repeat'(first|exact rfl|exact trivial|assumption|apply aw|refine fun(_:Unit) (_:True)=>?_|refine av () ?_|omega|(dsimp only;omega)))
    refine⟨(j,{top0 with has1:=ap,p1:=(b.best b.buys).1.price,q1:=(b.best b.buys).1.qty}),rfl,?_,?_⟩
    ·rw[Top.buy,yZy c]
    ·(repeat'(first|exact rfl|exact trivial|assumption|apply aw|refine fun(_:Unit) (_:True)=>?_|refine av () ?_|omega|(dsimp only;omega)))
     rw[fQ hb];rfl
   ·have c:(b.best b.buys).2=ao:=c
    refine⟨(j,top0),rfl,?_,?_⟩
    ·rw[Top.buy,yZx (by rw[c];simp)]
    ·(repeat'(first|exact rfl|exact trivial|assumption|apply aw|refine fun(_:Unit) (_:True)=>?_|refine av () ?_|omega|(dsimp only;omega)))
     rw[fQ hb];rfl
  ·rintro _ rfl
   rw[w1]
   generalize hx:top0.buy (b.best b.buys)=x
   have hx2:b.top=x.sell (b.best b.sells):=by rw[Book.top,hx]
   refine⟨(j,x),rfl,fun y=>y=(j,b.top),⟨⟨by decide,by decide⟩,2,rfl,b,hb,⟨ap,b⟩,rfl,rfl,hc,fun _ _=>⟨b,rfl,kp,by omega,?_⟩⟩,?_⟩
   ·refine Cv.cnd.mk (fun c=> ?_) (fun c=> ?_)
    ·have c:(b.best b.sells).2=ap:=c
     have e1:=qS (s:=s) hj' (x:=x) (y:={x with has2:=ap}) (f:=0+0+1*1) (ds:=[D.v (.bool ap)]) rfl
     have e2:=qS (s:=s) hj' (x:={x with has2:=ap}) (y:={x with has2:=ap,p2:=(b.best b.sells).1.price}) (f:=0+2+1*1) (ds:=[D.v (.int .i64 (b.best b.sells).1.price)]) rfl
     have e3:=qS (s:=s) hj' (x:={x with has2:=ap,p2:=(b.best b.sells).1.price}) (y:={x with has2:=ap,p2:=(b.best b.sells).1.price,q2:=(b.best b.sells).1.qty}) (f:=0+4+1*1) (ds:=[D.v (.int .i64 (b.best b.sells).1.qty)]) rfl
     dsimp only
     simp only[w2,show b.side ap=b.sells from rfl,e1,e2,e3,ha]
     (repeat'(first|exact rfl|exact trivial|assumption|apply aw|refine fun(_:Unit) (_:True)=>?_|refine av () ?_|omega|(dsimp only;omega)))
     refine⟨(j,{x with has2:=ap,p2:=(b.best b.sells).1.price,q2:=(b.best b.sells).1.qty}),rfl,?_,?_⟩
     ·rw[hx2,Top.sell,yZy c]
     ·(repeat'(first|exact rfl|exact trivial|assumption|apply aw|refine fun(_:Unit) (_:True)=>?_|refine av () ?_|omega|(dsimp only;omega)))
      rw[fQ hb];rfl
    ·have c:(b.best b.sells).2=ao:=c
     refine⟨(j,x),rfl,?_,?_⟩
     ·rw[hx2,Top.sell,yZx (by rw[c];simp)]
     ·(repeat'(first|exact rfl|exact trivial|assumption|apply aw|refine fun(_:Unit) (_:True)=>?_|refine av () ?_|omega|(dsimp only;omega)))
      rw[fQ hb];rfl
   ·rintro _ rfl
    refine⟨j+1,by rw[w64 (by omega)];rfl,?_⟩
    refine⟨by dsimp only;rw[zIc hb],?_⟩
    exact kp
 ·have hj:j≤s.books.length:=hj
  obtain rfl:j=s.books.length:=by omega
  have e:xX s s.books.length=s.tops:=by
   rw[xX,y5s,List.replicate_zero,y0v,y0p (by rw[MSt.tops,y0a];omega)]
  rw[e]
  exact kp
theorem zUu:topsOC.ok Tryz.prog 105:=okw mixed (gokc zJe gok0) 0 (fun s=>yNj s) (fun s=>yMm s) [] Tryz.func105 yTu
theorem yPt (i:StI) (h:stakeC.cnd i):yCm i:=by
 obtain⟨hR,hB⟩:i.s.Rep i.p i.B∧i.B.length≤1000:=h
 have hat:=hR.at_ i.id
 unfold yCm bV pH zAo zAr dI
 cases hi:aF i.B i.id with
 |none=>
  rw[hi]at hat
  refine⟨dF _ _,ao,0,.inr ⟨by rw[mJ,hat];rfl,rfl,rfl⟩,Cv.cnd.mk (fun _=>⟨i.s,?_⟩) (fun e=>absurd e (by decide))⟩
  have ht:kH i.B i.id i.q=(i.B,26):=by rw[kH,hi]
  rw[ht]
  exact⟨rfl,rfl,rfl,rfl,rfl,rfl,rfl,rfl,rfl,rfl,rfl,rfl,rfl,rfl,hR⟩
 |some k=>
  rw[hi]at hat
  obtain⟨L,hL,hh⟩:=gJ hi
  have hk:=(yZz.1 hL).1
  obtain⟨b,hb⟩:=z8 (l:=i.s.books) (i:=k) (by rw[hR.bl];exact hk)
  have hbR:=hR.bk k b L hb hL
  have hbl:=hR.bl
  have hnd:=hbR.ords.2.1
  refine⟨dF _ _,ap,k,.inl ⟨by rw[mJ,hat];rfl,rfl⟩,Cv.cnd.mk (fun e=>absurd e (by decide)) (fun _=> ?_)⟩
  rw[y0s]
  refine⟨⟨by omega,by omega⟩,by omega,b,hb,⟨b,L,i.id,i.q⟩,rfl,rfl,rfl,hbR,fun b' hb'=> ?_⟩
  have hT:=hR.take (q:=i.q) hi hL hnd hb'
  have hk2:(kH i.B i.id i.q).2=(xU L i.id i.q).2:=by simp only[kH,hi,zT hL]
  refine⟨b',rfl,rfl,by omega,by rw[y1c];omega,by rw[y1c];omega,b',fP (by omega),⟨b',(xU L i.id i.q).1,i.id,0⟩,rfl,rfl,hb',fun _ _=>⟨b',rfl,rfl,by rw[y1c];omega,Cv.cnd.mk (fun e=>⟨dF _ _,?_⟩) (fun e=> ?_)⟩⟩
  ·have e:wI (xU L i.id i.q).1 i.id=ao:=by simpa using e
   rw[e,yZx (by decide)]at hT
   refine⟨{i.s with books:=i.s.books.set k b',wh:=zZf i.id i.s.wh},hk2,rfl,rfl,rfl,rfl,rfl,rfl,rfl,rfl,rfl,?_,(zYp _ _).symm,rfl,rfl,hT⟩
   rw[y4c]
  ·have e:wI (xU L i.id i.q).1 i.id=ap:=by simpa using e
   rw[e,yZy rfl]at hT
   refine⟨{i.s with books:=i.s.books.set k b',wh:=i.s.wh},hk2,rfl,rfl,rfl,rfl,rfl,rfl,rfl,rfl,rfl,?_,rfl,rfl,rfl,hT⟩
   rw[y4c]
theorem zCh:stakeC.ok Tryz.prog 171:=okw mixed (gokc yHo (gokc zVo gok0)) 0 (fun _=>[]) (fun _=>[]) [0] Tryz.func171 yPt
open Go Cv Go.Proofs
structure BOk (p:Prd) (B:List (List zK)):Prop where
 pc:p.check=0
 ps:p.small
 bl:B.length=p.count
 pr:∀(k:Nat) (L:List zK),B[k]? =ar L→∀o∈L,p.price k o.price=0
def motherC:Con:=con1 Bool (fun b=>[zA (zD b)]) (fun _=>[]) (fun _=>True) (fun b=>zA (zD (!b))) (fun _=>[])
def cQ (s:Bool) (p x:Int):Bool:=if s then decide (p≤x)else decide (x≤p)
structure GoI where
 s:Bool
 p:Int
 x:Int
def mgoodC:Con:=con1 GoI (fun i=>[zA (zD i.s),zA i.p,zA i.x]) (fun _=>[]) (fun _=>True) (fun i=>yF (cQ i.s i.p i.x)) (fun _=>[])
def yR (p:Prd) (B:List (List zK)) (inst:Int) (s:Int):Quote×Bool×Bool:=
 let bq:=zU (xS ⟨p,B.map qU,inst⟩ s) s
 let l:=bestL (B.getD inst.toNat []) s
 if(l.2 && !(bq.2 && btr s bq.1.price l.1.price))=ap then(⟨l.1.price,l.1.qty,⟨0,0⟩,⟨0,0⟩⟩,ao,ap)else(bq.1,bq.2,bq.2)
structure NxI where
 s:MSt
 p:Prd
 B:List (List zK)
 inst:Int
 sd:Bool
def nextC:Con:=con1 NxI (fun i=>[.nm 0 0,zA i.inst,zA (zD i.sd)]) (fun i=>[zF i.s]) (fun i=>i.s.Rep i.p i.B∧BOk i.p i.B∧0≤i.inst∧i.inst<i.B.length)
 (fun i=> .tup [zUc (yR i.p i.B i.inst (zD i.sd)).1,yF (yR i.p i.B i.inst (zD i.sd)).2.1,yF (yR i.p i.B i.inst (zD i.sd)).2.2]) (fun i=>[zF i.s])
structure cF where
 id:Int
 inst:Int
 side:Int
 price:Int
 qty:Int
 left:Int
 deriving DecidableEq
def yT (f:cF):List D:=[.v (.int .i64 f.id),.v (.int .i64 f.inst),.v (.int .i64 f.side),.v (.int .i64 f.price),.v (.int .i64 f.qty),.v (.int .i64 f.left)]
def xR (inst s:Int):List zK→List Int→List cF
 |o::os,k::ks=>if 0<k then⟨o.id,inst,s,o.price,k,o.qty-k⟩::xR inst s os ks else xR inst s os ks
 |_,_=>[]
def kF (B:List (List zK)) (fs:List cF):List (List zK):=fs.foldl (fun B f=>(kH B f.id f.qty).1) B
def zUf (B:List (List zK)) (inst s:Int):List zK:=atL (B.getD inst.toNat []) s (bestL (B.getD inst.toNat []) s).1.price
def qN (p:Prd) (B:List (List zK)) (inst s q:Int):List cF:=xR inst s (zUf B inst s) (kA ⟨p,zUf B inst s,q⟩)
structure TrI where
 s:MSt
 p:Prd
 B:List (List zK)
 inst:Int
 sd:Bool
 q:Int
def TrI.os (i:TrI):List zK:=zUf i.B i.inst (zD i.sd)
def TrI.sh (i:TrI):List Int:=kA ⟨i.p,i.os,i.q⟩
def TrI.fs (i:TrI) (j:Nat):List cF:=xR i.inst (zD i.sd) (i.os.take j) (i.sh.take j)
def tradeC:Con where
 ι:=TrI
 pat:=fun i=>[.nm 0 0,.agg [zA i.inst,zA (zD i.sd)],zA i.q]
 pre:=fun i=>[zF i.s]
 cnd:=fun i=>i.s.Rep i.p i.B∧BOk i.p i.B∧0≤i.inst∧i.inst<i.B.length∧yO i.q
 alts:=fun i=>[{o:=MSt,res:=fun _=> .own 1,post:=fun s=>[zF s,.own 374 6 ((qN i.p i.B i.inst (zD i.sd) i.q).map yT)],rel:=fun s=>s.Rep i.p (kF i.B (qN i.p i.B i.inst (zD i.sd) i.q))}]
def yPq (i:TrI):List SAnn:=[{ι:=Nat×MSt,slots:=fun j=>[(0,.nm 0 0),(11,.own 1),(44,zA j.1)],rows:=fun j=>[zF j.2,.own 374 6 ((i.fs j.1).map yT)]}]
open Go Cv Go.Proofs
def z2e (b:Bool):Prop:=
 ∃(a:Unit),(zD !b)=aq.wrap (3-zD b)∧True
def yEx (i:GoI):Prop:=
 cnd (zD i.s==1) (cnd (decide (i.x≤i.p)) (∃(a:Unit),cQ i.s i.p i.x=ap∧True) (cnd (zD i.s==2) (∃(a:Unit),cQ i.s i.p i.x=decide (i.x≥i.p)∧True) (∃(a:Unit),cQ i.s i.p i.x=ao∧True))) (cnd (zD i.s==2) (∃(a:Unit),cQ i.s i.p i.x=decide (i.x≥i.p)∧True) (∃(a:Unit),cQ i.s i.p i.x=ao∧True))
def zGr (a:MSt) (b:NxI):Prop:=sb a.p.code=sb b.s.p.code∧True∧a.p.tick=b.s.p.tick∧a.p.low=b.s.p.low∧a.p.high=b.s.p.high∧a.p.wide=b.s.p.wide∧a.p.rule=b.s.p.rule∧a.p.top=b.s.p.top∧a.p.least=b.s.p.least∧a.p.part=b.s.p.part∧True∧True
def dR (a:BsI):Prop:=(a.s=1∨a.s=2)∧a.l.length≤1000000
def z7 (a:NxI):=(yR a.p a.B a.inst (zD a.sd))
def zLu (a:NxI) (b:MSt) (c:Book):Prop:=sb a.s.p.code=sb b.p.code∧a.s.p.tick=b.p.tick∧a.s.p.low=b.p.low∧a.s.p.high=b.p.high∧a.s.p.wide=b.p.wide∧a.s.p.rule=b.p.rule∧a.s.p.top=b.p.top∧a.s.p.least=b.p.least∧a.s.p.part=b.p.part∧ab 241 Book 6 zS a.s.books au=ab 241 Book 6 zS (b.books.set a.inst.toNat c) au∧yW a.s.wh=yW b.wh∧aa 1 (iE a.s.p.months)=aa 1 (iE b.p.months)∧aa 1 (iE a.s.p.settle)=aa 1 (iE b.p.settle)∧True
def zLh (a:NxI) (b:BsI) (c:MSt) (d:Book):Prop:=∃(e:Unit),(z7 a).fst.price=(zU b.l b.s).fst.price∧(z7 a).fst.qty=(zU b.l b.s).fst.qty∧(z7 a).fst.a.inst=(zU b.l b.s).fst.a.inst∧(z7 a).fst.a.side=(zU b.l b.s).fst.a.side∧(z7 a).fst.b.inst=(zU b.l b.s).fst.b.inst∧(z7 a).fst.b.side=(zU b.l b.s).fst.b.side∧(z7 a).snd.fst=(zU b.l b.s).snd∧(z7 a).snd.snd=(zU b.l b.s).snd∧zLu a c d
def zMx (a:NxI) (b:BkS) (c:MSt) (d:Book):Prop:=∃(e:Unit),(z7 a).fst.price=(zV b).fst.price∧(z7 a).fst.qty=(zV b).fst.qty∧(z7 a).fst.a.inst=0∧(z7 a).fst.a.side=0∧(z7 a).fst.b.inst=0∧(z7 a).fst.b.side=0∧(z7 a).snd.fst=ao∧(z7 a).snd.snd=ap∧zLu a c d
def zIw (a:tM) (b:NxI) (c:MSt):Prop:=∃(d:BsI),aj zL d.l=aj zL (xS a.i (zD a.s))∧d.s=zD b.sd∧(dR d)∧∀(e:Unit),True→(0≤b.inst∧b.inst<(↑c.books.length:Int))∧b.inst.toNat<c.books.length∧∃(f:Book),c.books[b.inst.toNat]?=ar f∧∃(g:BkS),zD g.side=zD b.sd∧z6 g.b=z6 f∧(wW g)∧∀(h:Unit),True→∃(j:Book),z6 g.b=z6 j∧b.inst.toNat=b.inst.toNat∧b.inst.toNat<c.books.length∧cnd (zV g).snd (cnd (zU d.l d.s).snd (∃(k:I3'),k.side=zD b.sd∧k.x=(zU d.l d.s).fst.price∧k.y=(zV g).fst.price∧True∧∀(l:Unit),True→cnd (!btr k.side k.x k.y) (zMx b g c j) (zLh b d c j)) (zMx b g c j)) (zLh b d c j)
def zTh (a:MSt) (b:NxI):Prop:=(zGr a b)∧∃(c:tM),sb c.i.p.code=sb b.s.p.code∧iE c.i.p.months=iE a.p.months∧c.i.p.tick=b.s.p.tick∧c.i.p.low=b.s.p.low∧c.i.p.high=b.s.p.high∧c.i.p.wide=b.s.p.wide∧c.i.p.rule=b.s.p.rule∧c.i.p.top=b.s.p.top∧c.i.p.least=b.s.p.least∧c.i.p.part=b.s.p.part∧iE c.i.p.settle=iE a.p.settle∧aj zX c.i.tops=aj zX a.tops∧c.i.inst=b.inst∧zD c.s=zD b.sd∧(kD c)∧∀(d:Unit),True→zIw c b a
def fW (a:MSt):Prop:=a.books.length≤1000000∧∀(b:Book),b∈a.books→∀(c:cH),c∈b.a.queues→(-9223372036854775808)≤c.count∧c.count≤9223372036854775807
def yNy (i:NxI):Prop:=
 (∃(a:MSt),sb a.p.code=sb i.s.p.code∧a.p.tick=i.s.p.tick∧a.p.low=i.s.p.low∧a.p.high=i.s.p.high∧a.p.wide=i.s.p.wide∧a.p.rule=i.s.p.rule∧a.p.top=i.s.p.top∧a.p.least=i.s.p.least∧a.p.part=i.s.p.part∧ab 241 Book 6 zS a.books au=ab 241 Book 6 zS i.s.books au∧yW a.wh=yW i.s.wh∧aa 1 (iE a.p.months)=aa 1 (iE i.s.p.months)∧aa 1 (iE a.p.settle)=aa 1 (iE i.s.p.settle)∧(fW a)∧∀(b:Unit),True→(zGr a i)∧(∃(c:tM),sb c.i.p.code=sb i.s.p.code∧iE c.i.p.months=iE a.p.months∧c.i.p.tick=i.s.p.tick∧c.i.p.low=i.s.p.low∧c.i.p.high=i.s.p.high∧c.i.p.wide=i.s.p.wide∧c.i.p.rule=i.s.p.rule∧c.i.p.top=i.s.p.top∧c.i.p.least=i.s.p.least∧c.i.p.part=i.s.p.part∧iE c.i.p.settle=iE a.p.settle∧aj zX c.i.tops=aj zX a.tops∧c.i.inst=i.inst∧zD c.s=zD i.sd∧(kD c)∧∀(d:Unit),True→(zIw c i a)∧zIw c i a)∧zTh a i)∧(sb i.s.p.code=sb i.s.p.code∧True∧i.s.p.tick=i.s.p.tick∧i.s.p.low=i.s.p.low∧i.s.p.high=i.s.p.high∧i.s.p.wide=i.s.p.wide∧i.s.p.rule=i.s.p.rule∧i.s.p.top=i.s.p.top∧i.s.p.least=i.s.p.least∧i.s.p.part=i.s.p.part∧True∧True)∧∃(a:MSt),sb a.p.code=sb i.s.p.code∧a.p.tick=i.s.p.tick∧a.p.low=i.s.p.low∧a.p.high=i.s.p.high∧a.p.wide=i.s.p.wide∧a.p.rule=i.s.p.rule∧a.p.top=i.s.p.top∧a.p.least=i.s.p.least∧a.p.part=i.s.p.part∧ab 241 Book 6 zS a.books au=ab 241 Book 6 zS i.s.books au∧yW a.wh=yW i.s.wh∧aa 1 (iE a.p.months)=aa 1 (iE i.s.p.months)∧aa 1 (iE a.p.settle)=aa 1 (iE i.s.p.settle)∧(fW a)∧∀(b:Unit),True→zTh a i
def aH (a:AtI):=(aj wU (atL a.L (zD a.s) a.price))
def zGe (a:Nat×MSt→Prop) (b:Nat×MSt) (c:Nat×MSt→Nat) (d:Nat×MSt) (e:AlI) (f:AtI) (g:BkS) (h:TrI):Prop:=a b∧c b<c d∧af 2 1 (iE (kA e))=af 2 1 (iE (kA e))∧aa 5 (aH f)=aa 5 (aH f)∧ae [V.d (dI (dQ g)),V.d (dI (uN g)),V.d (dI ((zV g).fst.count))] 41=ae [V.d (dI (dQ g)),V.d (dI (uN g)),V.d (dI ((zV g).fst.count))] 41∧ae [V.d (dI h.inst),V.d (dI (zD h.sd))] 256=ae [V.d (dI h.inst),V.d (dI (zD h.sd))] 256∧aa 1 (iE h.s.p.months)=aa 1 (iE h.s.p.months)∧aa 1 (iE h.s.p.settle)=aa 1 (iE h.s.p.settle)
def hJ (a:TrI):=(qN a.p a.B a.inst (zD a.sd) a.q)
def dO (a:TrI):=(kF a.B (hJ a))
def yCa (i:TrI):Prop:=
 (0≤i.inst∧i.inst<(↑i.s.books.length:Int))∧i.inst.toNat<i.s.books.length∧∃(a:Book),i.s.books[i.inst.toNat]?=ar a∧∃(b:BkS),zD b.side=zD i.sd∧z6 b.b=z6 a∧(wW b)∧∀(c:Unit),True→∃(d:Book),z6 b.b=z6 d∧i.inst.toNat=i.inst.toNat∧i.inst.toNat<i.s.books.length∧∃(e:Book),(i.s.books.set i.inst.toNat d)[i.inst.toNat]?=ar e∧∃(f:AtI),zD f.s=zD i.sd∧f.price=(zV b).fst.price∧z6 f.b=z6 e∧f.b.Rep f.L∧∀(g:Unit),True→∃(h:Book),z6 f.b=z6 h∧i.inst.toNat=i.inst.toNat∧i.inst.toNat<(i.s.books.set i.inst.toNat d).length∧∃(j:AlI),sb j.p.code=sb i.s.p.code∧iE j.p.months=iE i.s.p.months∧j.p.tick=i.s.p.tick∧j.p.low=i.s.p.low∧j.p.high=i.s.p.high∧j.p.wide=i.s.p.wide∧j.p.rule=i.s.p.rule∧j.p.top=i.s.p.top∧j.p.least=i.s.p.least∧j.p.part=i.s.p.part∧iE j.p.settle=iE i.s.p.settle∧aj wU j.l=aj wU (atL f.L (zD f.s) f.price)∧j.q=i.q∧(j.l.length≤1000∧((-9223372036854775808)≤j.q∧j.q≤9223372036854775807)∧((-9223372036854775808)≤j.p.least∧j.p.least≤9223372036854775807)∧((-9223372036854775808)≤j.p.top∧j.p.top≤9223372036854775807)∧(-9223372036854775808)≤j.p.part∧j.p.part≤9223372036854775807)∧∀(k:Unit),True→∃(l:Nat×MSt),(↑l.fst:Int)=0∧sb l.snd.p.code=sb i.s.p.code∧l.snd.p.tick=i.s.p.tick∧l.snd.p.low=i.s.p.low∧l.snd.p.high=i.s.p.high∧l.snd.p.wide=i.s.p.wide∧l.snd.p.rule=i.s.p.rule∧l.snd.p.top=i.s.p.top∧l.snd.p.least=i.s.p.least∧l.snd.p.part=i.s.p.part∧ab 241 Book 6 zS l.snd.books au=ab 241 Book 6 zS ((i.s.books.set i.inst.toNat d).set i.inst.toNat h) au∧yW l.snd.wh=yW i.s.wh∧aa 1 (iE l.snd.p.months)=aa 1 (iE i.s.p.months)∧aa 1 (iE l.snd.p.settle)=aa 1 (iE i.s.p.settle)∧aj yT (i.fs l.fst)=[]∧∃(m:Nat×MSt→Prop),∃(n:Nat×MSt→Nat),m l∧∀(p:Nat×MSt),m p→cnd (decide ((↑p.fst:Int)<(↑(iE (kA j)).length:Int))) ((0≤(↑p.fst:Int)∧(↑p.fst:Int)<(↑(iE (kA j)).length:Int))∧∃(q:Int),zE (iE (kA j)) (↑p.fst:Int).toNat 0 1=ar [dI q]∧cnd (decide (q>0)) ((0≤(↑p.fst:Int)∧(↑p.fst:Int)<(↑(aH f).length:Int))∧∃(r:Int),∃(s:Int),∃(t:Int),∃(u:Int),∃(v:Bool),zE (aH f) (↑p.fst:Int).toNat 0 5=ar [dI r,dI s,dI t,dI u,D.v (.bool v)]∧∃(w:StI),w.id=r∧w.q=q∧zF w.s=zF p.snd∧(w.s.Rep w.p w.B∧w.B.length≤1000)∧∀(x:MSt),x.Rep w.p (kH w.B w.id w.q).fst→((aj yT (i.fs p.fst)).length+1)*(48:Nat)≤(140737488355328:Nat)∧∃(y:Nat×MSt),(↑y.fst:Int)=aq.wrap ((↑p.fst:Int)+1)∧zF y.snd=zF x∧aj yT (i.fs y.fst)=aj yT (i.fs p.fst)++[[dI r,dI i.inst,dI (zD i.sd),dI t,dI q,dI (aq.wrap (u-q))]]∧zGe m y n p j f b i) (∃(r:Nat×MSt),(↑r.fst:Int)=aq.wrap ((↑p.fst:Int)+1)∧zF r.snd=zF p.snd∧aj yT (i.fs r.fst)=aj yT (i.fs p.fst)∧zGe m r n p j f b i)) (∃(q:MSt),zF q=zF p.snd∧aj yT (hJ i)=aj yT (i.fs p.fst)∧q.Rep i.p (dO i))
open Go Cv Go.Proofs
theorem sN {p:Prd} (hc:p.check=0) {k v:Int} (h:p.price k v=0): -2000000≤v∧v≤2000000:=by
 have ok:=jR hc
 have:=ok.b1
 have:=ok.b2
 have:=ok.b3
 have:=ok.b4
 have:=ok.b5
 rw[Prd.price]at h
 by_cases c1:p.count=0
 ·rw[yZy c1]at h;cases h
 by_cases c2:k<0∨(p.count:Int)≤k
 ·rw[yZx c1,yZy c2]at h;cases h
 cases c3:qH p.tick v with
 |true=>rw[yZx c1,yZx c2,yZy c3]at h;cases h
 |false=>
  rw[yZx c1,yZx c2,yZx (by rw[c3];decide)]at h
  by_cases c4:(p.months.length:Int)≤k
  ·simp only[yZy c4]at h
   by_cases c5:v< -p.wide∨p.wide<v
   ·rw[yZy c5]at h;cases h
   ·omega
  ·simp only[yZx c4]at h
   by_cases c5:v<p.low∨p.high<v
   ·rw[yZy c5]at h;cases h
   ·omega
theorem zJo {t:Int} (k:Int):qH t (t*k)=ao:=by
 simp[qH,Int.mul_tmod_right]
theorem zXv (x:Prd):(gM x).small:=by
 have:=yDn x
 refine⟨by simp[gM],?_,?_⟩
 ·show(qX _).length≤_
  rw[sQ];omega
 ·show(qF _ _).length≤_
  rw[aV];omega
theorem zYm (x:Prd):(gM x).check=0:=by
 have ht:=zVz x
 have hn:=yDn x
 have hw:=xH (n:=x.wide) (lo:=0) (hi:=60) (by omega)
 have hr:=xH (n:=x.rule) (lo:=0) (hi:=2) (by omega)
 have ho:=xH (n:=x.top) (lo:=0) (hi:=9) (by omega)
 have hl:=xH (n:=x.least) (lo:=0) (hi:=4) (by omega)
 have hp:=xH (n:=x.part) (lo:=0) (hi:=100) (by omega)
 have h1:j0 (gM x).code=ap:=by show j0 [206,169]=ap;decide+kernel
 obtain⟨k,hk,hk1⟩:∃k:Nat,(kN x).toNat=k∧(2≤k∧k≤5):=⟨_,rfl,by omega⟩
 have h2:xC (gM x).months=ap:=by
  show xC (qX (kN x).toNat)=ap
  rw[hk]
  have:k=2∨k=3∨k=4∨k=5:=by omega
  rcases this with rfl|rfl|rfl|rfl<;>decide
 have h3:qD (gM x)=ap:=by
  have a:qH (yE x) (-20*yE x)=ao:=by rw[y5l];exact zJo _
  have b:qH (yE x) (100*yE x)=ao:=by rw[y5l];exact zJo _
  have c:(qF (yE x) (kN x).toNat).any (qH (yE x))=ao:=by
   rw[y6h]
   intro y hy
   obtain⟨j,_,rfl⟩:=y1a.1 hy
   rw[zJo];decide
  simp only[qD,gM,a,b,c,zJo,y5e,Bool.and_true,y0o]
  exact⟨y0n (by omega),y0n (by omega)⟩
 have mw:=zNl (a:=yE x) (b:=5+zI x.wide 0 60) (m:=yE x) (n:=65) (by omega) (by omega)
 have h4:qB (gM x)=ao:=by
  simp only[qB,gM,y4l]
  exact⟨⟨⟨⟨y0k (by omega),y0k (by omega)⟩,y0k (by omega)⟩,y0k (by omega)⟩,y0k (by omega)⟩
 have h5:xF (gM x)=ao:=by
  have e:(qF (yE x) (kN x).toNat).length=(qX (kN x).toNat).length:=by rw[aV,sQ]
  have ne:qF (yE x) (kN x).toNat≠[]:=by
   intro hc
   have:=aV (yE x) (kN x).toNat
   rw[hc]at this
   simp at this
   omega
  have bd:∀y∈qF (yE x) (kN x).toNat,0≤y∧y≤yE x*15:=by
   intro y hy
   obtain⟨j,hj,rfl⟩:=y1a.1 hy
   have:=y3g.1 hj
   exact zNl (by omega) (by omega)
  have m1:=bd _ (zXz ne)
  have m2:=bd _ (zYw ne)
  simp only[xF,gM,e,ne_eq,not_true_eq_false,decide_false,y5y,y4l]
  exact⟨y0k (by omega),y0k (by omega)⟩
 have h6:qZ (gM x)=ao:=by
  simp only[qZ,gM,y4l]
  exact⟨y0k (by omega),y0k (by omega)⟩
 have h7:xW (gM x)=ao:=by
  simp only[xW,gM,y4l]
  exact⟨⟨⟨⟨⟨y0k (by omega),y0k (by omega)⟩,y0k (by omega)⟩,y0k (by omega)⟩,y0k (by omega)⟩,y0k (by omega)⟩
 rw[Prd.check,h1,h2,h3,h4,h5,h6,h7]
 rfl
open Go Cv Go.Proofs
structure zTc (qs sh:List Int) (q:Int):Prop where
 len:sh.length=qs.length
 bd:∀n,0≤sh.getD n 0∧sh.getD n 0≤qs.getD n 0
 sum:sh.sum=q
theorem yBd:∀{l:List Int},(∀x∈l,0≤x)→0≤l.sum
 |[],_=>y3p 0
 |a::l,h=>by
  have:=yBd (l:=l) fun x hx=>h x (y0c _ hx)
  have:=h a y0d
  rw[y1l];omega
theorem z6e:∀{z:List (Int×Int)},(∀y∈z,0≤y.2∧y.2≤y.1)→(z.map (·.2)).sum≤(z.map (·.1)).sum
 |[],_=>y3p 0
 |a::l,h=>by
  have:=z6e (z:=l) fun x hx=>h x (y0c _ hx)
  have:=h a y0d
  rw[y0l,y0l,y1l,y1l];omega
theorem tA:∀(l:List Int) (q:Int),(∀x∈l,0≤x)→0≤q→q≤l.sum→zTc l (uP l q) q
 |[],q,_,h0,h1=>⟨rfl,fun n=>by simp[uP],by simp at h1;simp[uP];omega⟩
 |n::l,q,h,h0,h1=>by
  have hn:=h n y0d
  rw[y1l]at h1
  have:=yBd fun x hx=>h x (y0c _ hx)
  have ih:=tA l (q-min n q) (fun x hx=>h x (y0c _ hx)) (by omega) (by omega)
  refine⟨by rw[uP,y0f,y0f,ih.len],fun k=> ?_,by rw[uP,y1l,ih.sum];omega⟩
  cases k with
  |zero=>exact⟨by show 0≤min n q;omega,by show min n q≤n;omega⟩
  |succ k=>exact ih.bd k
theorem l9:∀(z:List (Int×Int)) (q:Int),(∀y∈z,0≤y.2∧y.2≤y.1)→0≤q→q≤(z.map (·.1)).sum-(z.map (·.2)).sum→(j5 z q).length=z.length∧(∀n,0≤(j5 z q).getD n 0∧(j5 z q).getD n 0≤(z.map (·.1)).getD n 0)∧(j5 z q).sum=(z.map (·.2)).sum+q
 |[],q,_,h0,h1=>⟨rfl,fun n=>by simp[j5],by simp at h1;simp[j5];omega⟩
 |(n,x)::r,q,h,h0,h1=>by
  have hn:=h (n,x) y0d
  simp only[y0l,y1l]at h1
  have:=z6e fun y hy=>h y (y0c _ hy)
  have ih:=l9 r (q-min (n-x) q) (fun y hy=>h y (y0c _ hy)) (by omega) (by omega)
  refine⟨by rw[j5,y0f,y0f,ih.1],fun k=> ?_,by rw[j5,y1l,ih.2.2,y0l,y1l];omega⟩
  cases k with
  |zero=>exact⟨by show 0≤x+min (n-x) q;have:=hn.1;have:=hn.2;dsimp only at*;omega,by show x+min (n-x) q≤n;have:=hn.2;dsimp only at*;omega⟩
  |succ k=>exact ih.2.1 k
theorem yBl {l:List Int} {q:Int} (h1:l.length≤250) (h2:0≤q) (h3:∀x∈l,1≤x∧x≤1000000) (h4:q≤l.sum):yS l q=ap:=by
 rw[yS,y0n h1,y0n h2,y0n h4]
 simp only[y2y,Bool.and_true,y3i,y0o,y1z]
 exact h3
theorem zUd {i:PlI} (h:yS i.l i.q=ap) (hl:1≤i.least):zTc i.l (kR i) i.q:=by
 obtain⟨r1,r2,r3,r4⟩:=kW h
 rw[kR,yZy ⟨h,hl⟩]
 by_cases hne:i.l.length=0
 ·have e:i.l=[]:=y0y hne
  have hq:i.q=0:=by rw[e]at r4;simp at r4;omega
  have e0:i.p1=[]:=by rw[PlI.p1,e];rfl
  rw[e0,e,hq]
  exact⟨rfl,fun n=>by simp,rfl⟩
 ·obtain⟨_,_,f1,f2⟩:=zCj h (by omega)
  have hpl:=zZd i
  have m1:(i.l.zip i.p0).map (·.1)=i.l:=List.map_fst_zip (by omega)
  have m2:(i.l.zip i.p0).map (·.2)=i.p0:=List.map_snd_zip (by omega)
  have hp:=l9 (i.l.zip i.p0) (i.q-i.p0.sum) (fun y hy=>by
   obtain⟨j,hj⟩:=y2q.1 hy
   rw[y4w]at hj
   exact f1 j _ _ hj.1 hj.2) (by omega) (by rw[m1,m2];omega)
  rw[m1,m2]at hp
  refine⟨?_,hp.2.1,?_⟩
  ·rw[PlI.p1,hp.1,List.length_zip,hpl,Nat.min_self]
  ·rw[PlI.p1,hp.2.2];omega
theorem zUa:∀{l:List Int} {k:Nat} {x:Int},k<l.length→(l.set k x).sum=l.sum+(x-l.getD k 0)
 |[],k,x,h=>absurd h (by simp)
 |a::l,0,x,_=>by
  show x+l.sum=a+l.sum+(x-a);omega
 |a::l,k+1,x,h=>by
  have:=zUa (l:=l) (k:=k) (x:=x) (by simpa using h)
  show a+(l.set k x).sum=a+l.sum+(x-l.getD k 0)
  omega
theorem zLo {l:List Int} {k n:Nat} {x:Int} (h:k<l.length):(l.set k x).getD n 0=if n=k then x else l.getD n 0:=by
 rw[y0h,y2r]
 by_cases e:k=n
 ·subst e;rw[yZy rfl,yZy h,yZy rfl];rfl
 ·rw[yZx e,yZx (fun e2=>e e2.symm),y0h]
theorem zXb {l:List Int}:∀(z:List (Nat×Int)) (o:List Int),(z.map (·.1)).Nodup→(∀y∈z,y.1<o.length∧0≤y.2∧o.getD y.1 0+y.2≤l.getD y.1 0)→(∀n,0≤o.getD n 0∧o.getD n 0≤l.getD n 0∧l.getD n 0≤1000000)→
 (z.foldl (fun o y=>o.set y.1 (aq.wrap (o.getD y.1 0+y.2))) o).length=o.length∧(z.foldl (fun o y=>o.set y.1 (aq.wrap (o.getD y.1 0+y.2))) o).sum=o.sum+(z.map (·.2)).sum∧∀n,0≤(z.foldl (fun o y=>o.set y.1 (aq.wrap (o.getD y.1 0+y.2))) o).getD n 0∧(z.foldl (fun o y=>o.set y.1 (aq.wrap (o.getD y.1 0+y.2))) o).getD n 0≤l.getD n 0
 |[],o,_,_,h=>⟨rfl,by simp,fun n=>⟨(h n).1,(h n).2.1⟩⟩
 |y::z,o,hn,hz,h=>by
  obtain⟨h1,h2,h3⟩:=hz y y0d
  rw[y0l,y2l]at hn
  have hw:aq.wrap (o.getD y.1 0+y.2)=o.getD y.1 0+y.2:=by
   have:=h y.1
   exact w64 (by omega)
  rw[y2u,hw]
  have ih:=zXb (l:=l) z (o.set y.1 (o.getD y.1 0+y.2)) hn.2 (fun x hx=>by
   obtain⟨g1,g2,g3⟩:=hz x (y0c _ hx)
   have hne:x.1≠y.1:=fun e=>hn.1 (e▸y1d (f:=(·.1)) hx)
   rw[y1c,zLo h1,yZx hne]
   exact⟨g1,g2,g3⟩) (fun n=>by
   rw[zLo h1]
   split
   ·rename_i e
    rw[e]
    exact⟨by have:=h y.1;omega,h3,(h y.1).2.2⟩
   ·exact h n)
  refine⟨by rw[ih.1,y1c],?_,ih.2.2⟩
  rw[ih.2.1,zUa h1,y0l,y1l];omega
theorem zJw (l:List Int):(List.range l.length).map (fun n=>l.getD n 0)=l:=by
 apply y3a
 intro n
 rw[y0z]
 by_cases h:n<l.length
 ·rw[y4p h,y1g h,y1y,y0h,y1g h];rfl
 ·rw[y1e (by simpa using h),y1e (by omega)];rfl
theorem z4v {f g:Nat→Int}:∀l:List Nat,(l.map fun n=>f n-g n).sum=(l.map f).sum-(l.map g).sum
 |[]=>rfl
 |a::l=>by rw[y0l,y0l,y0l,y1l,y1l,y1l,z4v l];omega
theorem zMv {f:Nat→Int} {p:Nat→Bool}:∀{l:List Nat},(∀n∈l,p n=ao→f n=0)→((l.filter p).map f).sum=(l.map f).sum
 |[],_=>rfl
 |a::l,h=>by
  have ih:=zMv (l:=l) fun n hn=>h n (y0c _ hn)
  rw[y0l,y1l]
  by_cases e:p a=ap
  ·rw[y5a e,y0l,y1l,ih]
  ·rw[y5b e,ih,h a y0d (by simpa using e)];omega
theorem sF {i:RsI} (hl:i.l.length≤250) (ho:i.out.length=i.l.length) (hn:∀n,0≤i.out.getD n 0∧i.out.getD n 0≤i.l.getD n 0∧i.l.getD n 0≤1000000) (hq:0≤i.q∧i.q≤i.l.sum-i.out.sum) (hle:1≤i.least):
 zTc i.l (mV i) (i.out.sum+i.q):=by
 have hidx:(i.idx i.l.length).length≤250:=y3m (y3o _ _) (by simpa using hl)
 have hmem:∀n∈i.idx i.l.length,n<i.l.length∧i.out.getD n 0<i.l.getD n 0:=by
  intro n hn
  obtain⟨a,b⟩:=y2c.1 hn
  exact⟨y3g.1 a,y2j b⟩
 have hls:(i.left i.l.length).sum=i.l.sum-i.out.sum:=by
  rw[RsI.left,RsI.idx,zMv,z4v,zJw]
  ·rw[← ho,zJw]
  ·intro n _ e
   have:=y4u e
   have:=hn n
   omega
 have hr:yS (i.left i.l.length) i.q=ap:=by
  refine yBl (by rw[RsI.left,y0a];exact hidx) hq.1 (fun x hx=> ?_) (by omega)
  obtain⟨n,hm,rfl⟩:=y1a.1 hx
  have:=hmem n hm
  have:=hn n
  omega
 have hp:=zUd (i:=⟨i.left i.l.length,i.least,i.q⟩) hr hle
 have hpl:i.pl.length=(i.idx i.l.length).length:=by
  have:=hp.len
  rw[RsI.pl,this,RsI.left,y0a]
 have hnd:(i.idx i.l.length).Nodup:=List.nodup_range.sublist y5w
 have z1:((i.idx i.l.length).zip i.pl).map (·.1)=i.idx i.l.length:=List.map_fst_zip (by omega)
 have z2:((i.idx i.l.length).zip i.pl).map (·.2)=i.pl:=List.map_snd_zip (by omega)
 have hf:=zXb (l:=i.l) ((i.idx i.l.length).zip i.pl) i.out (by rw[z1];exact hnd) (fun y hy=>by
  obtain⟨j,hj⟩:=y2q.1 hy
  rw[y4w]at hj
  have hm:=hmem y.1 (y0g hj.1)
  have hb:=hp.bd j
  have e1:(kR ⟨i.left i.l.length,i.least,i.q⟩).getD j 0=y.2:=by
   rw[y0h]
   have:(kR ⟨i.left i.l.length,i.least,i.q⟩)[j]? =ar y.2:=hj.2
   rw[this];rfl
  have e2:(i.left i.l.length).getD j 0=i.l.getD y.1 0-i.out.getD y.1 0:=by
   rw[y0h,RsI.left,y0z,hj.1];rfl
  dsimp only at hb
  rw[e1,e2]at hb
  exact⟨by omega,hb.1,by omega⟩) hn
 have hall:mV i=((i.idx i.l.length).zip i.pl).foldl (fun o y=>o.set y.1 (aq.wrap (o.getD y.1 0+y.2))) i.out:=by
  rw[mV,RsI.add,y0p (by rw[List.length_zip];omega)]
 rw[hall]
 refine⟨by rw[hf.1,ho],hf.2.2,?_⟩
 rw[hf.2.1,z2]
 have:=hp.sum
 rw[RsI.pl,this]
theorem z5c {l:List Int} (h:∀x∈l,1≤x∧x≤1000000) (n:Nat):0≤l.getD n 0∧l.getD n 0≤1000000:=by
 by_cases hn:n<l.length
 ·obtain⟨x,hx⟩:=z8 hn
  have:=h x (y0g hx)
  rw[zT hx];omega
 ·rw[y0h,y1e (by omega)];decide
theorem ySb (n k:Nat):(ak n (0:Int)).getD k 0=0:=by
 rw[y0h,List.getElem?_replicate]
 split<;>rfl
theorem zNm (n:Nat):(ak n (0:Int)).sum=0:=by
 induction n with
 |zero=>rfl
 |succ n ih=>rw[y4o,y1l,ih];rfl
theorem yQq {q part:Int} (hq:0≤q) (h0:0≤part) (h1:part≤100):0≤q*part / 100∧q*part / 100≤q:=by
 have h2:0≤q*part:=y6i hq h0
 have h3:q*part≤q*100:=y4z h1 hq
 constructor<;>omega
theorem zSl {p:Prd} (hc:p.check=0) {l:List zK} {q:Int} (hr:yS (l.map (·.qty)) q=ap):zTc (l.map (·.qty)) (kA ⟨p,l,q⟩) q:=by
 have ok:=jR hc
 obtain⟨r1,r2,r3,r4⟩:=kW hr
 have q1:=ok.q1
 have q3:=ok.q3
 have q5:=ok.q5
 have q6:=ok.q6
 have r5:=ok.r1
 have r6:=ok.r2
 have gb:=z5c r3
 have eqs:(AlI.qs ⟨p,l,q⟩)=l.map (·.qty):=rfl
 rw[kA]
 simp only[eqs]
 generalize l.map (·.qty)=qs at*
 by_cases c1:p.rule=1
 ·rw[yZy c1,uX,yZy hr]
  exact tA _ _ (fun x hx=>by have:=r3 x hx;omega) r2 r4
 by_cases c2:p.rule=2
 ·rw[yZx c1,yZy c2,zCx,yZy ⟨hr,q3,q1⟩]
  rw[PsI.rs]
  dsimp only
  split
  ·rename_i ht
   have hk:(topI l).toNat<(ak qs.length (0:Int)).length:=by simp;omega
   have hf:0≤PsI.first ⟨qs,topI l,p.top,p.least,q⟩∧PsI.first ⟨qs,topI l,p.top,p.least,q⟩≤qs.getD (topI l).toNat 0∧PsI.first ⟨qs,topI l,p.top,p.least,q⟩≤q:=by
    have:=gb (topI l).toNat
    simp only[PsI.first]
    omega
   have hs:((ak qs.length (0:Int)).set (topI l).toNat (PsI.first ⟨qs,topI l,p.top,p.least,q⟩)).sum=PsI.first ⟨qs,topI l,p.top,p.least,q⟩:=by
    rw[zUa hk,zNm,ySb];omega
   have:=sF (i:=⟨qs,(ak qs.length 0).set (topI l).toNat (PsI.first ⟨qs,topI l,p.top,p.least,q⟩),p.least,q-PsI.first ⟨qs,topI l,p.top,p.least,q⟩⟩) r1 (by simp) (fun n=>by
    dsimp only
    rw[zLo hk,ySb]
    have:=gb n
    split
    ·rename_i e;rw[e];exact⟨hf.1,hf.2.1,(gb _).2⟩
    ·omega) (by dsimp only;rw[hs];omega) q3
   dsimp only at this
   rw[hs]at this
   have e:PsI.first ⟨qs,topI l,p.top,p.least,q⟩+(q-PsI.first ⟨qs,topI l,p.top,p.least,q⟩)=q:=by omega
   rw[e]at this
   exact this
  ·have:=sF (i:=⟨qs,ak qs.length 0,p.least,q⟩) r1 (by simp) (fun n=>by
    dsimp only
    rw[ySb]
    have:=gb n
    omega) (by dsimp only;rw[zNm];omega) q3
   dsimp only at this
   rw[zNm,Int.zero_add]at this
   exact this
 ·have c3:p.rule=3:=by omega
  rw[yZx c1,yZx c2,yZy c3,zAz,yZy ⟨hr,q5,q6,q3⟩]
  rw[SpI.rs]
  dsimp only
  obtain⟨d1,d2⟩:=yQq r2 q5 q6
  have hr2:yS qs (q*p.part / 100)=ap:=yBl r1 d1 r3 (by omega)
  have hfs:=tA qs (q*p.part / 100) (fun x hx=>by have:=r3 x hx;omega) d1 (by omega)
  have e0:uX qs (q*p.part / 100)=uP qs (q*p.part / 100):=by rw[uX,yZy hr2]
  have:=sF (i:=⟨qs,uX qs (q*p.part / 100),p.least,q-q*p.part / 100⟩) r1 (by dsimp only;rw[e0];exact hfs.len) (fun n=>by
   dsimp only
   rw[e0]
   exact⟨(hfs.bd n).1,(hfs.bd n).2,(gb n).2⟩) (by dsimp only;rw[e0,hfs.sum];omega) q3
  dsimp only at this
  rw[e0,hfs.sum]at this
  rw[e0]
  have e:q*p.part / 100+(q-q*p.part / 100)=q:=by omega
  rw[e]at this
  exact this
theorem z1u {p:Prd} {l:List zK} {q:Int} (hr:yS (l.map (·.qty)) q=ao):kA ⟨p,l,q⟩=[]:=by
 have eqs:(AlI.qs ⟨p,l,q⟩)=l.map (·.qty):=rfl
 rw[kA]
 simp only[eqs,uX,zCx,zAz,hr]
 simp
open Go Cv Go.Proofs
theorem zQt:motherC.ok Tryz.prog 206:=okw (V:=z2e) mixed gok0 0 (fun _=>[]) (fun _=>[]) [] Tryz.func206 fun(b:Bool) _=>by
 unfold z2e
 cases b<;>exact⟨(),by decide,trivial⟩
theorem zYh:mgoodC.ok Tryz.prog 207:=okw (V:=yEx) mixed gok0 0 (fun _=>[]) (fun _=>[]) [] Tryz.func207 fun(i:GoI) _=>by
 obtain⟨s,p,x⟩:=i
 unfold yEx
 cases s
 ·refine Cv.cnd.mk (fun _=>zJ (fun c=>⟨(),?_,trivial⟩) (fun c=>Cv.cnd.mk (fun e=>by simp[zD]at e) (fun _=>⟨(),?_,trivial⟩))) (fun e=>by simp[zD]at e)
  ·exact y0n c
  ·exact y0k c
 ·exact Cv.cnd.mk (fun e=>by simp[zD]at e) (fun _=>Cv.cnd.mk (fun _=>⟨(),rfl,trivial⟩) (fun e=>by simp[zD]at e))
theorem zVn {L:List zK} {s:Int}:((bestL L s).2=ap∧∃o∈L,o.side=s∧o.price=(bestL L s).1.price)∨(bestL L s=(⟨0,0,0⟩,ao)∧∀o∈L,o.side≠s):=by
 rw[bestL]
 cases hl:uU L s with
 |nil=>
  refine .inr ⟨rfl,fun o ho e=> ?_⟩
  rw[uU]at hl
  cases hf:L.filter fun o=>decide (o.side=s)with
  |nil=>
   rw[y3t]at hf
   have:=hf o ho
   simp[e]at this
  |cons x y=>
   rw[hf,grp]at hl
   split at hl
   ·cases hl
   ·split at hl<;>cases hl
 |cons v vs=>
  refine .inl ⟨rfl,?_⟩
  rw[uU]at hl
  obtain⟨o,r,e1,e2⟩:=zKi hl
  have:o∈L.filter fun o=>decide (o.side=s):=by rw[e1];exact y0d
  rw[y2c]at this
  exact⟨o,this.1,by simpa using this.2,e2⟩
theorem zTn {L:List zK} {s:Int} (h:∀o∈L,-2000000≤o.price∧o.price≤2000000): -2000000≤(bestL L s).1.price∧(bestL L s).1.price≤2000000:=by
 rcases zVn (L:=L) (s:=s)with⟨_,o,ho,_,e⟩|⟨e,_⟩
 ·rw[← e];exact h o ho
 ·rw[e];constructor<;>decide
theorem zJa (L:List zK):(qU L).p1=(bestL L 1).1.price∧(qU L).q1=(bestL L 1).1.qty∧(qU L).has1=(bestL L 1).2∧(qU L).p2=(bestL L 2).1.price∧(qU L).q2=(bestL L 2).1.qty∧(qU L).has2=(bestL L 2).2:=by
 have h:∀s,(bestL L s).2=ap∨bestL L s=(⟨0,0,0⟩,ao):=fun s=>by
  rcases zVn (L:=L) (s:=s)with⟨h,_⟩|⟨h,_⟩
  ·exact .inl h
  ·exact .inr h
 rw[qU,Top.sell,Top.buy]
 rcases h 1 with h1|h1<;>rcases h 2 with h2|h2<;>simp[h1,h2,top0]
theorem BOk.prices {p:Prd} {B:List (List zK)} (h:BOk p B) {k:Nat} {L:List zK} (hL:B[k]? =ar L):∀o∈L,-2000000≤o.price∧o.price≤2000000:=fun o ho=>sN h.pc (h.pr k L hL o ho)
theorem BOk.tops {p:Prd} {B:List (List zK)} (h:BOk p B):vD (B.map qU):=by
 have:=xQ p
 refine⟨by rw[y0a,h.bl];omega,fun t ht=> ?_⟩
 obtain⟨L,hL,rfl⟩:=y1a.1 ht
 obtain⟨k,hk⟩:=y2q.1 hL
 have b1:=zTn (s:=1) (h.prices hk)
 have b2:=zTn (s:=2) (h.prices hk)
 rw[(zJa L).1,(zJa L).2.2.2.1]
 exact⟨by constructor<;>omega,by constructor<;>omega⟩
theorem MSt.Rep.tops {s:MSt} {p:Prd} {B:List (List zK)} (h:s.Rep p B):s.tops=B.map qU:=by
 rw[MSt.tops]
 apply y3a
 intro k
 rw[y0z,y0z]
 by_cases hk:k<B.length
 ·obtain⟨L,hL⟩:=z8 hk
  obtain⟨b,hb⟩:=z8 (l:=s.books) (i:=k) (by rw[h.bl];exact hk)
  rw[hL,hb,y1y,y1y,(h.bk k b L hb hL).top]
 ·rw[y1e (by rw[h.bl];omega),y1e (by omega)];rfl
theorem MSt.Rep.cnt {s:MSt} {p:Prd} {B:List (List zK)} (h:s.Rep p B) (hB:B.length≤1000000):s.cntOk:=by
 refine⟨by rw[h.bl];exact hB,fun b hb=> ?_⟩
 obtain⟨k,hk⟩:=y2q.1 hb
 have hlt:=(yZz.1 hk).1
 rw[h.bl]at hlt
 obtain⟨L,hL⟩:=z8 hlt
 exact(h.bk k b L hk hL).cnt
theorem zXr {b:Book} {L:List zK} (h:b.Rep L) (sd:Bool):b.best (b.side sd)=bestL L (zD sd):=by
 obtain⟨Q,c,ht,rfl⟩:=h
 cases sd
 ·exact c.bestL (.inl rfl)
 ·exact c.bestL (.inr rfl)
theorem zDl (sd:Bool):zD sd=1∨zD sd=2:=by cases sd;exact .inl rfl;exact .inr rfl
theorem yVv (i:NxI) (h:nextC.cnd i):yNy i:=by
 obtain⟨hR,hB,h0,h1⟩:i.s.Rep i.p i.B∧BOk i.p i.B∧0≤i.inst∧i.inst<i.B.length:=h
 have hcl:=xQ i.p
 have hbl:=hB.bl
 have hsl:=hR.bl
 obtain⟨k,hk⟩:∃k:Nat,i.inst=k:=⟨i.inst.toNat,by omega⟩
 obtain⟨L,hL⟩:=z8 (l:=i.B) (i:=k) (by omega)
 obtain⟨b,hb⟩:=z8 (l:=i.s.books) (i:=k) (by omega)
 have hbR:=hR.bk k b L hb hL
 have hps:i.s.p.small:=by rw[hR.ep];exact hB.ps
 have hto:vD i.s.tops:=by rw[hR.tops];exact hB.tops
 have hnx:yR i.p i.B i.inst (zD i.sd)=if((bestL L (zD i.sd)).2 && !((zU (xS ⟨i.s.p,i.s.tops,i.inst⟩ (zD i.sd)) (zD i.sd)).2 && btr (zD i.sd) (zU (xS ⟨i.s.p,i.s.tops,i.inst⟩ (zD i.sd)) (zD i.sd)).1.price (bestL L (zD i.sd)).1.price))=ap then(⟨(bestL L (zD i.sd)).1.price,(bestL L (zD i.sd)).1.qty,⟨0,0⟩,⟨0,0⟩⟩,ao,ap)else((zU (xS ⟨i.s.p,i.s.tops,i.inst⟩ (zD i.sd)) (zD i.sd)).1,(zU (xS ⟨i.s.p,i.s.tops,i.inst⟩ (zD i.sd)) (zD i.sd)).2,(zU (xS ⟨i.s.p,i.s.tops,i.inst⟩ (zD i.sd)) (zD i.sd)).2):=by
  rw[yR,hR.tops,hR.ep,hk,y0s,zT hL]
 have hbest:=zXr hbR i.sd
 unfold yNy zTh kD gU zIw wW zMx zV zLh zLu z7 dR fW zGr
 have hcnt:i.s.cntOk:=hR.cnt (by omega)
 have hql:(xS ⟨i.s.p,i.s.tops,i.inst⟩ (zD i.sd)).length≤1000000:=by
  have:=y3m (y3o (fun q=>decide (i.s.p.price i.inst q.price=0)) _) (zDz ⟨i.s.p,i.s.tops,i.inst⟩ (zD i.sd))
  exact y3m this (by decide)
 refine(fun hT=>⟨⟨i.s,rfl,rfl,rfl,rfl,rfl,rfl,rfl,rfl,rfl,rfl,rfl,rfl,rfl,hcnt,fun _ _=>⟨⟨rfl,trivial,rfl,rfl,rfl,rfl,rfl,rfl,rfl,rfl,trivial,trivial⟩,⟨⟨⟨i.s.p,i.s.tops,i.inst⟩,i.sd⟩,rfl,rfl,rfl,rfl,rfl,rfl,rfl,rfl,rfl,rfl,rfl,rfl,rfl,rfl,⟨hps,hto⟩,fun _ _=>⟨hT,hT⟩⟩,⟨rfl,trivial,rfl,rfl,rfl,rfl,rfl,rfl,rfl,rfl,trivial,trivial⟩,⟨⟨⟨i.s.p,i.s.tops,i.inst⟩,i.sd⟩,rfl,rfl,rfl,rfl,rfl,rfl,rfl,rfl,rfl,rfl,rfl,rfl,rfl,rfl,⟨hps,hto⟩,fun _ _=>hT⟩⟩⟩,
  ⟨rfl,trivial,rfl,rfl,rfl,rfl,rfl,rfl,rfl,rfl,trivial,trivial⟩,⟨i.s,rfl,rfl,rfl,rfl,rfl,rfl,rfl,rfl,rfl,rfl,rfl,rfl,rfl,hcnt,fun _ _=>⟨⟨rfl,trivial,rfl,rfl,rfl,rfl,rfl,rfl,rfl,rfl,trivial,trivial⟩,⟨⟨⟨i.s.p,i.s.tops,i.inst⟩,i.sd⟩,rfl,rfl,rfl,rfl,rfl,rfl,rfl,rfl,rfl,rfl,rfl,rfl,rfl,rfl,⟨hps,hto⟩,fun _ _=>hT⟩⟩⟩⟩) ?_
 refine⟨⟨xS ⟨i.s.p,i.s.tops,i.inst⟩ (zD i.sd),zD i.sd⟩,rfl,rfl,⟨zDl _,hql⟩,fun _ _=>⟨⟨h0,by omega⟩,by omega,b,by rw[hk];exact hb,⟨i.sd,b⟩,rfl,rfl,hbR.cnt,fun _ _=>⟨b,rfl,rfl,by omega,?_⟩⟩⟩
 dsimp only
 rw[hbest]
 generalize bestL L (zD i.sd)=l at*
 generalize zU (xS ⟨i.s.p,i.s.tops,i.inst⟩ (zD i.sd)) (zD i.sd)=bq at*
 have hset:i.s.books.set i.inst.toNat b=i.s.books:=uA (by rw[hk];exact hb)
 rw[hset]
 refine Cv.cnd.mk (fun c1=>Cv.cnd.mk (fun c2=>⟨⟨zD i.sd,bq.1.price,l.1.price⟩,rfl,rfl,rfl,trivial,fun _ _=>Cv.cnd.mk (fun c3=> ?_) (fun c3=> ?_)⟩) (fun c2=> ?_)) (fun c1=> ?_)
 ·dsimp only at c3
  rw[yZy (by rw[c1,c2];simpa using c3)]at hnx
  rw[hnx];exact⟨(),k0q⟩
 ·dsimp only at c3
  rw[yZx (by rw[c1,c2];simpa using c3)]at hnx
  rw[hnx];exact⟨(),k0q⟩
 ·rw[yZy (by rw[c1,c2];rfl)]at hnx
  rw[hnx];exact⟨(),k0q⟩
 ·rw[yZx (by rw[c1];simp)]at hnx
  rw[hnx];exact⟨(),k0q⟩
theorem yHp:nextC.ok Tryz.prog 234:=okw mixed (gokc zUu (gokc zPt (gokc zYb (gokc zJe (gokc bZ gok0))))) 0 (fun _=>[]) (fun _=>[]) [0] Tryz.func234 yVv
theorem z3j (i:RsI) (k:Nat):(i.add k).length=i.out.length:=by
 have:∀(l:List (Nat×Int)) (o:List Int),(l.foldl (fun o y=>o.set y.1 (aq.wrap (o.getD y.1 0+y.2))) o).length=o.length:=by
  intro l
  induction l with
  |nil=>intro o;rfl
  |cons x l ih=>intro o;rw[y2u,ih,y1c]
 exact this _ _
theorem zXu (l:List Int) (q:Int):(uX l q).length≤l.length:=by
 rw[uX];split
 ·rw[sS];exact y1f _
 ·exact y1n _
theorem z9h (i:AlI):(kA i).length≤i.l.length:=by
 have hq:i.qs.length=i.l.length:=by simp[AlI.qs]
 rw[kA,← hq]
 repeat' split
 ·exact zXu _ _
 ·rw[zCx];split
  ·rw[mV,z3j,PsI.rs]
   split
   ·simp
   ·simp
  ·exact y1n _
 ·rw[zAz];split
  ·rw[mV,z3j];exact zXu _ _
  ·exact y1n _
 ·exact y1n _
theorem zLa {inst s:Int}:∀{os:List zK} {sh:List Int} {j:Nat} {o:zK} {k:Int},os[j]? =ar o→sh[j]? =ar k→xR inst s (os.take (j+1)) (sh.take (j+1))=xR inst s (os.take j) (sh.take j)++(if 0<k then[⟨o.id,inst,s,o.price,k,o.qty-k⟩]else[])
 |[],_,_,_,_,h,_=>by simp at h
 |_::_,[],_,_,_,_,h=>by simp at h
 |o::os,k::sh,0,_,_,h,h2=>by
  cases h;cases h2
  rw[y1j,y1j,y3x,y3x,y3x,y3x,xR]
  split<;>rfl
 |o::os,k::sh,j+1,o',k',h,h2=>by
  rw[y1j,y1j,xR,y1j,y1j,xR,zLa (os:=os) (sh:=sh) (j:=j) h h2]
  split<;>rfl
theorem zQw {inst s:Int}:∀(os:List zK) (sh:List Int),xR inst s (os.take sh.length) (sh.take sh.length)=xR inst s os sh
 |[],sh=>by simp
 |_::_,[]=>by simp[xR]
 |o::os,k::sh=>by
  rw[y0f,y1j,y1j,xR,xR,zQw os sh]
theorem z7h (B:List (List zK)) (a b:List cF):kF B (a++b)=kF (kF B a) b:=y5o
theorem tN (B:List (List zK)) (id q:Int):(kH B id q).1.length=B.length:=by
 rw[kH];split
 ·rfl
 ·simp
theorem uE:∀(fs:List cF) (B:List (List zK)),(kF B fs).length=B.length
 |[],B=>rfl
 |f::fs,B=>by
  show(kF (kH B f.id f.qty).1 fs).length=_
  rw[uE fs,tN]
theorem yPu {p:Prd} (h:p.check=0):yO p.least∧yO p.top∧yO p.part:=by
 have ok:=jR h
 have:=ok.q1
 have:=ok.q2
 have:=ok.q3
 have:=ok.q4
 have:=ok.q5
 have:=ok.q6
 exact⟨⟨by omega,by omega⟩,⟨by omega,by omega⟩,⟨by omega,by omega⟩⟩
theorem yRj (i:TrI) (h:tradeC.cnd i):yCa i:=by
 obtain⟨hR,hB,h0,h1,hq⟩:i.s.Rep i.p i.B∧BOk i.p i.B∧0≤i.inst∧i.inst<i.B.length∧yO i.q:=h
 have hcl:=xQ i.p
 have hbl:=hB.bl
 have hsl:=hR.bl
 have ep:=hR.ep
 obtain⟨k,hk⟩:∃k:Nat,i.inst=k:=⟨i.inst.toNat,by omega⟩
 obtain⟨L,hL⟩:=z8 (l:=i.B) (i:=k) (by omega)
 obtain⟨b,hb⟩:=z8 (l:=i.s.books) (i:=k) (by omega)
 have hbR:=hR.bk k b L hb hL
 have hbest:=zXr hbR i.sd
 have hos:atL L (zD i.sd) (bestL L (zD i.sd)).1.price=i.os:=by rw[TrI.os,zUf,hk,y0s,zT hL]
 have hset:i.s.books.set i.inst.toNat b=i.s.books:=uA (by rw[hk];exact hb)
 have hosl:i.os.length≤250:=by
  rw[← hos];exact y3m (y3o _ _) hbR.ords.2.2
 have hsh:i.sh.length≤i.os.length:=z9h _
 obtain⟨k1,k2,k3⟩:=yPu hB.pc
 have hsb:∀(j:Nat) (n:Int),i.sh[j]? =ar n→n≤1000000:=by
  intro j n hn
  cases hr:yS (i.os.map (·.qty)) i.q with
  |false=>
   have:i.sh=[]:=z1u hr
   rw[this]at hn;cases hn
  |true=>
   have:=(zSl hB.pc hr).bd j
   have e:(kA ⟨i.p,i.os,i.q⟩).getD j 0=n:=zT hn
   rw[e]at this
   have:=(z5c (kW hr).2.2.1 j).2
   omega
 unfold yCa zGe uN dQ aH dO hJ zV wW dI
 refine⟨⟨h0,by omega⟩,by omega,b,by rw[hk];exact hb,⟨i.sd,b⟩,rfl,rfl,hbR.cnt,fun _ _=> ?_⟩
 refine⟨b,rfl,rfl,by omega,b,by rw[hset,hk];exact hb,⟨b,L,i.sd,(bestL L (zD i.sd)).1.price⟩,rfl,by dsimp only;rw[hbest],rfl,hbR,fun _ _=> ?_⟩
 dsimp only
 try rw[hbest]
 rw[hset,hos]
 refine⟨b,rfl,rfl,by omega,⟨i.p,i.os,i.q⟩,by rw[ep],by rw[ep],by rw[ep],by rw[ep],by rw[ep],by rw[ep],by rw[ep],by rw[ep],by rw[ep],by rw[ep],by rw[ep],rfl,rfl,⟨by dsimp only;omega,hq,k1,k2,k3⟩,fun _ _=> ?_⟩
 have esh:kA ⟨i.p,i.os,i.q⟩=i.sh:=rfl
 rw[esh,hset,xD,y0a]
 refine⟨(0,i.s),rfl,rfl,rfl,rfl,rfl,rfl,rfl,rfl,rfl,rfl,rfl,rfl,rfl,rfl,rfl,fun j=>j.2.Rep i.p (kF i.B (i.fs j.1))∧j.1≤i.sh.length,fun j=>i.sh.length-j.1,⟨hR,y1n _⟩,fun j hj=> ?_⟩
 obtain⟨hjR,hjl⟩:=hj
 obtain⟨j,sj⟩:=j
 dsimp only at hjR hjl ⊢
 refine zJ (fun c=> ?_) (fun c=> ?_)
 ·obtain⟨n,hn⟩:=z8 (l:=i.sh) (i:=j) (by omega)
  obtain⟨o,ho⟩:=z8 (l:=i.os) (i:=j) (by omega)
  have hst:=zLa (inst:=i.inst) (s:=zD i.sd) ho hn
  have hoL:o∈L:=by
   have:=y0g ho
   rw[← hos]at this
   exact(y2c.1 this).1
  have hoq:=(hbR.ords.1 o hoL).q
  have hnb:=hsb j n hn
  refine⟨⟨by omega,by omega⟩,n,elI hn,zJ (fun c2=> ?_) (fun c2=> ?_)⟩
  ·rw[yZy (show 0<n from c2)]at hst
   have hfl:(i.fs j).length≤j:=by
    have:∀(os:List zK) (sh:List Int),(xR i.inst (zD i.sd) os sh).length≤os.length:=by
     intro os
     induction os with
     |nil=>intro sh;exact y1f 0
     |cons o os ih=>
      intro sh
      cases sh with
      |nil=>exact y1n _
      |cons k sh=>
       have:=ih sh
       rw[xR]
       split
       ·simp only[y0f];omega
       ·simp only[y0f];omega
    exact y3m (this _ _) (by rw[y0t];omega)
   refine⟨⟨by omega,by omega⟩,o.id,o.side,o.price,o.qty,o.top,yPj ho,⟨sj,i.p,kF i.B (i.fs j),o.id,n⟩,rfl,rfl,rfl,⟨hjR,by dsimp only;rw[uE];omega⟩,fun s' hs'=>⟨by rw[y0a];omega,(j+1,s'),wjn (by omega),rfl,?_,⟨?_,by dsimp only;omega⟩,by dsimp only;omega,k0q⟩⟩
   ·show aj yT (xR i.inst (zD i.sd) (i.os.take (j+1)) (i.sh.take (j+1)))=_
    rw[hst,y0j,w64 (by omega)];rfl
   ·show s'.Rep i.p (kF i.B (xR i.inst (zD i.sd) (i.os.take (j+1)) (i.sh.take (j+1))))
    rw[hst,z7h];exact hs'
  ·rw[yZx (show ¬0<n from c2),y0v]at hst
   refine⟨(j+1,sj),wjn (by omega),rfl,?_,⟨?_,by dsimp only;omega⟩,by dsimp only;omega,k0q⟩
   ·show aj yT (xR i.inst (zD i.sd) (i.os.take (j+1)) (i.sh.take (j+1)))=_
    rw[hst];rfl
   ·show sj.Rep i.p (kF i.B (xR i.inst (zD i.sd) (i.os.take (j+1)) (i.sh.take (j+1))))
    rw[hst];exact hjR
 ·have hje:j=i.sh.length:=by omega
  subst hje
  have hfa:i.fs i.sh.length=qN i.p i.B i.inst (zD i.sd) i.q:=zQw _ _
  rw[hfa]at hjR ⊢
  exact⟨sj,rfl,rfl,hjR⟩
theorem yEw:tradeC.ok Tryz.prog 235:=okw mixed (gokc zJe (gokc yUz (gokc yAx (gokc zCh gok0)))) 0 (fun _=>[]) (fun i=>yPq i) [0] Tryz.func235 yRj
open Go Cv Go.Proofs
structure wF where
 price:Int
 qty:Int
 implied:Bool
 fills:List cF
 deriving DecidableEq
def jZ (t:wF):List D:=[.v (.int .i64 t.price),.v (.int .i64 t.qty),.v (.bool t.implied),.ro 6 (t.fills.map yT)]
def aB (p:Prd) (B:List (List zK)) (inst:Int) (sd:Bool) (price qty:Int):Option (wF×List (List zK)):=
 let n:=yR p B inst (zD (!sd))
 if(n.2.2 && (cQ sd price n.1.price && decide (1≤n.1.qty)))=ap then
  if n.2.1=ap then
   let f1:=qN p B n.1.a.inst n.1.a.side (min qty n.1.qty)
   let f2:=qN p (kF B f1) n.1.b.inst n.1.b.side (min qty n.1.qty)
   ar (⟨n.1.price,min qty n.1.qty,ap,f1++f2⟩,kF (kF B f1) f2)
  else
   let f:=qN p B inst (zD (!sd)) (min qty n.1.qty)
   ar (⟨n.1.price,min qty n.1.qty,ao,f⟩,kF B f)
 else au
structure ySq where
 steps:List wF
 left:Int
 B:List (List zK)
def zIn (p:Prd) (inst:Int) (sd:Bool) (price:Int):Nat→List (List zK)→Int→ySq
 |0,B,q=>⟨[],q,B⟩
 |n+1,B,q=>if q≤0 then⟨[],q,B⟩else match aB p B inst sd price q with
  |none=>⟨[],q,B⟩
  |some (t,B')=>let r:=zIn p inst sd price n B' (q-t.qty);⟨t::r.steps,r.left,r.B⟩
def wD (p:Prd) (B:List (List zK)) (inst:Int) (sd:Bool) (price q:Int):ySq:=zIn p inst sd price q.toNat B q
structure RunI where
 s:MSt
 p:Prd
 B:List (List zK)
 inst:Int
 sd:Bool
 price:Int
 q:Int
def RunI.r (i:RunI):ySq:=wD i.p i.B i.inst i.sd i.price i.q
def runC:Con where
 ι:=RunI
 pat:=fun i=>[.nm 0 0,zA i.inst,zA (zD i.sd),zA i.price,zA i.q]
 pre:=fun i=>[zF i.s]
 cnd:=fun i=>i.s.Rep i.p i.B∧BOk i.p i.B∧(0≤i.inst∧i.inst<i.B.length)∧1≤i.q∧i.q≤1000000
 alts:=fun i=>[{o:=MSt,res:=fun _=> .tup [.own 1,zA i.r.left],post:=fun s=>[zF s,.own 321 4 (i.r.steps.map jZ)],rel:=fun s=>s.Rep i.p i.r.B}]
structure zNi where
 s:MSt
 B:List (List zK)
 steps:List wF
 q:Int
def yZb:List SAnn:=[
 {ι:=zNi,slots:=fun j=>[(0,.nm 0 0),(12,.own 1),(4,zA j.q)],rows:=fun j=>[zF j.s,.own 321 4 (j.steps.map jZ)]},
 {ι:=Unit,slots:=fun _=>[],rows:=fun _=>[],un:=3}]
open Go Cv Go.Proofs
def zNn (a:zNi→Nat) (b:zNi) (c:zNi) (d:RunI):Prop:=a b<a c∧aa 1 (iE d.s.p.months)=aa 1 (iE d.s.p.months)∧aa 1 (iE d.s.p.settle)=aa 1 (iE d.s.p.settle)
def zDw (a:TrI):Prop:=a.s.Rep a.p a.B∧BOk a.p a.B∧0≤a.inst∧a.inst<(↑a.B.length:Int)∧(-9223372036854775808)≤a.q∧a.q≤9223372036854775807
def zJx (a:RunI) (b:zNi) (c:NxI):Prop:=∃(d:MSt),a.r.left=b.q∧zF d=zF c.s∧aj jZ a.r.steps=aj jZ b.steps∧d.Rep a.p a.r.B
def tC (a:TrI):=(aj yT (hJ a))
def zZs (a:RunI):Prop:=∃(b:zNi),b.q=a.q∧sb b.s.p.code=sb a.s.p.code∧b.s.p.tick=a.s.p.tick∧b.s.p.low=a.s.p.low∧b.s.p.high=a.s.p.high∧b.s.p.wide=a.s.p.wide∧b.s.p.rule=a.s.p.rule∧b.s.p.top=a.s.p.top∧b.s.p.least=a.s.p.least∧b.s.p.part=a.s.p.part∧ab 241 Book 6 zS b.s.books au=ab 241 Book 6 zS a.s.books au∧yW b.s.wh=yW a.s.wh∧aa 1 (iE b.s.p.months)=aa 1 (iE a.s.p.months)∧aa 1 (iE b.s.p.settle)=aa 1 (iE a.s.p.settle)∧aj jZ b.steps=[]∧∃(c:zNi→Prop),∃(d:zNi→Nat),c b∧∀(e:zNi),c e→cnd (decide (e.q>0)) (∃(f:Bool),zD f=zD a.sd∧True∧∀(g:Unit),True→∃(h:NxI),h.inst=a.inst∧zD h.sd=zD !f∧zF h.s=zF e.s∧(h.s.Rep h.p h.B∧BOk h.p h.B∧0≤h.inst∧h.inst<(↑h.B.length:Int))∧∀(j:Unit),True→cnd (!(z7 h).snd.snd) (zJx a e h) (∃(k:GoI),zD k.s=zD a.sd∧k.p=a.price∧k.x=(z7 h).fst.price∧True∧∀(l:Unit),True→cnd (!cQ k.s k.p k.x) (zJx a e h) (cnd (z7 h).snd.fst (∃(m:TrI),m.inst=(z7 h).fst.a.inst∧zD m.sd=(z7 h).fst.a.side∧m.q=min e.q (z7 h).fst.qty∧zF m.s=zF h.s∧(zDw m)∧∀(n:MSt),n.Rep m.p (dO m)→True∧(tC m).length*(48:Nat)≤(140737488355328:Nat)∧∃(p:TrI),p.inst=(z7 h).fst.b.inst∧zD p.sd=(z7 h).fst.b.side∧p.q=min e.q (z7 h).fst.qty∧zF p.s=zF n∧(zDw p)∧∀(q:MSt),q.Rep p.p (dO p)→True∧((tC m).length+(tC p).length)*(48:Nat)≤(140737488355328:Nat)∧((aj jZ e.steps).length+1)*(48:Nat)≤(140737488355328:Nat)∧∃(r:zNi),r.q=aq.wrap (e.q-min e.q (z7 h).fst.qty)∧zF r.s=zF q∧aj jZ r.steps=aj jZ e.steps++[[dI ((z7 h).fst.price),dI (min e.q (z7 h).fst.qty),D.v (.bool (z7 h).snd.fst),D.ro 6 (aj yT (hJ m)++aj yT (hJ p))]]∧c r∧zNn d r e a) (∃(m:Bool),zD m=zD a.sd∧True∧∀(n:Unit),True→min e.q (z7 h).fst.qty=min e.q (z7 h).fst.qty∧∃(p:TrI),p.inst=a.inst∧zD p.sd=zD !m∧p.q=min e.q (z7 h).fst.qty∧zF p.s=zF h.s∧(zDw p)∧∀(q:MSt),q.Rep p.p (dO p)→((aj jZ e.steps).length+1)*(48:Nat)≤(140737488355328:Nat)∧∃(r:zNi),r.q=aq.wrap (e.q-min e.q (z7 h).fst.qty)∧zF r.s=zF q∧aj jZ r.steps=aj jZ e.steps++[[dI ((z7 h).fst.price),dI (min e.q (z7 h).fst.qty),D.v (.bool (z7 h).snd.fst),D.ro 6 (tC p)]]∧c r∧zNn d r e a)))) (∃(f:MSt),a.r.left=e.q∧zF f=zF e.s∧aj jZ a.r.steps=aj jZ e.steps∧f.Rep a.p a.r.B)
def aT (a:RunI):Prop:=∃(b:MSt),a.r.left=a.q∧sb b.p.code=sb a.s.p.code∧b.p.tick=a.s.p.tick∧b.p.low=a.s.p.low∧b.p.high=a.s.p.high∧b.p.wide=a.s.p.wide∧b.p.rule=a.s.p.rule∧b.p.top=a.s.p.top∧b.p.least=a.s.p.least∧b.p.part=a.s.p.part∧ab 241 Book 6 zS b.books au=ab 241 Book 6 zS a.s.books au∧yW b.wh=yW a.s.wh∧aa 1 (iE b.p.months)=aa 1 (iE a.s.p.months)∧aa 1 (iE b.p.settle)=aa 1 (iE a.s.p.settle)∧aj jZ a.r.steps=[]∧b.Rep a.p a.r.B
def yUp (i:RunI):Prop:=
 cnd (decide (i.inst≥0)) (cnd (decide (i.inst<(↑i.s.books.length:Int))) (cnd (zD i.sd==1) (cnd (decide (i.q≥1)) (cnd (!decide (i.q≤1000000)) (aT i) (zZs i)) (aT i)) (cnd (zD i.sd==2) (cnd (decide (i.q≥1)) (cnd (!decide (i.q≤1000000)) (aT i) (zZs i)) (aT i)) (aT i))) (aT i)) (aT i)
open Go Cv Go.Proofs
structure QOk (T:List Top) (q:Quote):Prop where
 a:0≤q.a.inst∧q.a.inst<T.length
 b:0≤q.b.inst∧q.b.inst<T.length
 sa:q.a.side=1∨q.a.side=2
 sb:q.b.side=1∨q.b.side=2
 ne:q.a.inst≠q.b.inst
 ha:(T.getD q.a.inst.toNat top0).has q.a.side=ap
 hb:(T.getD q.b.inst.toNat top0).has q.b.side=ap
 qty:q.qty=min ((T.getD q.a.inst.toNat top0).qty q.a.side) ((T.getD q.b.inst.toNat top0).qty q.b.side)
theorem zZe {T:List Top} {a b:Leg} {less:Bool} {q:Quote} (h:q∈mkq T a b less) (h1:0≤a.inst∧a.inst<T.length) (h2:0≤b.inst∧b.inst<T.length) (h3:a.side=1∨a.side=2) (h4:b.side=1∨b.side=2) (hne:a.inst≠b.inst):QOk T q∧q.a=a∧q.b=b:=by
 cases less
 all_goals
  simp only[mkq,y0r,↓reduceIte]at h
  split at h
  ·rename_i hc
   simp only[y0o]at hc
   rw[y1k]at h
   subst h
   exact⟨⟨h1,h2,h3,h4,hne,hc.1.1,hc.1.2,rfl⟩,rfl,rfl⟩
  ·cases h
theorem yOz:∀n≤6,∀k<n+n*(n-1) / 2,n≤k→(kK n k n 0).1≠(kK n k n 0).2.1:=by decide
theorem z5i {p:Prd} (hc:p.check=0) {k:Nat} (hk:k<p.count) (hs:(p.legs k).2.2=ap):(p.legs k).1≠(p.legs k).2.1:=by
 have m6:=(jR hc).m6
 have hk':=hk
 rw[Prd.count,yZy hc]at hk'
 by_cases h:k<p.months.length
 ·rw[Prd.legs,yZx (by omega),yZy (by omega)]at hs
  cases hs
 ·rw[Prd.legs,yZx (by omega),yZx (by omega)]
  exact yOz p.months.length m6 k hk' (by omega)
theorem z7e:∀n≤6,∀a<n,∀b<n,a<b→(yJ n a:Int)+b-a-1≥n:=by decide
theorem zPs {p:Prd} (hc:p.check=0) {a b:Nat} (hab:a<b) (hb:b<p.months.length):(p.months.length:Int)≤(p.spread a b).1:=by
 have m6:=(jR hc).m6
 have:=z7e p.months.length m6 a (by omega) b hb hab
 rw[Prd.spread,yZx (by omega)]
 simpa using this
theorem z4d {p:Prd} (hc:p.check=0) {T:List Top} (hT:T.length=p.count) {inst:Int} {s:Int} (hs:s=1∨s=2) {q:Quote} (h:q∈kE ⟨p,T,inst⟩ s):QOk T q∧0≤inst∧inst<p.count∧
 (((p.legs inst).2.2=ap∧q.a=⟨(p.legs inst).1,s⟩∧q.b=⟨(p.legs inst).2.1,3-s⟩)∨(inst<p.months.length∧q.a.inst≠inst∧(p.months.length:Int)≤q.a.inst)):=by
 rw[kE]at h
 dsimp only at h
 split at h
 ·cases h
 ·rename_i hn
  have h0:0≤inst∧inst<p.count:=by omega
  obtain⟨k,rfl⟩:∃k:Nat,inst=k:=⟨inst.toNat,by omega⟩
  have hk:k<p.count:=by omega
  have hge:=zLt hc
  split at h
  ·rename_i hl
   obtain⟨q',hq',rfl⟩:=y1a.1 h
   have hle:=cE hc hk
   rcases hle with⟨_,l1,l2,l3,l4⟩|⟨e,_⟩
   ·obtain⟨ok,e1,e2⟩:=zZe hq' (by dsimp only;omega) (by dsimp only;omega) (by dsimp only;omega) hs (fun e=>z5i hc hk hl e.symm)
    refine⟨⟨by dsimp only[cP];omega,by dsimp only[cP];omega,hs,by dsimp only[cP];omega,z5i hc hk hl,?_,?_,?_⟩,h0.1,h0.2,.inl ⟨hl,rfl,rfl⟩⟩
    ·have:=ok.hb;rw[e2]at this;exact this
    ·have:=ok.ha;rw[e1]at this;exact this
    ·have:=ok.qty;rw[e1,e2]at this;dsimp only[cP];rw[this];exact Int.min_comm _ _
   ·rw[e]at hl;cases hl
  ·rename_i hl
   have hm:k<p.months.length:=by
    rcases cE hc hk with⟨e,_⟩|⟨_,e⟩
    ·exact absurd e hl
    ·exact e
   rcases y0u.1 h with h|h
   ·obtain⟨j,hj,h⟩:=y2s.1 h
    have hj:=y3g.1 hj
    rw[y0s]at hj
    have s1:=bL hc (a:=k) (b:=k+1+j) (by omega) (by omega)
    have s2:=zPs hc (a:=k) (b:=k+1+j) (by omega) (by omega)
    have ec:((k:Int)+1+j)=((k+1+j:Nat):Int):=by omega
    rw[ec]at h
    obtain⟨ok,e1,e2⟩:=zZe h (by dsimp only;omega) (by dsimp only;omega) hs hs (by dsimp only;omega)
    exact⟨ok,h0.1,h0.2,.inr ⟨by omega,by rw[e1];dsimp only;omega,by rw[e1];exact s2⟩⟩
   ·obtain⟨j,hj,h⟩:=y2s.1 h
    have hj:=y3g.1 hj
    rw[y0s]at hj
    have s1:=bL hc (a:=j) (b:=k) (by omega) (by omega)
    have s2:=zPs hc (a:=j) (b:=k) (by omega) (by omega)
    obtain⟨ok,e1,e2⟩:=zZe h (by dsimp only;omega) (by dsimp only;omega) (by dsimp only;omega) hs (by dsimp only;omega)
    exact⟨ok,h0.1,h0.2,.inr ⟨by omega,by rw[e1];dsimp only;omega,by rw[e1];exact s2⟩⟩
theorem zPo {s:Int}:∀(r:List Quote) (q:Quote),r.foldl (fun b q=>if btr s q.price b.price then q else b) q∈q::r
 |[],q=>y0d
 |x::r,q=>by
  rw[y2u]
  have:=zPo (s:=s) r (if btr s x.price q.price then x else q)
  rcases y0m.1 this with e|h
  ·rw[e];split
   ·exact y0c _ y0d
   ·exact y0d
  ·exact y0c _ (y0c _ h)
theorem zGy {l:List Quote} {s:Int} (h:(zU l s).2=ap):(zU l s).1∈l:=by
 cases l with
 |nil=>cases h
 |cons q r=>exact zPo r q
def yIa (B:List (List zK)):Prop:=∀(k:Nat) (L:List zK),B[k]?=ar L→(∀o∈L,zKs o)∧(L.map (·.id)).Nodup∧L.length≤250
theorem MSt.Rep.ords {s:MSt} {p:Prd} {B:List (List zK)} (h:s.Rep p B):yIa B:=by
 intro k L hL
 obtain⟨b,hb⟩:=z8 (l:=s.books) (i:=k) (by rw[h.bl];exact(yZz.1 hL).1)
 exact(h.bk k b L hb hL).ords
theorem z4l:∀{l:List zK} {v:Lv},(∀o∈l,zKs o)→v∈grp l→1≤v.qty∧v.qty≤1000000*l.length
 |[],v,_,h=>by cases h
 |o::l,v,ho,h=>by
  have h0:=(ho o y0d).q
  have ih:∀v∈grp l,1≤v.qty∧v.qty≤1000000*l.length:=fun v hv=>z4l (fun x hx=>ho x (y0c _ hx)) hv
  rw[grp]at h
  rw[y0f]
  split at h
  ·rw[y1k]at h
   subst h;dsimp only;omega
  ·rename_i w ws e
   rw[e]at ih
   have hw:=ih w y0d
   split at h
   ·rcases y0m.1 h with rfl|h
    ·dsimp only;omega
    ·have:=ih v (y0c _ h);omega
   ·rcases y0m.1 h with rfl|h
    ·dsimp only;omega
    ·have:=ih v h;omega
theorem z0w {L:List zK} {s:Int} (h:∀o∈L,zKs o) (hl:L.length≤250) (hb:(bestL L s).2=ap):1≤(bestL L s).1.qty∧(bestL L s).1.qty≤250000000:=by
 rw[bestL]at hb ⊢
 cases hl2:uU L s with
 |nil=>rw[hl2]at hb;cases hb
 |cons v vs=>
  dsimp only
  have hm:v∈grp (L.filter fun o=>decide (o.side=s)):=by rw[← uU,hl2];exact y0d
  have:=z4l (fun o ho=>h o (y2c.1 ho).1) hm
  have:=y3o (fun o:zK=>decide (o.side=s)) L
  omega
theorem yCq {B:List (List zK)} {k:Nat} {L:List zK} (hL:B[k]? =ar L):(B.map qU).getD k top0=qU L:=zT (by rw[y0z,hL];rfl)
theorem zIr (L:List zK) {s:Int} (hs:s=1∨s=2):(qU L).has s=(bestL L s).2∧(qU L).qty s=(bestL L s).1.qty∧(qU L).price s=(bestL L s).1.price:=by
 obtain⟨e1,e2,e3,e4,e5,e6⟩:=zJa L
 rcases hs with rfl|rfl
 ·exact⟨e3,e2,e1⟩
 ·exact⟨e6,e5,e4⟩
theorem z3t {p:Prd} {B:List (List zK)} (h:BOk p B) (ho:yIa B) {inst:Int} (hi:0≤inst∧inst<B.length) {s:Int} (hs:s=1∨s=2) (hn:(yR p B inst s).2.2=ap):
 (1≤(yR p B inst s).1.qty∧(yR p B inst s).1.qty≤250000000)∧((yR p B inst s).2.1=ap→(yR p B inst s).1∈kE ⟨p,B.map qU,inst⟩ s∧QOk (B.map qU) (yR p B inst s).1)∧
 ((yR p B inst s).2.1=ao→(bestL (B.getD inst.toNat []) s).2=ap∧(yR p B inst s).1.price=(bestL (B.getD inst.toNat []) s).1.price∧(yR p B inst s).1.qty=(bestL (B.getD inst.toNat []) s).1.qty):=by
 obtain⟨k,rfl⟩:∃k:Nat,inst=k:=⟨inst.toNat,by omega⟩
 obtain⟨L,hL⟩:=z8 (l:=B) (i:=k) (by omega)
 have hLo:=ho k L hL
 rw[yR]at hn ⊢
 rw[y0s,zT hL]at hn ⊢
 split
 ·rename_i c
  simp only[y0o]at c
  exact⟨z0w hLo.1 hLo.2.2 c.1,⟨fun e=>(by cases e),fun _=>⟨c.1,rfl,rfl⟩⟩⟩
 ·rename_i c
  rw[yZx c]at hn
  dsimp only at hn ⊢
  have hm:=zGy hn
  have ha:(zU (xS ⟨p,B.map qU,k⟩ s) s).1∈kE ⟨p,B.map qU,k⟩ s:=(y2c.1 hm).1
  obtain⟨ok,_⟩:=z4d h.pc (by rw[y0a];exact h.bl) hs ha
  refine⟨?_,fun _=>⟨ha,ok⟩,fun e=>by rw[hn]at e;cases e⟩
  generalize (zU (xS ⟨p,B.map qU,k⟩ s) s).1=q at ok
  have a:=ok.a
  have b:=ok.b
  rw[y0a]at a b
  obtain⟨La,hLa⟩:=z8 (l:=B) (i:=q.a.inst.toNat) (by omega)
  obtain⟨Lb,hLb⟩:=z8 (l:=B) (i:=q.b.inst.toNat) (by omega)
  have e1:=ok.ha
  have e2:=ok.hb
  have e3:=ok.qty
  rw[yCq hLa]at e1 e3
  rw[yCq hLb]at e2 e3
  rw[(zIr La ok.sa).1]at e1
  rw[(zIr Lb ok.sb).1]at e2
  rw[(zIr La ok.sa).2.1,(zIr Lb ok.sb).2.1]at e3
  have:=z0w (ho _ _ hLa).1 (ho _ _ hLa).2.2 e1
  have:=z0w (ho _ _ hLb).1 (ho _ _ hLb).2.2 e2
  omega
theorem yEz {L:List zK} {id q:Int} {o:zK} (h:o∈(xU L id q).1):∃o'∈L,o.price=o'.price∧o.side=o'.side∧o.id=o'.id:=by
 rw[xU]at h
 split at h
 ·exact⟨o,h,rfl,rfl,rfl⟩
 split at h
 ·exact⟨o,h,rfl,rfl,rfl⟩
 obtain⟨o',ho',e⟩:=y5j.1 h
 refine⟨o',ho',?_⟩
 split at e
 ·split at e
  ·cases e
  ·cases e;exact⟨rfl,rfl,rfl⟩
 ·cases e;exact⟨rfl,rfl,rfl⟩
theorem BOk.take {p:Prd} {B:List (List zK)} (h:BOk p B) (id q:Int):BOk p (kH B id q).1:=by
 refine⟨h.pc,h.ps,by rw[tN];exact h.bl,fun k L hL o ho=> ?_⟩
 rw[kH]at hL
 split at hL
 ·exact h.pr k L hL o ho
 ·rename_i j hj
  dsimp only at hL
  rcases cU hL with⟨rfl,rfl⟩|⟨_,hL⟩
  ·obtain⟨o',ho',e,_⟩:=yEz ho
   obtain⟨L',hL',_⟩:=gJ hj
   rw[zT hL']at ho'
   rw[e];exact h.pr k L' hL' o' ho'
  ·exact h.pr k L hL o ho
theorem BOk.takes {p:Prd}:∀{fs:List cF} {B:List (List zK)},BOk p B→BOk p (kF B fs)
 |[],B,h=>h
 |f::fs,B,h=>BOk.takes (fs:=fs) (h.take f.id f.qty)
theorem zWt (inst s:Int):∀(os:List zK) (sh:List Int),(xR inst s os sh).length≤os.length
 |[],sh=>y1f 0
 |o::os,[]=>y1n _
 |o::os,k::sh=>by
  have:=zWt inst s os sh
  rw[xR]
  split
  ·simp only[y0f];omega
  ·simp only[y0f];omega
theorem nG {p:Prd} {B:List (List zK)} (ho:yIa B) (inst s q:Int):(qN p B inst s q).length≤250:=by
 refine y3m (zWt _ _ _ _) (y3m (y3o _ _) ?_)
 by_cases h:inst.toNat<B.length
 ·obtain⟨L,hL⟩:=z8 h
  rw[zT hL];exact(ho _ _ hL).2.2
 ·rw[y0h,y1e (by omega)];exact y1n _
theorem zKb {p:Prd} {B:List (List zK)} {inst:Int} {sd:Bool} {price q:Int} {t:wF} {B':List (List zK)} (hq:1≤q) (h:aB p B inst sd price q=ar (t,B')):1≤t.qty∧t.qty≤q:=by
 rw[aB]at h
 dsimp only at h
 split at h
 ·rename_i c
  simp only[y0o,y1z]at c
  split at h
  ·cases h;dsimp only;omega
  ·cases h;dsimp only;omega
 ·cases h
theorem zUx {p:Prd} {inst:Int} {sd:Bool} {price:Int}:∀(m n:Nat) (B:List (List zK)) (q:Int),q.toNat≤m→q.toNat≤n→zIn p inst sd price m B q=zIn p inst sd price n B q
 |0,0,B,q,_,_=>rfl
 |0,n+1,B,q,h,_=>by rw[zIn,zIn,yZy (by omega)]
 |m+1,0,B,q,_,h=>by rw[zIn,zIn,yZy (by omega)]
 |m+1,n+1,B,q,h1,h2=>by
  rw[zIn,zIn]
  split
  ·rfl
  ·rename_i hq
   cases hs:aB p B inst sd price q with
   |none=>rfl
   |some x=>
    obtain⟨t,B'⟩:=x
    have:=zKb (by omega) hs
    dsimp only
    rw[zUx m n B' (q-t.qty) (by omega) (by omega)]
theorem tP {p:Prd} {B:List (List zK)} {inst:Int} {sd:Bool} {price q:Int} (h:q≤0∨aB p B inst sd price q=au):wD p B inst sd price q=⟨[],q,B⟩:=by
 rw[wD]
 cases hn:q.toNat with
 |zero=>rfl
 |succ n=>
  rw[zIn]
  rcases h with h|h
  ·rw[yZy h]
  ·rw[yZx (by omega),h]
theorem zNy {p:Prd} {B:List (List zK)} {inst:Int} {sd:Bool} {price q:Int} {t:wF} {B':List (List zK)} (hq:1≤q) (h:aB p B inst sd price q=ar (t,B')):
 wD p B inst sd price q=⟨t::(wD p B' inst sd price (q-t.qty)).steps,(wD p B' inst sd price (q-t.qty)).left,(wD p B' inst sd price (q-t.qty)).B⟩:=by
 have ht:=zKb hq h
 rw[wD]
 cases hn:q.toNat with
 |zero=>omega
 |succ n=>
  rw[zIn,yZx (by omega),h]
  dsimp only
  rw[zUx n (q-t.qty).toNat B' (q-t.qty) (by omega) (y1f _)]
  rfl
open Go Cv Go.Proofs
theorem gP {s:Int} (h:s=1∨s=2):zD (decide (s=2))=s:=by
 rcases h with rfl|rfl<;>rfl
theorem yYa (i:RunI) (h:runC.cnd i):yUp i:=by
 obtain⟨hR,hB,⟨h0,h1⟩,hq1,hq2⟩:i.s.Rep i.p i.B∧BOk i.p i.B∧(0≤i.inst∧i.inst<i.B.length)∧1≤i.q∧i.q≤1000000:=h
 have hbl:=hR.bl
 have hcl:=xQ i.p
 have hbB:=hB.bl
 unfold yUp aT zZs dO tC hJ zJx zDw zNn z7 dI
 refine(fun hT=>zJ (fun c=>zJ (fun c2=>Cv.cnd.mk (fun _=>zJ (fun _=>Cv.cnd.mk (fun e=>absurd hq2 (by simpa using e)) (fun _=>hT)) (fun e=>absurd hq1 e)) (fun e1=>Cv.cnd.mk (fun _=>zJ (fun _=>Cv.cnd.mk (fun e=>absurd hq2 (by simpa using e)) (fun _=>hT)) (fun e=>absurd hq1 e)) (fun e2=>by
  rcases zDl i.sd with e|e
  ·rw[e]at e1;cases e1
  ·rw[e]at e2;cases e2))) (fun c2=>absurd (by omega) c2)) (fun c=>absurd h0 c)) ?_
 refine⟨⟨i.s,i.B,[],i.q⟩,rfl,rfl,rfl,rfl,rfl,rfl,rfl,rfl,rfl,rfl,rfl,rfl,rfl,rfl,rfl,fun j=>j.s.Rep i.p j.B∧BOk i.p j.B∧j.B.length=i.B.length∧(0≤j.q∧j.q≤i.q)∧(j.steps.length:Int)≤i.q-j.q∧i.r=⟨j.steps++(wD i.p j.B i.inst i.sd i.price j.q).steps,(wD i.p j.B i.inst i.sd i.price j.q).left,(wD i.p j.B i.inst i.sd i.price j.q).B⟩,fun j=>j.q.toNat,⟨hR,hB,rfl,⟨by dsimp only;omega,y3p _⟩,by dsimp only;simp,rfl⟩,?_⟩
 rintro⟨s,B,st,q⟩ ⟨r1,r2,r3,⟨r4,r4'⟩,r5,r6⟩
 dsimp only at r1 r2 r3 r4 r4' r5 r6 ⊢
 have hno (hn:q≤0∨aB i.p B i.inst i.sd i.price q=au):∃(o:MSt),i.r.left=q∧ac MSt (5:Nat) xL o=ac MSt (5:Nat) xL s∧aj jZ i.r.steps=aj jZ st∧o.Rep i.p i.r.B:=by
  rw[tP hn,y0v]at r6
  rw[r6];exact⟨s,rfl,rfl,rfl,r1⟩
 refine zJ (fun c=> ?_) (fun c=>hno (.inl (by omega)))
 have c:0<q:=c
 refine⟨i.sd,rfl,trivial,fun _ _=>⟨⟨s,i.p,B,i.inst,!i.sd⟩,rfl,rfl,rfl,⟨r1,r2,h0,by dsimp only;omega⟩,fun _ _=> ?_⟩⟩
 dsimp only
 have hni:=z3t r2 r1.ords (inst:=i.inst) ⟨h0,by omega⟩ (zDl (!i.sd))
 have hsb:aB i.p B i.inst i.sd i.price q=(if((yR i.p B i.inst (zD (!i.sd))).2.2 && (cQ i.sd i.price (yR i.p B i.inst (zD (!i.sd))).1.price && decide (1≤(yR i.p B i.inst (zD (!i.sd))).1.qty)))=ap then
  if(yR i.p B i.inst (zD (!i.sd))).2.1=ap then
   ar (⟨(yR i.p B i.inst (zD (!i.sd))).1.price,min q (yR i.p B i.inst (zD (!i.sd))).1.qty,ap,qN i.p B (yR i.p B i.inst (zD (!i.sd))).1.a.inst (yR i.p B i.inst (zD (!i.sd))).1.a.side (min q (yR i.p B i.inst (zD (!i.sd))).1.qty)++qN i.p (kF B (qN i.p B (yR i.p B i.inst (zD (!i.sd))).1.a.inst (yR i.p B i.inst (zD (!i.sd))).1.a.side (min q (yR i.p B i.inst (zD (!i.sd))).1.qty))) (yR i.p B i.inst (zD (!i.sd))).1.b.inst (yR i.p B i.inst (zD (!i.sd))).1.b.side (min q (yR i.p B i.inst (zD (!i.sd))).1.qty)⟩,kF (kF B (qN i.p B (yR i.p B i.inst (zD (!i.sd))).1.a.inst (yR i.p B i.inst (zD (!i.sd))).1.a.side (min q (yR i.p B i.inst (zD (!i.sd))).1.qty))) (qN i.p (kF B (qN i.p B (yR i.p B i.inst (zD (!i.sd))).1.a.inst (yR i.p B i.inst (zD (!i.sd))).1.a.side (min q (yR i.p B i.inst (zD (!i.sd))).1.qty))) (yR i.p B i.inst (zD (!i.sd))).1.b.inst (yR i.p B i.inst (zD (!i.sd))).1.b.side (min q (yR i.p B i.inst (zD (!i.sd))).1.qty)))
  else ar (⟨(yR i.p B i.inst (zD (!i.sd))).1.price,min q (yR i.p B i.inst (zD (!i.sd))).1.qty,ao,qN i.p B i.inst (zD (!i.sd)) (min q (yR i.p B i.inst (zD (!i.sd))).1.qty)⟩,kF B (qN i.p B i.inst (zD (!i.sd)) (min q (yR i.p B i.inst (zD (!i.sd))).1.qty)))else au):=rfl
 generalize yR i.p B i.inst (zD (!i.sd))=nb at hni hsb ⊢
 refine Cv.cnd.mk (fun n1=> ?_) (fun n1=>⟨⟨i.sd,i.price,nb.1.price⟩,rfl,rfl,rfl,trivial,fun _ _=>Cv.cnd.mk (fun n2=> ?_) (fun n2=> ?_)⟩)
 ·have n1:nb.2.2=ao:=by simpa using n1
  rw[n1,yZx (by simp)]at hsb
  exact hno (.inr hsb)
 ·have n2:cQ i.sd i.price nb.1.price=ao:=by simpa using n2
  rw[n2,yZx (by simp)]at hsb
  exact hno (.inr hsb)
 have n1:nb.2.2=ap:=by simpa using n1
 have n2:cQ i.sd i.price nb.1.price=ap:=by simpa using n2
 obtain⟨⟨b1,b2⟩,hi,hr⟩:=hni n1
 rw[n1,n2,y0n b1,yZy (by rfl)]at hsb
 have hk:yO (min q nb.1.qty):=by constructor<;>omega
 have hsl:(st.length+1)*48≤140737488355328:=by omega
 have beh:∀(t:wF) (B':List (List zK)) (s':MSt),aB i.p B i.inst i.sd i.price q=ar (t,B')→s'.Rep i.p B'→BOk i.p B'→B'.length=B.length→
  (s'.Rep i.p B'∧BOk i.p B'∧B'.length=i.B.length∧(0≤q-t.qty∧q-t.qty≤i.q)∧((st++[t]).length:Int)≤i.q-(q-t.qty)∧i.r=⟨(st++[t])++(wD i.p B' i.inst i.sd i.price (q-t.qty)).steps,(wD i.p B' i.inst i.sd i.price (q-t.qty)).left,(wD i.p B' i.inst i.sd i.price (q-t.qty)).B⟩)∧(q-t.qty).toNat<q.toNat:=by
  intro t B' s' h1 h2 h3 h4
  have ht:=zKb (by omega) h1
  refine⟨⟨h2,h3,by omega,⟨by omega,by omega⟩,by rw[y0e,y2m];omega,?_⟩,by omega⟩
  rw[zNy (by omega) h1]at r6
  rw[r6,y0i];rfl
 refine Cv.cnd.mk (fun n3=> ?_) (fun n3=> ?_)
 ·obtain⟨_,ok⟩:=hi n3
  rw[n3,yZy rfl]at hsb
  have oka:=ok.a
  have okb:=ok.b
  rw[y0a]at oka okb
  have ea:=gP ok.sa
  have eb:=gP ok.sb
  refine⟨⟨s,i.p,B,nb.1.a.inst,decide (nb.1.a.side=2),min q nb.1.qty⟩,rfl,ea,rfl,rfl,⟨r1,r2,oka.1,oka.2,hk⟩,fun s1 hs1=> ?_⟩
  dsimp only at hs1 ⊢
  rw[ea]at hs1 ⊢
  have l1:=nG (p:=i.p) r1.ords nb.1.a.inst nb.1.a.side (min q nb.1.qty)
  have hB1:=r2.takes (fs:=qN i.p B nb.1.a.inst nb.1.a.side (min q nb.1.qty))
  have l2:=nG (p:=i.p) hs1.ords nb.1.b.inst nb.1.b.side (min q nb.1.qty)
  refine⟨trivial,by rw[y0a];omega,⟨s1,i.p,kF B (qN i.p B nb.1.a.inst nb.1.a.side (min q nb.1.qty)),nb.1.b.inst,decide (nb.1.b.side=2),min q nb.1.qty⟩,rfl,eb,rfl,rfl,⟨hs1,hB1,okb.1,by dsimp only;rw[uE];exact okb.2,hk⟩,fun s2 hs2=> ?_⟩
  dsimp only at hs2 ⊢
  rw[eb]at hs2 ⊢
  obtain⟨g1,g2⟩:=beh _ _ s2 hsb hs2 hB1.takes (by rw[uE,uE])
  refine⟨trivial,by rw[y0a,y0a];omega,by rw[y0a];exact hsl,⟨s2,_,st++[_],_⟩,?_,rfl,?_,g1,g2,k0q⟩
  ·dsimp only;rw[w64 (by omega)]
  ·dsimp only
   rw[y0j,n3]
   simp[jZ]
 ·rw[n3,yZx (by decide)]at hsb
  refine⟨i.sd,rfl,trivial,fun _ _=>⟨rfl,⟨s,i.p,B,i.inst,!i.sd,min q nb.1.qty⟩,rfl,rfl,rfl,rfl,⟨r1,r2,h0,by dsimp only;omega,hk⟩,fun s1 hs1=> ?_⟩⟩
  dsimp only at hs1 ⊢
  obtain⟨g1,g2⟩:=beh _ _ s1 hsb hs1 r2.takes (by rw[uE])
  refine⟨by rw[y0a];exact hsl,⟨s1,_,st++[_],_⟩,?_,rfl,?_,g1,g2,k0q⟩
  ·dsimp only;rw[w64 (by omega)]
  ·dsimp only
   rw[y0j,n3]
   simp[jZ]
theorem z1g:runC.ok Tryz.prog 205:=okw mixed (gokc yHp (gokc zQt (gokc zYh (gokc yEw gok0)))) 2 (fun _=>[]) (fun _=>yZb) [0] Tryz.func205 yYa
open Go Cv Go.Proofs
open Go Cv Go.Proofs
open Go Cv Go.Proofs
theorem yEj {L:List zK} {s id p q:Int} {o:zK} (h:o∈zSa L s id p q):o.price=p∨∃o'∈L,o.price=o'.price:=by
 have key:∀X:List zK,(o∈X.takeWhile (before s p)++⟨id,s,p,q,gG L s p⟩::X.dropWhile (before s p))→o.price=p∨o∈X:=by
  intro X hX
  rcases y0u.1 hX with hX|hX
  ·exact .inr (List.takeWhile_sublist _|>.subset hX)
  ·rcases y0m.1 hX with rfl|hX
   ·exact .inl rfl
   ·exact .inr (List.dropWhile_sublist _|>.subset hX)
 rw[zSa]at h
 split at h
 ·rcases key _ h with h|h
  ·exact .inl h
  ·obtain⟨o',ho',_,_,e,_⟩:=z2z h
   exact .inr ⟨o',ho',e⟩
 ·rcases key _ h with h|h
  ·exact .inl h
  ·exact .inr ⟨o,h,rfl⟩
theorem BOk.add {p:Prd} {B:List (List zK)} (h:BOk p B) (inst id s price q:Int):BOk p (z0d p B inst id s price q).1:=by
 rw[z0d]
 split
 ·exact h
 split
 ·exact h
 split
 ·exact h
 split
 ·exact h
 rename_i c1 _ _ c4
 have c4:p.price inst price=0:=by simpa using c4
 refine⟨h.pc,h.ps,by simpa using h.bl,fun k L hL o ho=> ?_⟩
 dsimp only at hL
 rcases cU hL with⟨rfl,rfl⟩|⟨_,hL⟩
 ·obtain⟨L',hL'⟩:=z8 (l:=B) (i:=inst.toNat) (by omega)
  rw[zT hL',zIj]at ho
  have e:((inst.toNat:Nat):Int)=inst:=by omega
  repeat' split at ho
  ·exact h.pr _ L' hL' o ho
  ·exact h.pr _ L' hL' o ho
  ·exact h.pr _ L' hL' o ho
  ·rcases yEj ho with h1|⟨o',ho',h1⟩
   ·rw[h1,e];exact c4
   ·rw[h1];exact h.pr _ L' hL' o' ho'
 ·exact h.pr k L hL o ho
theorem BOk.new {p:Prd} (hc:p.check=0) (hp:p.small):BOk p (ak p.count []):=by
 refine⟨hc,hp,by simp,fun k L hL o ho=> ?_⟩
 rw[y5v (y0g hL)]at ho
 cases ho
theorem MSt.Rep.fit {s:MSt} {p:Prd} {B:List (List zK)} (h:s.Rep p B) (hb:BOk p B):s.fit:=by
 have:=xQ p
 refine⟨by rw[h.ep];exact hb.ps,by rw[h.bl,hb.bl];omega,fun b hm=> ?_⟩
 obtain⟨k,hk⟩:=y2q.1 hm
 have hlt:=(yZz.1 hk).1
 rw[h.bl]at hlt
 obtain⟨L,hL⟩:=z8 hlt
 exact(h.bk k b L hk hL).fit
open Go Cv Go.Proofs
def zOp (r:Nat):Bool:=decide (32≤r) && decide (r≠127) && decide (r≠65533)
def cM (s:List UInt8):Bool:=(kQ s).all zOp && decide (1≤(kQ s).length) && decide ((kQ s).length≤12)
def labC:Con:=con1 (List UInt8) (fun s=>[sV s]) (fun _=>[]) (fun s=>s.length≤140737488355328) (fun s=>yF (cM s)) (fun _=>[])
def yZg (s:List UInt8):List SAnn:=[{ι:=Nat×Nat,slots:=fun x=>[(3,zA x.2),(7,.nm 0 0)],rows:=fun x=>[.iter (sb s) x.1]}]
def dN (n:Int):Bool:=decide (-2000000≤n) && decide (n≤2000000)
def vC (n:Int):Bool:=decide (1≤n) && decide (n≤1000000)
def Cmd.orderE (c:Cmd):Int:=
 if c.side≠1∧c.side≠2 then 21 else if c.time<1∨3<c.time then 27 else if vC c.qty=ao then 24 else if c.least<0∨c.qty<c.least then 28
 else if c.label≠[]∧cM c.label=ao then 29 else if dN c.price=ao then 23 else if c.inst<0∨255<c.inst then 20 else 0
def Cmd.right (c:Cmd):Int:=
 if c.kind<1∨4<c.kind then 31 else if c.id<1∨1099511627776<c.id then 1 else if c.kind=1 then c.orderE
 else if c.kind≠2∧vC c.qty=ao then 24 else if c.kind=4∧dN c.price=ao then 23 else 0
def cmdOrdC:Con:=con1 Cmd (fun c=>[zOo c]) (fun _=>[]) (fun c=>c.label.length≤140737488355328) (fun c=>zA c.orderE) (fun _=>[])
def cmdRtC:Con:=con1 Cmd (fun c=>[zOo c]) (fun _=>[]) (fun c=>c.label.length≤140737488355328) (fun c=>zA c.right) (fun _=>[])
open Go Cv Go.Proofs
def yVr (s:List UInt8):Prop:=
 ∃(a:Nat×Nat),(↑a.snd:Int)=0∧sb s=sb s∧a.fst=0∧∃(b:Nat×Nat→Prop),∃(c:Nat×Nat→Nat),b a∧∀(d:Nat×Nat),b d→cnd (d.fst.blt (sb s).size) (cnd (decide ((x3 s d)<32)) (∃(e:Unit),cM s=ao∧True) (cnd ((x3 s d)==127) (∃(e:Unit),cM s=ao∧True) (cnd ((x3 s d)==65533) (∃(e:Unit),cM s=ao∧True) (fX d s b c)))) (cnd (decide ((↑d.snd:Int)≥1)) (∃(e:Unit),cM s=decide ((↑d.snd:Int)≤12)∧True) (∃(e:Unit),cM s=ao∧True))
def zKe (a:Cmd):Prop:=∃(b:List UInt8),sb b=sb a.label∧b.length≤140737488355328∧∀(c:Unit),True→cnd (!cM b) (∃(d:Unit),a.orderE=29∧True) (cnd (decide (a.price≥(-2000000))) (cnd (!decide (a.price≤2000000)) (∃(d:Unit),a.orderE=23∧True) (cnd (decide (a.inst<0)) (∃(d:Unit),a.orderE=20∧True) (cnd (decide (a.inst>255)) (∃(d:Unit),a.orderE=20∧True) (∃(d:Unit),a.orderE=0∧True)))) (∃(d:Unit),a.orderE=23∧True))
def yMr (c:Cmd):Prop:=
 cnd (c.side !=1) (cnd (c.side !=2) (∃(a:Unit),c.orderE=21∧True) (cnd (decide (c.time<1)) (∃(a:Unit),c.orderE=27∧True) (cnd (decide (c.time>3)) (∃(a:Unit),c.orderE=27∧True) (cnd (decide (c.qty≥1)) (cnd (!decide (c.qty≤1000000)) (∃(a:Unit),c.orderE=24∧True) (cnd (decide (c.least<0)) (∃(a:Unit),c.orderE=28∧True) (cnd (decide (c.least>c.qty)) (∃(a:Unit),c.orderE=28∧True) (cnd (!(sb c.label).toList==(ByteArray.mk #[]).toList) (zKe c) (cnd (decide (c.price≥(-2000000))) (cnd (!decide (c.price≤2000000)) (∃(a:Unit),c.orderE=23∧True) (cnd (decide (c.inst<0)) (∃(a:Unit),c.orderE=20∧True) (cnd (decide (c.inst>255)) (∃(a:Unit),c.orderE=20∧True) (∃(a:Unit),c.orderE=0∧True)))) (∃(a:Unit),c.orderE=23∧True)))))) (∃(a:Unit),c.orderE=24∧True))))) (cnd (decide (c.time<1)) (∃(a:Unit),c.orderE=27∧True) (cnd (decide (c.time>3)) (∃(a:Unit),c.orderE=27∧True) (cnd (decide (c.qty≥1)) (cnd (!decide (c.qty≤1000000)) (∃(a:Unit),c.orderE=24∧True) (cnd (decide (c.least<0)) (∃(a:Unit),c.orderE=28∧True) (cnd (decide (c.least>c.qty)) (∃(a:Unit),c.orderE=28∧True) (cnd (!(sb c.label).toList==(ByteArray.mk #[]).toList) (zKe c) (cnd (decide (c.price≥(-2000000))) (cnd (!decide (c.price≤2000000)) (∃(a:Unit),c.orderE=23∧True) (cnd (decide (c.inst<0)) (∃(a:Unit),c.orderE=20∧True) (cnd (decide (c.inst>255)) (∃(a:Unit),c.orderE=20∧True) (∃(a:Unit),c.orderE=0∧True)))) (∃(a:Unit),c.orderE=23∧True)))))) (∃(a:Unit),c.orderE=24∧True))))
def yAp (c:Cmd):Prop:=
 cnd (decide (c.kind<1)) (∃(a:Unit),c.right=31∧True) (cnd (decide (c.kind>4)) (∃(a:Unit),c.right=31∧True) (cnd (decide (c.id<1)) (∃(a:Unit),c.right=1∧True) (cnd (decide (c.id>1099511627776)) (∃(a:Unit),c.right=1∧True) (cnd (c.kind==1) (∃(a:Cmd),a.kind=c.kind∧a.id=c.id∧a.inst=c.inst∧a.side=c.side∧a.price=c.price∧a.qty=c.qty∧a.least=c.least∧a.time=c.time∧sb a.label=sb c.label∧a.label.length≤140737488355328∧∀(b:Unit),True→∃(d:Unit),c.right=a.orderE∧True) (cnd (c.kind !=2) (cnd (decide (c.qty≥1)) (cnd (!decide (c.qty≤1000000)) (∃(a:Unit),c.right=24∧True) (cnd (c.kind==4) (cnd (decide (c.price≥(-2000000))) (cnd (!decide (c.price≤2000000)) (∃(a:Unit),c.right=23∧True) (∃(a:Unit),c.right=0∧True)) (∃(a:Unit),c.right=23∧True)) (∃(a:Unit),c.right=0∧True))) (∃(a:Unit),c.right=24∧True)) (cnd (c.kind==4) (cnd (decide (c.price≥(-2000000))) (cnd (!decide (c.price≤2000000)) (∃(a:Unit),c.right=23∧True) (∃(a:Unit),c.right=0∧True)) (∃(a:Unit),c.right=23∧True)) (∃(a:Unit),c.right=0∧True)))))))
open Go Cv Go.Proofs
theorem yZi (s:List UInt8) (h:labC.cnd s):yVr s:=by
 have h:s.length≤140737488355328:=h
 have hr:=zFx s
 unfold yVr x3 fX
 refine⟨(0,0),rfl,rfl,rfl,fun x=>x.1≤s.length∧x.2+(gE s x.1).length=(kQ s).length∧(kQ s).all zOp=(gE s x.1).all fun x=>zOp x.2,fun x=>s.length-x.1,⟨by omega,by rw[kQ,y0a];simp,by rw[kQ,List.all_map];rfl⟩,?_⟩
 rintro⟨p,n⟩ ⟨h1,h2,h3⟩
 dsimp only at h1 h2 h3 ⊢
 refine Cv.cnd.mk (fun hp=> ?_) (fun hp=> ?_)
 ·have hp:p<s.length:=by simpa[y3d]using hp
  have hw:=aM s hp
  rw[wH hp,y0f]at h2
  rw[wH hp,List.all_cons]at h3
  generalize hc:(Utf8.decode (sb s) p).1=c at h2 h3 ⊢
  generalize hww:(Utf8.decode (sb s) p).2=w at h2 h3 hw ⊢
  dsimp only at h3
  have bad:zOp c=ao→∃(o:Unit),cM s=ao∧True:=fun e=>⟨(),by rw[cM,h3,e];rfl,trivial⟩
  refine zJ (fun c1=>bad ?_) (fun c1=>Cv.cnd.mk (fun c2=>bad ?_) (fun c2=>Cv.cnd.mk (fun c3=>bad ?_) (fun c3=> ?_)))
  ·simp[zOp];omega
  ·have c2:(c:Int)=127:=by simpa using c2
   simp[zOp];omega
  ·have c3:(c:Int)=65533:=by simpa using c3
   simp[zOp];omega
  ·have c2:¬(c:Int)=127:=by simpa using c2
   have c3:¬(c:Int)=65533:=by simpa using c3
   have e:zOp c=ap:=by simp[zOp];omega
   refine⟨(p+w,n+1),?_,rfl,rfl,⟨hw.2,by(first|omega|(dsimp only;omega)),by rw[h3,e];rfl⟩,by(first|omega|(dsimp only;omega)),trivial⟩
   rw[w64 (by omega)];rfl
 ·have hp:s.length≤p:=by have:=z5j hp;simpa using this
  rw[dD hp]at h2 h3
  have h2:n=(kQ s).length:=h2
  have h3:(kQ s).all zOp=ap:=h3
  refine zJ (fun c=>⟨(),?_,trivial⟩) (fun c=>⟨(),?_,trivial⟩)
  ·rw[cM,h3,← h2,y0n (show 1≤n by omega)]
   simp only[y2y]
   congr 1
   simp only[eq_iff_iff];omega
  ·rw[cM,← h2,y0k (show ¬1≤n by omega)];simp
theorem yPs:labC.ok Tryz.prog 203:=okw mixed gok0 0 (fun _=>[]) (fun s=>yZg s) [] Tryz.func203 yZi
theorem yZh (a b:Int):(a==b)=decide (a=b):=by
 by_cases h:a=b
 ·subst h;simp
 ·simp[h]
theorem yUb (a b:Int):(a !=b)=decide (a≠b):=by
 by_cases h:a=b
 ·subst h;simp
 ·simp[h]
theorem eqB (a b:List UInt8):((sb a).toList==(sb b).toList)=decide (a=b):=by
 rw[nJ,nJ]
 by_cases h:a=b
 ·subst h;simp
 ·simp[h]
theorem yQz:ByteArray.mk #[]=sb []:=rfl
theorem yVl (c:Cmd) (h:cmdOrdC.cnd c):yMr c:=by
 have h:c.label.length≤140737488355328:=h
 unfold yMr zKe
 simp only[yQz,eqB,yUb]
 have tail:¬(c.side≠1∧c.side≠2)→cnd (decide (c.time<1)) (∃(o:Unit),c.orderE=27∧True) (cnd (decide (c.time>3)) (∃(o:Unit),c.orderE=27∧True) (cnd (decide (c.qty≥1)) (cnd (!decide (c.qty≤1000000)) (∃(o:Unit),c.orderE=24∧True) (cnd (decide (c.least<0)) (∃(o:Unit),c.orderE=28∧True) (cnd (decide (c.least>c.qty)) (∃(o:Unit),c.orderE=28∧True) (cnd (!decide (c.label=[])) (∃(i:List UInt8),sb i=sb c.label∧i.length≤140737488355328∧∀(o:Unit),True→cnd (!cM i) (∃(o:Unit),c.orderE=29∧True) (cnd (decide (c.price≥-2000000)) (cnd (!decide (c.price≤2000000)) (∃(o:Unit),c.orderE=23∧True) (cnd (decide (c.inst<0)) (∃(o:Unit),c.orderE=20∧True) (cnd (decide (c.inst>255)) (∃(o:Unit),c.orderE=20∧True) (∃(o:Unit),c.orderE=0∧True)))) (∃(o:Unit),c.orderE=23∧True))) (cnd (decide (c.price≥-2000000)) (cnd (!decide (c.price≤2000000)) (∃(o:Unit),c.orderE=23∧True) (cnd (decide (c.inst<0)) (∃(o:Unit),c.orderE=20∧True) (cnd (decide (c.inst>255)) (∃(o:Unit),c.orderE=20∧True) (∃(o:Unit),c.orderE=0∧True)))) (∃(o:Unit),c.orderE=23∧True)))))) (∃(o:Unit),c.orderE=24∧True))):=by
  intro hs
  have e1:c.orderE=if c.time<1∨3<c.time then 27 else if vC c.qty=ao then 24 else if c.least<0∨c.qty<c.least then 28
   else if c.label≠[]∧cM c.label=ao then 29 else if dN c.price=ao then 23 else if c.inst<0∨255<c.inst then 20 else 0:=by rw[Cmd.orderE,yZx hs]
  refine zJ (fun d1=>⟨(),by rw[e1,yZy (.inl d1)],trivial⟩) fun d1=>zJ (fun d2=>⟨(),by rw[e1,yZy (.inr d2)],trivial⟩) fun d2=> ?_
  rw[yZx (by omega)]at e1
  have q (hq:vC c.qty=ao):∃(o:Unit),c.orderE=24∧True:=⟨(),by rw[e1,yZy hq],trivial⟩
  refine zJ (fun d3=>Cv.cnd.mk (fun d4=>q ?_) fun d4=> ?_) fun d3=>q ?_
  ·have d4:¬c.qty≤1000000:=by simpa using d4
   simp[vC,d4]
  ·have d4:c.qty≤1000000:=by simpa using d4
   have hq:¬vC c.qty=ao:=by simp[vC,d4];omega
   rw[yZx hq]at e1
   refine zJ (fun d5=>⟨(),by rw[e1,yZy (.inl d5)],trivial⟩) fun d5=>zJ (fun d6=>⟨(),by rw[e1,yZy (.inr d6)],trivial⟩) fun d6=> ?_
   rw[yZx (by omega)]at e1
   have last:¬(c.label≠[]∧cM c.label=ao)→cnd (decide (c.price≥-2000000)) (cnd (!decide (c.price≤2000000)) (∃(o:Unit),c.orderE=23∧True) (cnd (decide (c.inst<0)) (∃(o:Unit),c.orderE=20∧True) (cnd (decide (c.inst>255)) (∃(o:Unit),c.orderE=20∧True) (∃(o:Unit),c.orderE=0∧True)))) (∃(o:Unit),c.orderE=23∧True):=by
    intro hl
    rw[yZx hl]at e1
    have pr (hq:dN c.price=ao):∃(o:Unit),c.orderE=23∧True:=⟨(),by rw[e1,yZy hq],trivial⟩
    refine zJ (fun g1=>Cv.cnd.mk (fun g2=>pr ?_) fun g2=> ?_) fun g1=>pr ?_
    ·have g2:¬c.price≤2000000:=by simpa using g2
     simp[dN,g2]
    ·have g2:c.price≤2000000:=by simpa using g2
     have hp:¬dN c.price=ao:=by simp[dN,g2];omega
     rw[yZx hp]at e1
     refine zJ (fun g3=>⟨(),by rw[e1,yZy (.inl g3)],trivial⟩) fun g3=>zJ (fun g4=>⟨(),by rw[e1,yZy (.inr g4)],trivial⟩) fun g4=>⟨(),by rw[e1,yZx (by omega)],trivial⟩
    ·simp[dN];omega
   refine Cv.cnd.mk (fun d7=>⟨c.label,rfl,h,fun _ _=>Cv.cnd.mk (fun d8=> ?_) fun d8=>last ?_⟩) fun d7=>last ?_
   ·have d7:¬c.label=[]:=by simpa using d7
    have d8:cM c.label=ao:=by simpa using d8
    exact⟨(),by rw[e1,yZy ⟨d7,d8⟩],trivial⟩
   ·have d8:cM c.label=ap:=by simpa using d8
    simp[d8]
   ·have d7:c.label=[]:=by simpa using d7
    simp[d7]
  ·simp[vC];omega
 refine zJ (fun c1=>zJ (fun c2=>⟨(),by rw[Cmd.orderE,yZy ⟨c1,c2⟩],trivial⟩) fun c2=>tail ?_) fun c1=>tail ?_
 ·omega
 ·omega
theorem yJx:cmdOrdC.ok Tryz.prog 163:=okw mixed (gokc yPs gok0) 1 (fun _=>[]) (fun _=>[]) [] Tryz.func163 yVl
theorem yPd (c:Cmd) (h:cmdRtC.cnd c):yAp c:=by
 have h:c.label.length≤140737488355328:=h
 unfold yAp
 simp only[yZh,yUb]
 refine zJ (fun c1=>⟨(),by rw[Cmd.right,yZy (.inl c1)],trivial⟩) fun c1=>zJ (fun c2=>⟨(),by rw[Cmd.right,yZy (.inr c2)],trivial⟩) fun c2=> ?_
 refine zJ (fun c3=>⟨(),by rw[Cmd.right,yZx (by omega),yZy (.inl c3)],trivial⟩) fun c3=>zJ (fun c4=>⟨(),by rw[Cmd.right,yZx (by omega),yZy (.inr c4)],trivial⟩) fun c4=> ?_
 have e0:c.right=if c.kind=1 then c.orderE else if c.kind≠2∧vC c.qty=ao then 24 else if c.kind=4∧dN c.price=ao then 23 else 0:=by rw[Cmd.right,yZx (by omega),yZx (by omega)]
 refine zJ (fun c5=>⟨c,?_⟩) fun c5=> ?_
 ·rw[yZy c5]at e0
  exact kp
 rw[yZx c5]at e0
 have last (hn:¬(c.kind≠2∧vC c.qty=ao)):cnd (decide (c.kind=4)) (cnd (decide (c.price≥-2000000)) (cnd (!decide (c.price≤2000000)) (∃(o:Unit),c.right=23∧True) (∃(o:Unit),c.right=0∧True)) (∃(o:Unit),c.right=23∧True)) (∃(o:Unit),c.right=0∧True):=by
  rw[yZx hn]at e0
  refine zJ (fun d1=>zJ (fun d2=>Cv.cnd.mk (fun d3=> ?_) fun d3=> ?_) fun d2=> ?_) fun d1=> ?_
  ·have d3:¬c.price≤2000000:=by simpa using d3
   exact⟨(),by rw[e0,yZy ⟨d1,by simp[dN,d3]⟩],trivial⟩
  ·have d3:c.price≤2000000:=by simpa using d3
   exact⟨(),by rw[e0,yZx (by simp[dN,d3];omega)],trivial⟩
  ·exact⟨(),by rw[e0,yZy ⟨d1,by simp[dN];omega⟩],trivial⟩
  ·exact⟨(),by rw[e0,yZx (by simp[d1])],trivial⟩
 refine zJ (fun d1=>zJ (fun d2=>Cv.cnd.mk (fun d3=> ?_) fun d3=>last ?_) fun d2=> ?_) fun d1=>last ?_
 ·have d3:¬c.qty≤1000000:=by simpa using d3
  exact⟨(),by rw[e0,yZy ⟨d1,by simp[vC,d3]⟩],trivial⟩
 ·have d3:c.qty≤1000000:=by simpa using d3
  simp[vC,d3];omega
 ·exact⟨(),by rw[e0,yZy ⟨d1,by simp[vC];omega⟩],trivial⟩
 ·omega
theorem yHf:cmdRtC.ok Tryz.prog 111:=okw mixed (gokc yJx gok0) 1 (fun _=>[]) (fun _=>[]) [] Tryz.func111 yPd
open Go Cv Go.Proofs
structure SoI where
 s:MSt
 p:Prd
 B:List (List zK)
 inst:Int
 sd:Bool
@[reducible] def SoI.ok (i:SoI):Prop:=i.s.Rep i.p i.B∧i.B.length≤1000
def atB (B:List (List zK)) (inst:Int):List zK:=if inst<0 then[]else B.getD inst.toNat []
def sladC:Con:=con1 SoI (fun i=>[.nm 0 0,zA i.inst,zA (zD i.sd)]) (fun i=>[zF i.s]) (fun i=>i.ok) (fun _=> .own 1) (fun i=>[zF i.s,.own 41 3 ((uU (atB i.B i.inst) (zD i.sd)).map lvE)])
open Go Cv Go.Proofs
def bJ (a:SoI):=(uU (atB a.B a.inst) (zD a.sd))
def zMf (a:SoI):Prop:=∃(b:Unit),sb a.s.p.code=sb a.s.p.code∧a.s.p.tick=a.s.p.tick∧a.s.p.low=a.s.p.low∧a.s.p.high=a.s.p.high∧a.s.p.wide=a.s.p.wide∧a.s.p.rule=a.s.p.rule∧a.s.p.top=a.s.p.top∧a.s.p.least=a.s.p.least∧a.s.p.part=a.s.p.part∧ab 241 Book 6 zS a.s.books au=ab 241 Book 6 zS a.s.books au∧yW a.s.wh=yW a.s.wh∧aa 1 (iE a.s.p.months)=aa 1 (iE a.s.p.months)∧aa 1 (iE a.s.p.settle)=aa 1 (iE a.s.p.settle)∧aj lvE (bJ a)=[]∧True
def yMd (i:SoI):Prop:=
 cnd (decide (i.inst≥0)) (cnd (!decide (i.inst<(↑i.s.books.length:Int))) (zMf i) ((0≤i.inst∧i.inst<(↑i.s.books.length:Int))∧i.inst.toNat<i.s.books.length∧∃(a:Book),i.s.books[i.inst.toNat]?=ar a∧∃(b:BkT),zD b.s=zD i.sd∧z6 b.b=z6 a∧b.b.Rep b.L∧∀(c:Unit),True→∃(d:Book),z6 b.b=z6 d∧i.inst.toNat=i.inst.toNat∧i.inst.toNat<i.s.books.length∧∃(e:Unit),sb i.s.p.code=sb i.s.p.code∧i.s.p.tick=i.s.p.tick∧i.s.p.low=i.s.p.low∧i.s.p.high=i.s.p.high∧i.s.p.wide=i.s.p.wide∧i.s.p.rule=i.s.p.rule∧i.s.p.top=i.s.p.top∧i.s.p.least=i.s.p.least∧i.s.p.part=i.s.p.part∧ab 241 Book 6 zS i.s.books au=ab 241 Book 6 zS (i.s.books.set i.inst.toNat d) au∧yW i.s.wh=yW i.s.wh∧aa 1 (iE i.s.p.months)=aa 1 (iE i.s.p.months)∧aa 1 (iE i.s.p.settle)=aa 1 (iE i.s.p.settle)∧aj lvE (bJ i)=aj lvE (uU b.L (zD b.s))∧True)) (zMf i)
open Go Cv Go.Proofs
theorem yKm {B:List (List zK)} {inst:Int} {L:List zK} (h0:0≤inst) (hL:B[inst.toNat]? =ar L):atB B inst=L:=by
 rw[atB,yZx (by omega),zT hL]
theorem yKk {B:List (List zK)} {inst:Int} (h:inst<0∨(B.length:Int)≤inst):atB B inst=[]:=by
 rw[atB]
 split
 ·rfl
 ·rw[y0h,y1e (by omega)];rfl
theorem yXm (i:SoI) (h:sladC.cnd i):yMd i:=by
 obtain⟨hR,hB⟩:i.s.Rep i.p i.B∧i.B.length≤1000:=h
 have hbl:=hR.bl
 have out (hx:i.inst<0∨(i.B.length:Int)≤i.inst):aj lvE (uU (atB i.B i.inst) (zD i.sd))=[]:=by
  rw[yKk hx];rfl
 unfold yMd zMf bJ
 refine zJ (fun c=>Cv.cnd.mk (fun d=> ?_) (fun d=> ?_)) (fun c=> ?_)
 ·have d:¬i.inst<(i.s.books.length:Int):=by simpa using d
  rw[out (.inr (by omega))];exact⟨(),k0q⟩
 ·have d:i.inst<(i.s.books.length:Int):=by simpa using d
  obtain⟨b,hb⟩:=z8 (l:=i.s.books) (i:=i.inst.toNat) (by omega)
  obtain⟨L,hL⟩:=z8 (l:=i.B) (i:=i.inst.toNat) (by omega)
  refine⟨⟨c,d⟩,by omega,b,hb,⟨b,L,i.sd⟩,rfl,rfl,hR.bk _ b L hb hL,fun _ _=>⟨b,rfl,rfl,by omega,?_⟩⟩
  rw[uA hb,yKm c hL]
  exact⟨(),k0q⟩
 ·rw[out (.inl (by omega))];exact⟨(),k0q⟩
theorem yIl:sladC.ok Tryz.prog 107:=okw mixed (gokc ySk gok0) 1 (fun _=>[]) (fun _=>[]) [0] Tryz.func107 yXm
open Go Cv Go.Proofs
def zVk (s:Int) (F:List zK):Prop:=F.Pairwise fun o o'=>btr s o'.price o.price=ao
def tV (L:List zK) (s:Int):List zK:=L.filter fun o=>decide (o.side=s)
structure BWf (p:Prd) (B:List (List zK)):Prop where
 ok:BOk p B
 od:yIa B
 ub:((whL 0 B).map (·.1)).Nodup
 srt:∀(k:Nat) (L:List zK),B[k]? =ar L→∀s,s=1∨s=2→zVk s (tV L s)
theorem zYk {s:Int} {b:Book} {Q:List (List Nat)}:∀{R:List xG},(R.Pairwise fun r r'=>btr s r.price r'.price=ap)→zVk s (R.flatMap (b.rOrds Q s))
 |[],_=>List.Pairwise.nil
 |r::R,h=>by
  rw[y1w]at h
  rw[y1s,zVk,List.pairwise_append]
  refine⟨List.pairwise_of_forall_mem_list fun o ho o' ho'=> ?_,zYk h.2,fun o ho o' ho'=> ?_⟩
  ·rw[(x9 ho).2,(x9 ho').2];exact lF _ _
  ·obtain⟨r',hr',ho'⟩:=y2s.1 ho'
   rw[(x9 ho).2,(x9 ho').2];exact zWa (h.1 r' hr')
theorem Book.Rep.srt {b:Book} {L:List zK} (h:b.Rep L) {s:Int} (hs:s=1∨s=2):zVk s (tV L s):=by
 obtain⟨Q,c,ht,rfl⟩:=h
 rw[tV,zOz hs]
 exact zYk (c.srt s hs)
theorem MSt.Rep.wf {s:MSt} {p:Prd} {B:List (List zK)} (h:s.Rep p B) (hb:BOk p B):BWf p B:=by
 refine⟨hb,h.ords,h.ids,fun k L hL=> ?_⟩
 obtain⟨b,hb⟩:=z8 (l:=s.books) (i:=k) (by rw[h.bl];exact(yZz.1 hL).1)
 exact fun s hs=>(h.bk k b L hb hL).srt hs
theorem yCp {L:List zK} (h:∀o∈L,zKs o) (hn:(L.map (·.id)).Nodup) (id q:Int):∀o∈(xU L id q).1,zKs o:=by
 intro o ho
 rw[xU]at ho
 split at ho
 ·exact h o ho
 split at ho
 ·exact h o ho
 rename_i hb
 obtain⟨o',ho',e⟩:=y5j.1 ho
 have h0:=h o' ho'
 split at e
 ·rename_i e1
  have hg:=nS hn ho'
  rw[e1]at hg
  rw[hg]at hb
  split at e
  ·cases e
  ·rename_i e2
   cases e
   have:=h0.q
   exact⟨h0.s,by dsimp only;omega⟩
 ·cases e;exact h0
theorem yCy (L:List zK) (id q:Int):(xU L id q).1.length≤L.length:=by
 rw[xU]
 split
 ·exact y1f _
 split
 ·exact y1f _
 exact List.length_filterMap_le _ _
theorem z9t {L:List zK} {s:Int} (h:zVk s (tV L s)) (id q:Int):zVk s (tV (xU L id q).1 s):=by
 rw[xU]
 split
 ·exact h
 split
 ·exact h
 have e:tV (uO L id q) s=uO (tV L s) id q:=by
  rw[tV,tV,uO,uO,List.filter_filterMap,List.filterMap_filter]
  refine bS fun o _=> ?_
  by_cases e1:o.id=id
  ·rw[yZy e1]
   by_cases e2:o.qty=q
   ·rw[yZy e2];simp
   ·rw[yZx e2];by_cases e3:o.side=s<;>simp[Option.filter,e3]
  ·rw[yZx e1];by_cases e3:o.side=s<;>simp[Option.filter,e3]
 rw[e,uO]
 refine List.Pairwise.filterMap _ (fun a a' haa b hb b' hb'=> ?_) h
 have g:∀{a b:zK},(if a.id=id then(if a.qty=q then au else ar {a with qty:=a.qty-q})else ar a)=ar b→b.price=a.price:=by
  intro a b e
  split at e
  ·split at e
   ·cases e
   ·cases e;rfl
  ·cases e;rfl
 rw[g hb,g hb'];exact haa
theorem yMa {B:List (List zK)} (h:((whL 0 B).map (·.1)).Nodup) {k:Nat} {L L':List zK} (hL:B[k]? =ar L) (hs:(L'.map (·.id)).Sublist (L.map (·.id))):((whL 0 (B.set k L')).map (·.1)).Nodup:=by
 have hk:=(yZz.1 hL).1
 obtain⟨rest,hr⟩:=zIv (B:=B) 0 k hk
 have h0:=hr L
 rw[uA hL]at h0
 have h1:=(h0.map (·.1)).nodup_iff.1 h
 refine((hr L').map (·.1)).nodup_iff.2 ?_
 rw[y0j,y2o]at h1 ⊢
 exact h1.sublist (List.Sublist.append hs (List.Sublist.refl _))
theorem BWf.take {p:Prd} {B:List (List zK)} (h:BWf p B) (id q:Int):BWf p (kH B id q).1:=by
 refine⟨h.ok.take id q,?_,?_,?_⟩
 all_goals
  rw[kH]
  cases hi:aF B id with
  |none=>first|exact h.od|exact h.ub|exact h.srt
  |some k=>
   obtain⟨L,hL,hh⟩:=gJ hi
   have ho:=h.od k L hL
   dsimp only
   rw[zT hL]
   first
   |(intro j M hM
     rcases cU hM with⟨rfl,rfl⟩|⟨_,hM⟩
     ·refine⟨yCp ho.1 ho.2.1 id q,?_,y3m (yCy L id q) ho.2.2⟩
      rcases zLx ho.2.1 id q with⟨e,_⟩|⟨e,_⟩
      ·rw[e];exact ho.2.1
      ·rw[e];exact ho.2.1.sublist (List.Sublist.map _ y5w)
     ·exact h.od j M hM)
   |(refine yMa h.ub hL ?_
     rcases zLx ho.2.1 id q with⟨e,_⟩|⟨e,_⟩
     ·rw[e];exact List.Sublist.refl _
     ·rw[e];exact List.Sublist.map _ y5w)
   |(intro j M hM s hs
     rcases cU hM with⟨rfl,rfl⟩|⟨_,hM⟩
     ·exact z9t (h.srt _ L hL s hs) id q
     ·exact h.srt j M hM s hs)
theorem BWf.takes {p:Prd}:∀{fs:List cF} {B:List (List zK)},BWf p B→BWf p (kF B fs)
 |[],B,h=>h
 |f::fs,B,h=>BWf.takes (fs:=fs) (h.take f.id f.qty)
open Go Cv Go.Proofs
theorem zOy {p:Prd} {B:List (List zK)} (h:BWf p B) {inst:Int} {sd:Bool} {price q:Int} {t:wF} {B':List (List zK)} (e:aB p B inst sd price q=ar (t,B')):BWf p B'∧B'.length=B.length:=by
 rw[aB]at e
 dsimp only at e
 split at e
 ·split at e
  ·cases e;exact⟨h.takes.takes,by rw[uE,uE]⟩
  ·cases e;exact⟨h.takes,by rw[uE]⟩
 ·cases e
theorem mI {p:Prd} {inst:Int} {sd:Bool} {price:Int}:∀(m:Nat) (q:Int) (B:List (List zK)),q.toNat≤m→BWf p B→BWf p (wD p B inst sd price q).B∧(wD p B inst sd price q).B.length=B.length∧(0≤q→0≤(wD p B inst sd price q).left∧(wD p B inst sd price q).left≤q)
 |m,q,B,hm,h=>by
  by_cases hq:q≤0
  ·rw[tP (.inl hq)]
   exact⟨h,rfl,fun x=>⟨x,y3p _⟩⟩
  cases hs:aB p B inst sd price q with
  |none=>
   rw[tP (.inr hs)]
   exact⟨h,rfl,fun x=>⟨x,y3p _⟩⟩
  |some x=>
   obtain⟨t,C⟩:=x
   obtain⟨k1,k2⟩:=zOy h hs
   have hq2:=zKb (by omega) hs
   cases m with
   |zero=>omega
   |succ m=>
   obtain⟨i1,i2,i3⟩:=mI (p:=p) (inst:=inst) (sd:=sd) (price:=price) m (q-t.qty) C (by omega) k1
   rw[zNy (by omega) hs]
   exact⟨i1,i2.trans k2,fun _=>⟨(i3 (by omega)).1,by dsimp only;have:=(i3 (by omega)).2;omega⟩⟩
open Go Cv Go.Proofs
@[reducible] def RunI.ok (i:RunI):Prop:=i.s.Rep i.p i.B∧BOk i.p i.B∧(0≤i.inst∧i.inst<i.B.length)∧1≤i.q∧i.q≤1000000
def scouldC:Con:=con1 RunI (fun i=>[.nm 0 0,zA i.inst,zA (zD i.sd),zA i.price,zA i.q]) (fun i=>[zF i.s]) (fun i=>i.ok) (fun i=>zA (i.q-i.r.left)) (fun i=>[zF i.s])
def bQ (p:Prd) (B:List (List zK)) (inst:Int) (sd:Bool) (price q:Int):Bool:=
 decide ((wD p B inst sd price q).left≠0) && (kE ⟨p,(wD p B inst sd price q).B.map qU,inst⟩ (zD (!sd))).any fun x=>cQ sd price x.price
def stuckC:Con:=con1 RunI (fun i=>[.nm 0 0,zA i.inst,zA (zD i.sd),zA i.price,zA i.q]) (fun i=>[zF i.s]) (fun i=>i.ok) (fun i=>yF (bQ i.p i.B i.inst i.sd i.price i.q)) (fun i=>[zF i.s])
def z7y (B:List (List zK)):Nat:=(whL 0 B).length
def countC16:Con:=con1 SoI (fun i=>[.nm 0 0]) (fun i=>[zF i.s]) (fun i=>i.ok) (fun i=>zA (z7y i.B)) (fun i=>[zF i.s])
def fE (p:Prd) (inst price:Int):Int×Int×Int:=
 if(p.legs inst).2.2=ao then(0,0,20)else if p.price inst price≠0 then(0,0,p.price inst price)else
 let far:=p.settle.getD (p.legs inst).2.1.toNat 0
 let a:=if p.high<far+price then(p.high,p.high-price)else(far+price,far)
 if a.1<p.low then(p.low,p.low-price,0)else(a.1,a.2,0)
structure LpI where
 p:Prd
 inst:Int
 price:Int
def lpricesC:Con:=con1 LpI (fun i=>[prdV i.p,zA i.inst,zA i.price]) (fun _=>[]) (fun i=>i.p.check=0∧i.p.small∧yO i.price) (fun i=> .tup [zA (fE i.p i.inst i.price).1,zA (fE i.p i.inst i.price).2.1,zA (fE i.p i.inst i.price).2.2]) (fun _=>[])
def ijj (t u:Nat):SAnn:={ι:=Int×Int,slots:=fun n=>[(t,zA n.1),(u,zA n.2)],rows:=fun _=>[]}
def lpJ:List (Nat×SAnn):=[(50,ijj 15 14),(58,ijj 15 14)]
def yQy:List SAnn:=[{ι:=Nat,slots:=fun j=>[(40,zA j)],rows:=fun _=>[]}]
def yOn:List (Nat×SAnn):=[(8,{ι:=Unit,slots:=fun _=>[],rows:=fun _=>[],opn:=[11]})]
open Go Cv Go.Proofs
def wO (a:Book):Prop:=(a.a.slots.length≤1000000∧a.a.queues.length≤1000000)∧a.buys.length≤1000000∧a.sells.length≤1000000∧a.spare.length≤1000000
def g9 (a:MSt):Prop:=a.books.length≤1000000∧∀(b:Book),b∈a.books→wO b
def qI (a:RunI):Prop:=a.s.Rep a.p a.B∧BOk a.p a.B∧(0≤a.inst∧a.inst<(↑a.B.length:Int))∧1≤a.q∧a.q≤1000000
def zAk (a:RunI):Prop:=∃(b:MSt),sb b.p.code=sb a.s.p.code∧b.p.tick=a.s.p.tick∧b.p.low=a.s.p.low∧b.p.high=a.s.p.high∧b.p.wide=a.s.p.wide∧b.p.rule=a.s.p.rule∧b.p.top=a.s.p.top∧b.p.least=a.s.p.least∧b.p.part=a.s.p.part∧ab 241 Book 6 zS b.books au=ab 241 Book 6 zS a.s.books au∧yW b.wh=yW a.s.wh∧aa 1 (iE b.p.months)=aa 1 (iE a.s.p.months)∧aa 1 (iE b.p.settle)=aa 1 (iE a.s.p.settle)∧(g9 b)∧∀(c:Unit),True→∃(d:RunI),d.inst=a.inst∧zD d.sd=zD a.sd∧d.price=a.price∧d.q=a.q∧zF d.s=zF b∧(qI d)∧∀(e:MSt),e.Rep d.p d.r.B→∃(f:Unit),a.q-a.r.left=aq.wrap (a.q-d.r.left)∧zF a.s=zF b∧True
def vM (a:RunI):Prop:=∃(b:Unit),a.q-a.r.left=0∧sb a.s.p.code=sb a.s.p.code∧a.s.p.tick=a.s.p.tick∧a.s.p.low=a.s.p.low∧a.s.p.high=a.s.p.high∧a.s.p.wide=a.s.p.wide∧a.s.p.rule=a.s.p.rule∧a.s.p.top=a.s.p.top∧a.s.p.least=a.s.p.least∧a.s.p.part=a.s.p.part∧ab 241 Book 6 zS a.s.books au=ab 241 Book 6 zS a.s.books au∧yW a.s.wh=yW a.s.wh∧aa 1 (iE a.s.p.months)=aa 1 (iE a.s.p.months)∧aa 1 (iE a.s.p.settle)=aa 1 (iE a.s.p.settle)∧True
def z2t (i:RunI):Prop:=
 cnd (decide (i.inst≥0)) (cnd (decide (i.inst<(↑i.s.books.length:Int))) (cnd (zD i.sd==1) (cnd (decide (i.q≥1)) (cnd (!decide (i.q≤1000000)) (vM i) (zAk i)) (vM i)) (cnd (zD i.sd==2) (cnd (decide (i.q≥1)) (cnd (!decide (i.q≤1000000)) (vM i) (zAk i)) (vM i)) (vM i))) (vM i)) (vM i)
def zXc (i:SoI):Prop:=
 ∃(a:Unit),(↑(z7y i.B):Int)=(↑(yW i.s.wh).length:Int)∧sb i.s.p.code=sb i.s.p.code∧i.s.p.tick=i.s.p.tick∧i.s.p.low=i.s.p.low∧i.s.p.high=i.s.p.high∧i.s.p.wide=i.s.p.wide∧i.s.p.rule=i.s.p.rule∧i.s.p.top=i.s.p.top∧i.s.p.least=i.s.p.least∧i.s.p.part=i.s.p.part∧ab 241 Book 6 zS i.s.books au=ab 241 Book 6 zS i.s.books au∧yW i.s.wh=yW i.s.wh∧aa 1 (iE i.s.p.months)=aa 1 (iE i.s.p.months)∧aa 1 (iE i.s.p.settle)=aa 1 (iE i.s.p.settle)∧True
def cD (a:Int×Int→Prop) (b:Int×Int) (c:LpI):Prop:=a b∧ae [V.d (D.v (ay (sb c.p.code))),V.own 0,V.d (dI c.p.tick),V.d (dI c.p.low),V.d (dI c.p.high),V.d (dI c.p.wide),V.d (dI c.p.rule),V.d (dI c.p.top),V.d (dI c.p.least),V.d (dI c.p.part),V.own ((0:Nat)+(1:Nat))] 25=ae [V.d (D.v (ay (sb c.p.code))),V.own 0,V.d (dI c.p.tick),V.d (dI c.p.low),V.d (dI c.p.high),V.d (dI c.p.wide),V.d (dI c.p.rule),V.d (dI c.p.top),V.d (dI c.p.least),V.d (dI c.p.part),V.own ((0:Nat)+(1:Nat))] 25∧aa 1 (iE c.p.settle)=aa 1 (iE c.p.settle)∧aa 1 (iE c.p.months)=aa 1 (iE c.p.months)
def yX (a:LpI):=(fE a.p a.inst a.price)
def zWl (i:LpI):Prop:=
 ∃(a:Prd),sb a.code=sb i.p.code∧iE a.months=iE i.p.months∧a.tick=i.p.tick∧a.low=i.p.low∧a.high=i.p.high∧a.wide=i.p.wide∧a.rule=i.p.rule∧a.top=i.p.top∧a.least=i.p.least∧a.part=i.p.part∧iE a.settle=iE i.p.settle∧(zY a)∧∀(b:Unit),True→cnd (a.check !=0) (∃(c:Unit),(yX i).fst=0∧(yX i).snd.fst=0∧(yX i).snd.snd=1∧True) (∃(c:cI),sb c.p.code=sb i.p.code∧iE c.p.months=iE i.p.months∧c.p.tick=i.p.tick∧c.p.low=i.p.low∧c.p.high=i.p.high∧c.p.wide=i.p.wide∧c.p.rule=i.p.rule∧c.p.top=i.p.top∧c.p.least=i.p.least∧c.p.part=i.p.part∧iE c.p.settle=iE i.p.settle∧c.n=i.inst∧(kY c)∧∀(d:Unit),True→cnd (!(c.p.legs c.n).snd.snd) (∃(e:Unit),(yX i).fst=0∧(yX i).snd.fst=0∧(yX i).snd.snd=20∧True) (∃(e:r9),sb e.p.code=sb i.p.code∧iE e.p.months=iE i.p.months∧e.p.tick=i.p.tick∧e.p.low=i.p.low∧e.p.high=i.p.high∧e.p.wide=i.p.wide∧e.p.rule=i.p.rule∧e.p.top=i.p.top∧e.p.least=i.p.least∧e.p.part=i.p.part∧iE e.p.settle=iE i.p.settle∧e.a=i.inst∧e.b=i.price∧(xZ e)∧∀(f:Unit),True→cnd (e.p.price e.a e.b !=0) (∃(g:Unit),(yX i).fst=0∧(yX i).snd.fst=0∧(yX i).snd.snd=e.p.price e.a e.b∧True) ((0≤(c.p.legs c.n).snd.fst∧(c.p.legs c.n).snd.fst<(↑(iE i.p.settle).length:Int))∧∃(g:Int),zE (iE i.p.settle) (c.p.legs c.n).snd.fst.toNat 0 1=ar [dI g]∧∃(h:Int×Int),∃(j:Int×Int→Prop),cnd (decide (aq.wrap (g+i.price)>i.p.high)) (∃(k:Int×Int),k.fst=i.p.high∧k.snd=aq.wrap (i.p.high-i.price)∧cD j k i) (∃(k:Int×Int),k.fst=aq.wrap (g+i.price)∧k.snd=g∧cD j k i)∧∀(k:Int×Int),j k→∃(l:Int×Int),∃(m:Int×Int→Prop),cnd (decide (k.fst<i.p.low)) (∃(n:Int×Int),n.fst=i.p.low∧n.snd=aq.wrap (i.p.low-i.price)∧cD m n i) (∃(n:Int×Int),n.fst=k.fst∧n.snd=k.snd∧cD m n i)∧∀(n:Int×Int),m n→∃(p:Unit),(yX i).fst=n.fst∧(yX i).snd.fst=n.snd∧(yX i).snd.snd=0∧True)))
def zBm (a:MSt) (b:MSt):Prop:=sb a.p.code=sb b.p.code∧True∧a.p.tick=b.p.tick∧a.p.low=b.p.low∧a.p.high=b.p.high∧a.p.wide=b.p.wide∧a.p.rule=b.p.rule∧a.p.top=b.p.top∧a.p.least=b.p.least∧a.p.part=b.p.part∧True∧True
def yDi (i:RunI):Prop:=
 ∃(a:MSt),zF a=zF i.s∧(g9 a)∧∀(b:Unit),True→∃(c:RunI),c.inst=i.inst∧zD c.sd=zD i.sd∧c.price=i.price∧c.q=i.q∧zF c.s=zF a∧(qI c)∧∀(d:MSt),d.Rep c.p c.r.B→cnd (c.r.left==0) (∃(e:Unit),bQ i.p i.B i.inst i.sd i.price i.q=ao∧zF i.s=zF a∧True) (∃(e:MSt),sb e.p.code=sb d.p.code∧e.p.tick=d.p.tick∧e.p.low=d.p.low∧e.p.high=d.p.high∧e.p.wide=d.p.wide∧e.p.rule=d.p.rule∧e.p.top=d.p.top∧e.p.least=d.p.least∧e.p.part=d.p.part∧ab 241 Book 6 zS e.books au=ab 241 Book 6 zS d.books au∧yW e.wh=yW d.wh∧aa 1 (iE e.p.months)=aa 1 (iE d.p.months)∧aa 1 (iE e.p.settle)=aa 1 (iE d.p.settle)∧(fW e)∧∀(f:Unit),True→(zBm e d)∧∃(g:Bool),zD g=zD i.sd∧True∧∀(h:Unit),True→(zBm e d)∧∃(j:tM),sb j.i.p.code=sb d.p.code∧iE j.i.p.months=iE e.p.months∧j.i.p.tick=d.p.tick∧j.i.p.low=d.p.low∧j.i.p.high=d.p.high∧j.i.p.wide=d.p.wide∧j.i.p.rule=d.p.rule∧j.i.p.top=d.p.top∧j.i.p.least=d.p.least∧j.i.p.part=d.p.part∧iE j.i.p.settle=iE e.p.settle∧aj zX j.i.tops=aj zX e.tops∧j.i.inst=i.inst∧zD j.s=zD !g∧(kD j)∧∀(k:Unit),True→∃(l:Nat),(↑l:Int)=0∧∃(m:Nat→Prop),∃(n:Nat→Nat),m l∧∀(p:Nat),m p→cnd (decide ((↑p:Int)<(gW j))) ((0≤(↑p:Int)∧(↑p:Int)<(gW j))∧∃(q:Int),∃(r:Int),∃(s:Int),∃(t:Int),∃(u:Int),∃(v:Int),zE (jH j) (↑p:Int).toNat 0 6=ar [dI q,dI r,dI s,dI t,dI u,dI v]∧∃(w:GoI),zD w.s=zD i.sd∧w.p=i.price∧w.x=q∧True∧∀(x:Unit),True→cnd (cQ w.s w.p w.x) (∃(y:Unit),bQ i.p i.B i.inst i.sd i.price i.q=ap∧zF i.s=zF a∧True) (∃(y:Nat),(↑y:Int)=aq.wrap ((↑p:Int)+1)∧m y∧n y<n p∧af 259 6 (jH j)=af 259 6 (jH j)∧ae (vI (cO 5 (1+((2:Nat)-(1:Nat))+((2:Nat)-(1:Nat))+((5:Nat)-(1:Nat))) ((6:Nat)-(5:Nat)) [((2:Nat),1+((2:Nat)-(1:Nat))+((2:Nat)-(1:Nat))+nat_lit 1),((1:Nat),1+((2:Nat)-(1:Nat))+((2:Nat)-(1:Nat))+nat_lit 0),((4:Nat),1+((2:Nat)-(1:Nat))+((2:Nat)-(1:Nat))+nat_lit 3),((3:Nat),1+((2:Nat)-(1:Nat))+((2:Nat)-(1:Nat))+nat_lit 2),((0:Nat),1+nat_lit 0)]) [sV e.p.code,V.own 3,zA e.p.tick,zA e.p.low,zA e.p.high,zA e.p.wide,zA e.p.rule,zA e.p.top,zA e.p.least,zA e.p.part,V.own 4,V.own 1,V.mp 2]) (240:TypeId)=ae (vI (cO 5 (1+((2:Nat)-(1:Nat))+((2:Nat)-(1:Nat))+((5:Nat)-(1:Nat))) ((6:Nat)-(5:Nat)) [((2:Nat),1+((2:Nat)-(1:Nat))+((2:Nat)-(1:Nat))+nat_lit 1),((1:Nat),1+((2:Nat)-(1:Nat))+((2:Nat)-(1:Nat))+nat_lit 0),((4:Nat),1+((2:Nat)-(1:Nat))+((2:Nat)-(1:Nat))+nat_lit 3),((3:Nat),1+((2:Nat)-(1:Nat))+((2:Nat)-(1:Nat))+nat_lit 2),((0:Nat),1+nat_lit 0)]) [sV e.p.code,V.own 3,zA e.p.tick,zA e.p.low,zA e.p.high,zA e.p.wide,zA e.p.rule,zA e.p.top,zA e.p.least,zA e.p.part,V.own 4,V.own 1,V.mp 2]) (240:TypeId)∧ab 241 Book 6 zS e.books au=ab 241 Book 6 zS e.books au∧ag (yW e.wh)=ag (yW e.wh)∧aa 1 (iE e.p.months)=aa 1 (iE e.p.months)∧aa 1 (iE e.p.settle)=aa 1 (iE e.p.settle)∧aa 6 (aj zX e.tops)=aa 6 (aj zX e.tops)∧aa 1 (iE d.p.months)=aa 1 (iE d.p.months)∧aa 1 (iE d.p.settle)=aa 1 (iE d.p.settle)∧af 321 4 (aj jZ c.r.steps)=af 321 4 (aj jZ c.r.steps)∧zF a=zF a)) (∃(q:Unit),bQ i.p i.B i.inst i.sd i.price i.q=ao∧zF i.s=zF a∧True))
open Go Cv Go.Proofs
theorem MSt.Rep.small {s:MSt} {p:Prd} {B:List (List zK)} (h:s.Rep p B) (hb:BOk p B):s.small:=by
 have:=xQ p
 refine⟨by rw[h.bl,hb.bl];omega,fun b hm=> ?_⟩
 obtain⟨k,hk⟩:=y2q.1 hm
 have hlt:=(yZz.1 hk).1
 rw[h.bl]at hlt
 obtain⟨L,hL⟩:=z8 hlt
 obtain⟨Q,c,_⟩:=h.bk k b L hk hL
 exact c.small
theorem yJw (i:RunI) (h:scouldC.cnd i):z2t i:=by
 have h':i.ok:=h
 obtain⟨hR,hB,⟨h0,h1⟩,hq1,hq2⟩:=h'
 have hbl:=hR.bl
 have hl:=(mI (inst:=i.inst) (sd:=i.sd) (price:=i.price) _ i.q i.B (y1f _) (hR.wf hB)).2.2 (by omega)
 have er:i.r=wD i.p i.B i.inst i.sd i.price i.q:=rfl
 unfold z2t vM zAk qI g9 wO
 refine(fun hT=>zJ (fun c=>zJ (fun c2=>Cv.cnd.mk (fun _=>zJ (fun _=>Cv.cnd.mk (fun e=>absurd hq2 (by simpa using e)) (fun _=>hT)) (fun e=>absurd hq1 e)) (fun e1=>Cv.cnd.mk (fun _=>zJ (fun _=>Cv.cnd.mk (fun e=>absurd hq2 (by simpa using e)) (fun _=>hT)) (fun e=>absurd hq1 e)) (fun e2=>by
  rcases zDl i.sd with e|e
  ·rw[e]at e1;cases e1
  ·rw[e]at e2;cases e2))) (fun c2=>absurd (by omega) c2)) (fun c=>absurd h0 c)) ?_
 refine⟨i.s,rfl,rfl,rfl,rfl,rfl,rfl,rfl,rfl,rfl,rfl,rfl,rfl,rfl,hR.small hB,fun _ _=>⟨i,rfl,rfl,rfl,rfl,rfl,h,fun o ho=>⟨(),?_,rfl,trivial⟩⟩⟩
 rw[w64 (by rw[er];omega)]
theorem z8v:scouldC.ok Tryz.prog 167:=okw mixed (gokc zDe (gokc z1g gok0)) 2 (fun _=>[]) (fun _=>[]) [0] Tryz.func167 yJw
theorem yAy (i:SoI) (h:countC16.cnd i):zXc i:=by
 obtain⟨hR,hB⟩:i.s.Rep i.p i.B∧i.B.length≤1000:=h
 unfold zXc
 have e:(yW i.s.wh).length=z7y i.B:=by rw[yW,y0a,hR.wh.length_eq,z7y]
 exact⟨(),by rw[e],k0q⟩
theorem z0e:countC16.ok Tryz.prog 166:=okw mixed gok0 0 (fun _=>[]) (fun _=>[]) [0] Tryz.func166 yAy
theorem zVa {p:Prd} {i n:Int} (h:p.price i n=0):0≤i∧i<p.count:=by
 rw[Prd.price]at h
 split at h
 ·cases h
 split at h
 ·cases h
 omega
theorem yHg (i:LpI) (h:lpricesC.cnd i):zWl i:=by
 obtain⟨hc,hp,hpr⟩:i.p.check=0∧i.p.small∧yO i.price:=h
 unfold zWl cD yX zY kY xZ dI
 refine⟨i.p,rfl,rfl,rfl,rfl,rfl,rfl,rfl,rfl,rfl,rfl,rfl,hp,fun _ _=>Cv.cnd.mk (fun e=>by rw[hc]at e;cases e) (fun _=> ?_)⟩
 refine⟨⟨i.p,i.inst⟩,rfl,rfl,rfl,rfl,rfl,rfl,rfl,rfl,rfl,rfl,rfl,rfl,hp,fun _ _=>Cv.cnd.mk (fun e=> ?_) (fun e=> ?_)⟩
 ·have e:(i.p.legs i.inst).2.2=ao:=by simpa using e
  have h0:fE i.p i.inst i.price=(0,0,20):=by rw[fE,yZy e]
  rw[h0];exact⟨(),rfl,rfl,rfl,trivial⟩
 have e:(i.p.legs i.inst).2.2=ap:=by simpa using e
 refine⟨⟨i.p,i.inst,i.price⟩,rfl,rfl,rfl,rfl,rfl,rfl,rfl,rfl,rfl,rfl,rfl,rfl,rfl,hp,fun _ _=>Cv.cnd.mk (fun e2=> ?_) (fun e2=> ?_)⟩
 ·have e2:¬i.p.price i.inst i.price=0:=by simpa using e2
  have h0:fE i.p i.inst i.price=(0,0,i.p.price i.inst i.price):=by rw[fE,yZx (by rw[e];decide),yZy e2]
  rw[h0];exact⟨(),rfl,rfl,rfl,trivial⟩
 have e2:i.p.price i.inst i.price=0:=by simpa using e2
 have hin:=zVa e2
 have hbd:=sN hc e2
 have ok:=jR hc
 have b1:=ok.b1
 have b2:=ok.b2
 have b3:=ok.b3
 have s1:=ok.s1
 have s2:=ok.s2
 have s3:=ok.s3
 obtain⟨k,hk⟩:∃k:Nat,i.inst=k:=⟨i.inst.toNat,by omega⟩
 have hl:=cE hc (k:=k) (by omega)
 rw[← hk]at hl
 rcases hl with⟨_,_,_,l3,l4⟩|⟨x,_⟩
 rotate_left
 ·rw[e]at x;cases x
 have hsl:(iE i.p.settle).length=i.p.settle.length:=xD _
 obtain⟨n,hn⟩:=z8 (l:=i.p.settle) (i:=(i.p.legs i.inst).2.1.toNat) (by omega)
 have hm:=y0g hn
 have m1:=z2m hm
 have m2:=z4h hm
 have hg:i.p.settle.getD (i.p.legs i.inst).2.1.toNat 0=n:=zT hn
 have h0:fE i.p i.inst i.price=(if(if i.p.high<n+i.price then(i.p.high,i.p.high-i.price)else(n+i.price,n)).1<i.p.low then(i.p.low,i.p.low-i.price,0)else((if i.p.high<n+i.price then(i.p.high,i.p.high-i.price)else(n+i.price,n)).1,(if i.p.high<n+i.price then(i.p.high,i.p.high-i.price)else(n+i.price,n)).2,0)):=by
  rw[fE,yZx (by rw[e];decide),yZx (by rw[e2];decide)]
  dsimp only
  rw[hg]
 dsimp only
 refine⟨⟨l3,by omega⟩,n,elI hn,(0,0),fun a=>a=if i.p.high<n+i.price then(i.p.high,i.p.high-i.price)else(n+i.price,n),zJ (fun c=>⟨(i.p.high,i.p.high-i.price),rfl,(w64 (by omega)).symm,?_,k0q⟩) (fun c=>⟨(n+i.price,n),(w64 (by omega)).symm,rfl,?_,k0q⟩),?_⟩
 ·rw[w64 (by omega)]at c;rw[yZy c]
 ·rw[w64 (by omega)]at c;rw[yZx c]
 rintro _ rfl
 generalize (if i.p.high<n+i.price then(i.p.high,i.p.high-i.price)else(n+i.price,n))=a at h0 ⊢
 refine⟨(0,0),fun b=>b=if a.1<i.p.low then(i.p.low,i.p.low-i.price)else a,zJ (fun c=>⟨(i.p.low,i.p.low-i.price),rfl,(w64 (by omega)).symm,by rw[yZy c],k0q⟩) (fun c=>⟨a,rfl,rfl,by rw[yZx c],k0q⟩),?_⟩
 rintro _ rfl
 rw[h0]
 by_cases c:a.1<i.p.low
 ·rw[yZy c,yZy c];exact⟨(),rfl,rfl,rfl,trivial⟩
 ·rw[yZx c,yZx c];exact⟨(),rfl,rfl,rfl,trivial⟩
theorem zZa:lpricesC.ok Tryz.prog 264:=okw mixed (gokc tH (gokc lU (gokc tG gok0))) 0 (fun _=>lpJ) (fun _=>[]) [] Tryz.func264 yHg
theorem yLm {l:List Quote} {k:Nat} {q:Quote} (h:l[k]? =ar q):zE (l.map zL) k 0 6=ar [D.v (.int .i64 q.price),D.v (.int .i64 q.qty),D.v (.int .i64 q.a.inst),D.v (.int .i64 q.a.side),D.v (.int .i64 q.b.inst),D.v (.int .i64 q.b.side)]:=elA h (by simp[zL]) rfl
theorem yQw (i:RunI) (h:stuckC.cnd i):yDi i:=by
 have h':i.ok:=h
 obtain⟨hR,hB,⟨h0,h1⟩,hq1,hq2⟩:=h'
 have hwf:=hR.wf hB
 obtain⟨k1,k2,k3⟩:=mI (inst:=i.inst) (sd:=i.sd) (price:=i.price) _ i.q i.B (y1f _) hwf
 have hcl:=xQ i.p
 unfold yDi zBm qI g9 wO gW jH kD gU fW dI
 refine⟨i.s,rfl,hR.small hB,fun _ _=>⟨i,rfl,rfl,rfl,rfl,rfl,h,fun o ho=> ?_⟩⟩
 have er:i.r=wD i.p i.B i.inst i.sd i.price i.q:=rfl
 have es:bQ i.p i.B i.inst i.sd i.price i.q=(decide ((wD i.p i.B i.inst i.sd i.price i.q).left≠0) && (kE ⟨i.p,(wD i.p i.B i.inst i.sd i.price i.q).B.map qU,i.inst⟩ (zD (!i.sd))).any fun x=>cQ i.sd i.price x.price):=rfl
 rw[er]at ho ⊢
 rw[es]
 generalize wD i.p i.B i.inst i.sd i.price i.q=R at*
 obtain⟨ts,lf,RB⟩:=R
 dsimp only at*
 refine Cv.cnd.mk (fun e=>⟨(),?_,rfl,trivial⟩) (fun e=> ?_)
 ·have e:lf=0:=by simpa using e
  rw[e];rfl
 have e:lf≠0:=by simpa using e
 rw[y0n e,y2y]
 have ep:=ho.ep
 have hB':=k1.ok
 have hbl:=hB'.bl
 have hcnt:o.cntOk:=ho.cnt (by omega)
 have hps:o.p.small:=by rw[ep];exact hB'.ps
 have hto:vD (RB.map qU):=hB'.tops
 have hle:=zDz ⟨o.p,RB.map qU,i.inst⟩ (zD (!i.sd))
 refine⟨o,rfl,rfl,rfl,rfl,rfl,rfl,rfl,rfl,rfl,rfl,rfl,rfl,rfl,hcnt,fun _ _=>⟨⟨rfl,trivial,rfl,rfl,rfl,rfl,rfl,rfl,rfl,rfl,trivial,trivial⟩,i.sd,rfl,trivial,fun _ _=>⟨⟨rfl,trivial,rfl,rfl,rfl,rfl,rfl,rfl,rfl,rfl,trivial,trivial⟩,⟨⟨o.p,RB.map qU,i.inst⟩,!i.sd⟩,rfl,rfl,rfl,rfl,rfl,rfl,rfl,rfl,rfl,rfl,rfl,by rw[ho.tops],rfl,rfl,⟨hps,hto⟩,fun _ _=> ?_⟩⟩⟩
 dsimp only
 rw[← ep]
 generalize kE ⟨o.p,RB.map qU,i.inst⟩ (zD (!i.sd))=Q at*
 have e4:(Q.map zL).length=Q.length:=y0a ..
 refine⟨0,rfl,fun j=>j≤Q.length∧(Q.take j).any (fun x=>cQ i.sd i.price x.price)=ao,fun j=>Q.length-j,⟨y1n _,rfl⟩,?_⟩
 rintro j ⟨j1,j2⟩
 refine zJ (fun c=> ?_) (fun c=>⟨(),?_,rfl,trivial⟩)
 ·obtain⟨q,hq⟩:=z8 (l:=Q) (i:=j) (by omega)
  refine⟨⟨by omega,by omega⟩,_,_,_,_,_,_,yLm hq,⟨i.sd,i.price,q.price⟩,rfl,rfl,rfl,trivial,fun _ _=>Cv.cnd.mk (fun g=>⟨(),?_,rfl,trivial⟩) (fun g=>⟨j+1,wjn (by omega),⟨by omega,?_⟩,by dsimp only;omega,k0q⟩)⟩
  ·rw[List.any_eq_true];exact⟨q,y0g hq,g⟩
  ·rw[y1i,hq,List.any_append,j2]
   show(ao||([q].any fun x=>cQ i.sd i.price x.price))=ao
   simp only[List.any_cons,List.any_nil,Bool.or_false,y5y]
   exact g
 ·have:j=Q.length:=by omega
  rw[this,y0p (y1f _)]at j2
  exact j2
theorem zVp:stuckC.ok Tryz.prog 168:=okw mixed (gokc zDe (gokc z1g (gokc zUu (gokc yDv (gokc zQt (gokc zYh gok0)))))) 0 (fun _=>yOn) (fun _=>yQy) [] Tryz.func168 yQw
open Go Cv Go.Proofs
def pP (c:Cmd) (why:Int):List Rep:=[⟨2,c.id,0,0,0,0,0,why⟩]
def ofF (x:wF) (k:Int):Int:=match x.fills.find? fun f=>decide (f.inst=k)with
 |some f=>f.price
 |none=>x.price
def wQ (p:Prd) (inst:Int) (x:wF):Int×Int:=if x.implied=ao then((fE p inst x.price).1,(fE p inst x.price).2.1)else(ofF x (p.legs inst).1,ofF x (p.legs inst).2.1)
def zJd (p:Prd) (r:Rep) (near far:Int):List Rep:=[{r with inst:=(p.legs r.inst).1,price:=near},{r with inst:=(p.legs r.inst).2.1,side:=3-r.side,price:=far}]
def rW (p:Prd) (x:wF) (r:Rep):List Rep:=r::if(p.legs r.inst).2.2=ap then zJd p r (wQ p r.inst x).1 (wQ p r.inst x).2 else[]
def zDb (f:cF):Rep:=⟨3,f.id,f.inst,f.side,f.price,f.qty,f.left,0⟩
def nN (p:Prd) (c:Cmd) (x:wF) (left:Int):List Rep:=x.fills.flatMap (fun f=>rW p x (zDb f))++rW p x ⟨3,c.id,c.inst,c.side,x.price,x.qty,left,0⟩
def nU (p:Prd) (c:Cmd):List wF→Int→List Rep
 |[],_=>[]
 |x::l,left=>nN p c x (left-x.qty)++nU p c l (left-x.qty)
structure MkX where
 B:List (List zK)
 U:List Int
 R:List Rep
def zOj (U:List Int) (id:Int):List Int:=if id∈U then U else U++[id]
def mB (p:Prd) (B:List (List zK)) (U:List Int) (c:Cmd):MkX:=match wD p B c.inst (decide (c.side=2)) c.price c.qty with
 |⟨ts,left,B'⟩=>⟨if left≠0∧c.time=1 then(z0d p B' c.inst c.id c.side c.price left).1 else B',zOj U c.id,
  (⟨1,c.id,c.inst,c.side,c.price,c.qty,c.qty,0⟩::nU p c ts c.qty)++if left≠0∧c.time≠1 then[⟨4,c.id,c.inst,c.side,c.price,left,0,0⟩]else[]⟩
def Cmd.lst (c:Cmd):Int:=if c.time=3 then c.qty else c.least
def tF (p:Prd) (B:List (List zK)) (U:List Int) (c:Cmd):MkX:=
 if p.price c.inst c.price≠0 then⟨B,U,pP c (p.price c.inst c.price)⟩
 else if c.id∈U then⟨B,U,pP c 25⟩
 else if 250≤z7y B then⟨B,U,pP c 13⟩
 else if 0<c.lst∧c.qty-(wD p B c.inst (decide (c.side=2)) c.price c.qty).left<c.lst then⟨B,U,pP c 28⟩
 else if c.time=1∧bQ p B c.inst (decide (c.side=2)) c.price c.qty=ap then⟨B,U,pP c 23⟩
 else mB p B U c
def aS (B:List (List zK)) (U:List Int) (id inst:Int) (o:zK):MkX:=⟨(kH B id o.qty).1,U,[⟨4,id,inst,o.side,o.price,o.qty,0,0⟩]⟩
def zDp (B:List (List zK)) (U:List Int) (id q inst:Int) (o:zK):MkX:=⟨(kH B id q).1,U,[⟨5,id,inst,o.side,o.price,q,o.qty-q,0⟩]⟩
def aI (p:Prd) (B:List (List zK)) (U:List Int) (c:Cmd) (inst:Int) (o:zK):MkX:=
 if p.price inst c.price≠0 then⟨B,U,pP c (p.price inst c.price)⟩
 else if c.price=o.price∧c.qty≤o.qty then zDp B U c.id (o.qty-c.qty) inst o
 else if bQ p (kH B c.id o.qty).1 inst (decide (o.side=2)) c.price c.qty=ap then⟨B,U,pP c 23⟩
 else
  let x:=aS B U c.id inst o
  let y:=mB p x.B U ⟨1,c.id,inst,o.side,c.price,c.qty,0,1,[]⟩
  ⟨y.B,y.U,x.R++y.R⟩
def doF (p:Prd) (B:List (List zK)) (U:List Int) (c:Cmd):MkX:=
 if c.right≠0 then⟨B,U,pP c c.right⟩
 else if c.kind=1 then tF p B U c
 else if(yG B c.id).2.2=ao then⟨B,U,pP c 26⟩
 else if c.kind=4 then aI p B U c (yG B c.id).1 (yG B c.id).2.1
 else if c.kind=2∨(yG B c.id).2.1.qty≤c.qty then aS B U c.id (yG B c.id).1 (yG B c.id).2.1
 else zDp B U c.id c.qty (yG B c.id).1 (yG B c.id).2.1
structure Mkt.Rep (m:Mkt) (p:Prd) (B:List (List zK)) (U:List Int):Prop where
 ep:m.p=p
 s:m.s.Rep p B
 u:m.used=U
@[reducible] def zCd (m:Mkt):List AObj:=[y3 m 0,y3 m 1,y3 m 2,y3 m 3,y3 m 4]
@[reducible] def yMv (x:wF):V:= .agg [zA x.price,zA x.qty,yF x.implied,roV 6 (x.fills.map yT)]
@[reducible] def tRp:Nat:=85
@[reducible] def z0j (l:List Rep):AObj:= .own tRp 8 (l.map x6)
structure RjI where
 c:Cmd
 why:Int
def rejC:Con:=con1 RjI (fun i=>[zOo i.c,zA i.why]) (fun _=>[]) (fun _=>True) (fun _=> .own 0) (fun i=>[z0j (pP i.c i.why)])
structure MsI where
 m:Mkt
 r:Rep
 near:Int
 far:Int
@[reducible] def Mkt.fine (m:Mkt):Prop:=m.p.check=0∧m.p.small
def mspreadC:Con:=con1 MsI (fun i=>[.nm 0 0,yYn i.r,zA i.near,zA i.far]) (fun i=>zCd i.m) (fun i=>i.m.fine∧(i.r.side=1∨i.r.side=2)) (fun _=> .own 5) (fun i=>zCd i.m++[z0j (zJd i.m.p i.r i.near i.far)])
structure MiN where
 m:Mkt
 inst:Int
def misC:Con:=con1 MiN (fun i=>[.nm 0 0,zA i.inst]) (fun i=>zCd i.m) (fun i=>i.m.fine) (fun i=>yF (i.m.p.legs i.inst).2.2) (fun i=>zCd i.m)
structure OfI where
 x:wF
 k:Int
@[reducible] def zUs (x:wF) (n:Nat):List AObj:=[.cells [zA x.price,zA x.qty,yF x.implied,.own n] 321,.fro 6 (x.fills.map yT)]
def ofC:Con:=con1 OfI (fun i=>[zA i.k,.nm 0 0]) (fun i=>zUs i.x 1) (fun i=>i.x.fills.length≤1000000) (fun i=>zA (ofF i.x i.k)) (fun i=>zUs i.x 1)
def ofA:List SAnn:=[{ι:=Nat,slots:=fun j=>[(9,zA j)],rows:=fun _=>[]}]
structure MpI where
 m:Mkt
 inst:Int
 x:wF
def mpricesC:Con:=con1 MpI (fun i=>[.nm 0 0,zA i.inst,yMv i.x]) (fun i=>zCd i.m) (fun i=>i.m.fine∧yO i.x.price∧i.x.fills.length≤1000000) (fun i=> .tup [zA (wQ i.m.p i.inst i.x).1,zA (wQ i.m.p i.inst i.x).2]) (fun i=>zCd i.m)
structure StI' where
 m:Mkt
 c:Cmd
 x:wF
 left:Int
def StI'.out (i:StI') (j:Nat):List Rep:=(i.x.fills.take j).flatMap fun f=>rW i.m.p i.x (zDb f)
def mstepC:Con:=con1 StI' (fun i=>[.nm 0 0,zOo i.c,yMv i.x,zA i.left]) (fun i=>zCd i.m) (fun i=>i.m.fine∧yO i.x.price∧i.x.fills.length≤1000000∧(i.c.side=1∨i.c.side=2)∧∀f∈i.x.fills,f.side=1∨f.side=2) (fun _=> .own 5) (fun i=>zCd i.m++[z0j (nN i.m.p i.c i.x i.left)])
def yTl (i:StI'):List SAnn:=[{ι:=Nat,slots:=fun j=>[(9,.nm 0 0),(17,zA j)],rows:=fun j=>[.cells [.own 1] 106,z0j (i.out j)]}]
end Sx
