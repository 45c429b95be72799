/- Texts of ours. No condition. -/
import Derived.Test.YtaafldgiafcgfaaGreatC8
set_option linter.all false
open List renaming map->aa,replicate->ab,take->ac
open Sx.AObj renaming fro->ae,objs->af,adt->ag,cells->aj,own->ak,map->am
open Bool renaming false->ao,true->ap
open Go.IntKind renaming i64->aq
open And renaming intro->ar
open Option renaming some->au,none->av
open Exists renaming intro->aw
namespace Sx
set_option maxRecDepth 100000
open Go Cv Go.Proofs
def zFf (a:Nat->Prop) (b:Nat) (c:Nat->Nat) (d:Nat) (e:BkL) (f:ArN):Prop:=a b/\c b<c d/\dh (aj [V.nm 1 0,V.own 2,V.own 3,V.mp 4,V.d (dI e.b.top1),V.d (dI e.b.top2),V.own 5,V.d (D.v (.bool e.b.has1)),V.d (D.v (.bool e.b.has2))] (245:TypeId))/\ag Arena 3 zG f.a=ag Arena 3 zG e.b.a/\dh (ak 255 2 (aa zB e.b.buys))/\dh (ak 255 2 (aa zB e.b.sells))/\dh (am (atE e.b.at_))/\dh (ak 3 1 (iE e.b.spare))
def bS (a:Nat) (b:BkL):=(ac a (hU b.L (zC ao)))
def yPz (i:BkL):Prop:=
 ∃(a:Int),a=zC ao/\True/\∀(b:Unit),True->cnd (qU a) (∃(c:Unit),dh i.b.top1/\dh i.b.top2/\dh i.b.has1/\dh i.b.has2/\dh (ag Arena 3 zG i.b.a)/\dh (aa zB i.b.buys)/\dh (aa zB i.b.sells)/\dh (atE i.b.at_)/\dh (iE i.b.spare)/\aa lvE (hU i.L (zC ao))=[]/\True) (∃(c:Nat),(↑c:Int)=0/\aa lvE (bS c i)=[]/\∃(d:Nat->Prop),∃(e:Nat->Nat),d c/\∀(f:Nat),d f->cnd (decide ((↑f:Int)<(↑(aa zB i.b.buys).length:Int))) ((0<=(↑f:Int)/\(↑f:Int)<(↑(aa zB i.b.buys).length:Int))/\∃(g:Int),∃(h:Int),zE (aa zB i.b.buys) (↑f:Int).toNat 0 2=au [dI g,dI h]/\∃(j:ArN),j.n=h/\ag Arena 3 zG j.a=ag Arena 3 zG i.b.a/\True/\∀(k:Unit),True->h=h/\True/\g=g/\∃(l:ArN),l.n=h/\ag Arena 3 zG l.a=ag Arena 3 zG j.a/\True/\∀(m:Unit),True->g=g/\((aa lvE (bS f i)).length+1)*(24:Nat)<=(140737488355328:Nat)/\∃(n:Nat),(↑n:Int)=aq.wrap ((↑f:Int)+1)/\aa lvE (bS n i)=aa lvE (bS f i)++[[dI g,dI ((j.a.qAt j.n).total),dI ((l.a.qAt l.n).count)]]/\zFf d n e f i l) (∃(g:Unit),dh i.b.top1/\dh i.b.top2/\dh i.b.has1/\dh i.b.has2/\dh (ag Arena 3 zG i.b.a)/\dh (aa zB i.b.buys)/\dh (aa zB i.b.sells)/\dh (atE i.b.at_)/\dh (iE i.b.spare)/\aa lvE (hU i.L (zC ao))=aa lvE (bS f i)/\True))
def bW (a:Nat) (b:BkL):=(ac a (hU b.L (zC ap)))
def yRm (i:BkL):Prop:=
 ∃(a:Int),a=zC ap/\True/\∀(b:Unit),True->cnd (qU a) (∃(c:Unit),dh i.b.top1/\dh i.b.top2/\dh i.b.has1/\dh i.b.has2/\dh (ag Arena 3 zG i.b.a)/\dh (aa zB i.b.buys)/\dh (aa zB i.b.sells)/\dh (atE i.b.at_)/\dh (iE i.b.spare)/\aa lvE (hU i.L (zC ap))=[]/\True) (∃(c:Nat),(↑c:Int)=0/\aa lvE (bW c i)=[]/\∃(d:Nat->Prop),∃(e:Nat->Nat),d c/\∀(f:Nat),d f->cnd (decide ((↑f:Int)<(↑(aa zB i.b.sells).length:Int))) ((0<=(↑f:Int)/\(↑f:Int)<(↑(aa zB i.b.sells).length:Int))/\∃(g:Int),∃(h:Int),zE (aa zB i.b.sells) (↑f:Int).toNat 0 2=au [dI g,dI h]/\∃(j:ArN),j.n=h/\ag Arena 3 zG j.a=ag Arena 3 zG i.b.a/\True/\∀(k:Unit),True->h=h/\True/\g=g/\∃(l:ArN),l.n=h/\ag Arena 3 zG l.a=ag Arena 3 zG j.a/\True/\∀(m:Unit),True->g=g/\((aa lvE (bW f i)).length+1)*(24:Nat)<=(140737488355328:Nat)/\∃(n:Nat),(↑n:Int)=aq.wrap ((↑f:Int)+1)/\aa lvE (bW n i)=aa lvE (bW f i)++[[dI g,dI ((j.a.qAt j.n).total),dI ((l.a.qAt l.n).count)]]/\zFf d n e f i l) (∃(g:Unit),dh i.b.top1/\dh i.b.top2/\dh i.b.has1/\dh i.b.has2/\dh (ag Arena 3 zG i.b.a)/\dh (aa zB i.b.buys)/\dh (aa zB i.b.sells)/\dh (atE i.b.at_)/\dh (iE i.b.spare)/\aa lvE (hU i.L (zC ap))=aa lvE (bW f i)/\True))
def sP (a:Nat×Top->Prop) (b:Nat×Top) (c:MSt) (d:Nat) (e:Book):Prop:=a b/\dh (ak 3 1 [[dI 1],[dI 2]])/\dh (xR c 0)/\af 197 Book 6 zP (c.books.set (↑d:Int).toNat e) av=xR c 1/\dh (xR c 2)/\dh (xR c 3)/\dh (xR c 4)
def zCj (a:MSt) (b:Nat×Top) (c:Nat×Top->Prop) (d:Nat) (e:Book):Prop:=∃(f:Nat×Top),aa z6 (xS a f.fst f.snd)=aa z6 (xS a b.fst b.snd)/\sP c f a d e
def yEq (s:MSt):Prop:=
 (zAw s)/\∃(a:Nat),(↑a:Int)=0/\aa z6 (x7 s a)=ab (↑s.books.length:Int).toNat [D.v (.bool ao),D.v (.bool ao),dI 0,dI 0,dI 0,dI 0]/\∃(b:Nat->Prop),∃(c:Nat->Nat),b a/\∀(d:Nat),b d->cnd (decide ((↑d:Int)<(↑s.books.length:Int))) ((0<=(↑d:Int)/\(↑d:Int)<(↑s.books.length:Int))/\(↑d:Int).toNat<s.books.length/\∃(e:Nat×Top),aa z6 (xS s e.fst e.snd)=aa z6 (x7 s d)/\∃(f:Nat×Top->Prop),(((0:Int)<=(0:Int)/\0<(↑(2:Nat):Int))/\∃(g:Int),zE [[dI 1],[dI 2]] (Int.toNat 0) 0 1=au [dI g]/\∃(h:Book),s.books[(↑d:Int).toNat]?=au h/\∃(j:BkS),zC j.side=g/\z8 j.b=z8 h/\(vA j)/\∀(k:Unit),True->∃(l:Book),z8 j.b=z8 l/\dh ((↑d:Int).toNat)/\(↑d:Int).toNat<s.books.length/\cnd (zY j).snd ((qP d s e)/\(qP d s e)/\(qP d s e)/\(↑d:Int).toNat<(uJ s e).length/\(bP d s e)/\(bP d s e)/\dh ((zY j).fst.qty)/\dh ((zY j).fst.price)/\(↑d:Int).toNat<(b7 s e d).length/\(zAo d s e j)/\dh ((zY j).fst.qty)/\(↑d:Int).toNat<(cB s e d j).length/\∃(m:Nat×Top),aa z6 (xS s m.fst m.snd)=zX (cB s e d j) (↑d:Int).toNat 4 [dI (v8 j)]/\sP f m s d l) (zCj s e f d l))/\∀(g:Nat×Top),f g->∃(h:Nat×Top),aa z6 (xS s h.fst h.snd)=aa z6 (xS s g.fst g.snd)/\∃(j:Nat×Top->Prop),((fE)/\∃(k:Int),zE [[dI 1],[dI 2]] (aq.wrap ((0:Int)+(1:Int))).toNat 0 1=au [dI k]/\∃(l:Book),s.books[(↑d:Int).toNat]?=au l/\∃(m:BkS),zC m.side=k/\z8 m.b=z8 l/\(vA m)/\∀(n:Unit),True->∃(p:Book),z8 m.b=z8 p/\dh ((↑d:Int).toNat)/\(↑d:Int).toNat<s.books.length/\cnd (zY m).snd ((qP d s h)/\(qP d s h)/\(qP d s h)/\(↑d:Int).toNat<(uJ s h).length/\(bQ d s h)/\(bQ d s h)/\dh ((zY m).fst.qty)/\dh ((zY m).fst.price)/\(↑d:Int).toNat<(bR s h d).length/\(zAp d s h m)/\dh ((zY m).fst.qty)/\(↑d:Int).toNat<(dX s h d m).length/\∃(q:Nat×Top),aa z6 (xS s q.fst q.snd)=zX (dX s h d m) (↑d:Int).toNat 5 [dI (v8 m)]/\sP j q s d p) (zCj s h j d p))/\∀(k:Nat×Top),j k->∃(l:Nat),(↑l:Int)=aq.wrap ((↑d:Int)+1)/\aa z6 (x7 s l)=aa z6 (xS s k.fst k.snd)/\b l/\c l<c d/\dh (xR s 0)/\dh (xR s 1)/\dh (xR s 2)/\dh (xR s 3)/\dh (xR s 4)) (∃(e:Unit),dh (sb s.p.code)/\dh s.p.tick/\dh s.p.low/\dh s.p.high/\dh s.p.wide/\dh s.p.rule/\dh s.p.top/\dh s.p.least/\dh s.p.part/\af 197 Book 6 zP s.books av=xR s 1/\dh (yO s.wh)/\ae 1 (iE s.p.months)=xR s 3/\ae 1 (iE s.p.settle)=xR s 4/\aa z6 s.tops=aa z6 (x7 s d)/\True)
def zCh (a:MSt) (b:StI):Prop:=ae 1 (iE a.p.months)=ae 1 (iE b.s.p.months)/\ae 1 (iE a.p.settle)=ae 1 (iE b.s.p.settle)/\a.Rep b.p (kI b.B b.id b.q).fst
def zCp (a:MSt) (b:StI):Prop:=yO a.wh=yO b.s.wh/\zCh a b
def rA (a:StI) (b:Int) (c:Bool):Prop:=kK (Value.int aq a.id) (yO a.s.wh)=au [dI b]/\c=ap\/kK (Value.int aq a.id) (yO a.s.wh)=av/\[dI b]=[dI 0]/\c=ao
def aG (a:StI):Prop:=∀(b:Value×List D),b∈yO a.s.wh->like (Value.int aq a.id) b.fst=ap
def yDb (i:StI):Prop:=
 (aG i)/\∃(a:Bool),∃(b:Int),(rA i b a)/\cnd (!a) (∃(c:MSt),(kI i.B i.id i.q).snd=26/\sb c.p.code=sb i.s.p.code/\c.p.tick=i.s.p.tick/\c.p.low=i.s.p.low/\c.p.high=i.s.p.high/\c.p.wide=i.s.p.wide/\c.p.rule=i.s.p.rule/\c.p.top=i.s.p.top/\c.p.least=i.s.p.least/\c.p.part=i.s.p.part/\af 197 Book 6 zP c.books av=af 197 Book 6 zP i.s.books av/\zCp c i) ((0<=b/\b<(↑i.s.books.length:Int))/\b.toNat<i.s.books.length/\∃(c:Book),i.s.books[b.toNat]?=au c/\∃(d:FlI),d.id=i.id/\d.qty=i.q/\z8 d.b=z8 c/\d.b.Rep d.L/\∀(e:Book),e.Rep (x6 d.L d.id d.qty).fst->∃(f:Book),z8 e=z8 f/\dh b.toNat/\b.toNat<i.s.books.length/\(0<=b/\b<(↑(i.s.books.set b.toNat f).length:Int))/\b.toNat<(i.s.books.set b.toNat f).length/\∃(g:Book),(i.s.books.set b.toNat f)[b.toNat]?=au g/\∃(h:FlI),h.id=i.id/\z8 h.b=z8 g/\h.b.Rep h.L/\∀(j:Unit),True->∃(k:Book),z8 h.b=z8 k/\dh b.toNat/\b.toNat<(i.s.books.set b.toNat f).length/\cnd (!wM h.L h.id) ((aG i)/\∃(l:MSt),(kI i.B i.id i.q).snd=(x6 d.L d.id d.qty).snd/\sb l.p.code=sb i.s.p.code/\l.p.tick=i.s.p.tick/\l.p.low=i.s.p.low/\l.p.high=i.s.p.high/\l.p.wide=i.s.p.wide/\l.p.rule=i.s.p.rule/\l.p.top=i.s.p.top/\l.p.least=i.s.p.least/\l.p.part=i.s.p.part/\af 197 Book 6 zP l.books av=af 197 Book 6 zP ((i.s.books.set b.toNat f).set b.toNat k) av/\yO l.wh=zBi (Value.int aq i.id) (yO i.s.wh)/\zCh l i) (∃(l:MSt),(kI i.B i.id i.q).snd=(x6 d.L d.id d.qty).snd/\sb l.p.code=sb i.s.p.code/\l.p.tick=i.s.p.tick/\l.p.low=i.s.p.low/\l.p.high=i.s.p.high/\l.p.wide=i.s.p.wide/\l.p.rule=i.s.p.rule/\l.p.top=i.s.p.top/\l.p.least=i.s.p.least/\l.p.part=i.s.p.part/\af 197 Book 6 zP l.books av=af 197 Book 6 zP ((i.s.books.set b.toNat f).set b.toNat k) av/\zCp l i))
def y1q (i:BkL) (h:lad1C.cnd i):yPz i:=by
 obtain⟨Q,c,ht,hL⟩:i.b.Rep i.L:=h;have hsm:=c.small;obtain⟨⟨ha1,ha2⟩,hb1,hb2,hsp⟩:=id hsm;have hlad:=c.lad (.inl rfl);rw[<- hL]at hlad;have hlad:hU i.L (zC ao)=i.b.buys.map i.b.told:=hlad;unfold yPz zFf bS qU dI;simp only[hlad,y5c];refine⟨1,rfl,trivial,λ_ _=>Cv.cnd.mk (λe=>absurd e (by decide)) λ_=>⟨0,by(first|exact rfl|exact trivial),by(first|exact rfl|exact trivial),λj=>j<=i.b.buys.length,λj=>i.b.buys.length-j,y6i _,λj hj=>zI (λe=> ?_) (λe=> ?_)⟩⟩
 ·obtain⟨r,hr⟩:=yC (l:=i.b.buys) (i:=j) (by omega);have hi:=c.cnt;refine⟨⟨by omega,by omega⟩,r.price,r.queue,elA hr (by simp[zB]) rfl,⟨i.b.a,r.queue⟩,by(first|exact rfl|exact trivial),by(first|exact rfl|exact trivial),trivial,λ_ _=>⟨by(first|exact rfl|exact trivial),by(first|exact rfl|exact trivial),by(first|exact rfl|exact trivial),⟨i.b.a,r.queue⟩,by(first|exact rfl|exact trivial),by(first|exact rfl|exact trivial),by(first|exact rfl|exact trivial),λ_ _=>⟨by(first|exact rfl|exact trivial),by simp only[y5t,y5c];omega,j+1,wjn (by omega),?_,by omega,by dsimp only;omega,by(repeat'(first|exact trivial|exact rfl|apply ar))⟩⟩⟩;have hrt:(i.b.buys.map i.b.told)[j]? =au (i.b.told r):=by rw[y6q,hr];rfl
  rw[y6m,hrt];simp[lvE,Book.told]
 ·rw[y5n (by rw[y5c];omega)];exact⟨(),by(repeat'(first|exact trivial|exact rfl|apply ar))⟩
def yPc:lad1C.ok Tryz.prog 128:=okw mixed (gokc eL (gokc zGr (gokc nX gok0))) 1 (λ_=>[]) (λi=>y2k ao i) [0] Tryz.func128 y1q
def yZn (i:BkL) (h:lad2C.cnd i):yRm i:=by
 obtain⟨Q,c,ht,hL⟩:i.b.Rep i.L:=h;have hsm:=c.small;obtain⟨⟨ha1,ha2⟩,hb1,hb2,hsp⟩:=id hsm;have hlad:=c.lad (.inr rfl);rw[<- hL]at hlad;have hlad:hU i.L (zC ap)=i.b.sells.map i.b.told:=hlad;unfold yRm bW zFf qU dI;simp only[hlad,y5c];refine⟨2,rfl,trivial,λ_ _=>Cv.cnd.mk (λe=>absurd e (by decide)) λ_=>⟨0,by(first|exact rfl|exact trivial),by(first|exact rfl|exact trivial),λj=>j<=i.b.sells.length,λj=>i.b.sells.length-j,y6i _,λj hj=>zI (λe=> ?_) (λe=> ?_)⟩⟩
 ·obtain⟨r,hr⟩:=yC (l:=i.b.sells) (i:=j) (by omega);have hi:=c.cnt;refine⟨⟨by omega,by omega⟩,r.price,r.queue,elA hr (by simp[zB]) rfl,⟨i.b.a,r.queue⟩,by(first|exact rfl|exact trivial),by(first|exact rfl|exact trivial),trivial,λ_ _=>⟨by(first|exact rfl|exact trivial),by(first|exact rfl|exact trivial),by(first|exact rfl|exact trivial),⟨i.b.a,r.queue⟩,by(first|exact rfl|exact trivial),by(first|exact rfl|exact trivial),by(first|exact rfl|exact trivial),λ_ _=>⟨by(first|exact rfl|exact trivial),by simp only[y5t,y5c];omega,j+1,wjn (by omega),?_,by omega,by dsimp only;omega,by(repeat'(first|exact trivial|exact rfl|apply ar))⟩⟩⟩;have hrt:(i.b.sells.map i.b.told)[j]? =au (i.b.told r):=by rw[y6q,hr];rfl
  rw[y6m,hrt];simp[lvE,Book.told]
 ·rw[y5n (by rw[y5c];omega)];exact⟨(),by(repeat'(first|exact trivial|exact rfl|apply ar))⟩
def yNr:lad2C.ok Tryz.prog 128:=okw mixed (gokc eL (gokc zGr (gokc nX gok0))) 1 (λ_=>[]) (λi=>y2k ap i) [0] Tryz.func128 yZn
def yXm:ladC.ok Tryz.prog 128:=λj=>match j with
 |⟨b,L,ao⟩=>yPc ⟨b,L⟩
 |⟨b,L,ap⟩=>yNr ⟨b,L⟩
def yVm (s:MSt) (h:topsOC.cnd s):yEq s:=by
 obtain⟨h1,h2⟩:s.cntOk:=h;unfold yEq v8 qP vA fE bP bQ zAw zAo cB b7 zAp dX dN zY bR uJ zCj sP dI;have p48:(2:Int) ^ (48:Nat)=281474976710656:=by decide
 refine⟨⟨by omega,by omega,by omega,by rw[p48];omega⟩,0,rfl,?_,λj=>j<=s.books.length,λj=>s.books.length-j,by omega,λj hj=>zI (λhlt=> ?_) (λhlt=> ?_)⟩
 ·rw[x7,y5l,List.map_replicate];rfl
 ·have hj':j<s.books.length:=by omega
  obtain⟨b,hb⟩:=yC hj';have hc:=h2 b (y5m hb);simp only[y5u];have ha:∀x,(aa z6 (xS s j x)).length=s.books.length:=λx=>by rw[y5c,zOe hj']
  have w1:aq.wrap (0+1)=1:=by decide
  have w2:(0+1) % ((2:Int) ^ aq.bits).natAbs=1:=by decide
  refine⟨⟨by omega,by omega⟩,by omega,(j,top0),by rw[zJu hj'],λx=>x=(j,top0.buy (b.best b.buys)),⟨⟨by decide,by decide⟩,1,rfl,b,hb,⟨ao,b⟩,rfl,rfl,hc,λ_ _=>⟨b,rfl,kpp,by omega,?_⟩⟩,?_⟩
  ·refine Cv.cnd.mk (λc=> ?_) (λc=> ?_)
   ·have c:(b.best b.buys).2=ap:=c;have e1:=qV (s:=s) hj' (x:=top0) (y:={top0 with has1:=ap}) (f:=0+0+0*1) (ds:=[D.v (.bool ap)]) rfl;have e2:=qV (s:=s) hj' (x:={top0 with has1:=ap}) (y:={top0 with has1:=ap,p1:=(b.best b.buys).1.price}) (f:=0+2+0*1) (ds:=[D.v (.int .i64 (b.best b.buys).1.price)]) rfl;have e3:=qV (s:=s) hj' (x:={top0 with has1:=ap,p1:=(b.best b.buys).1.price}) (y:={top0 with has1:=ap,p1:=(b.best b.buys).1.price,q1:=(b.best b.buys).1.qty}) (f:=0+4+0*1) (ds:=[D.v (.int .i64 (b.best b.buys).1.qty)]) rfl;dsimp only;simp only[show b.side ao=b.buys from rfl,e1,e2,e3,ha]
    (repeat'(first|exact rfl|exact trivial|assumption|apply ar|refineλ(_:Unit) (_:True)=>?_|refine aw () ?_|omega|(dsimp only;omega)))
    refine⟨(j,{top0 with has1:=ap,p1:=(b.best b.buys).1.price,q1:=(b.best b.buys).1.qty}),rfl,?_,?_⟩
    ·rw[Top.buy,y5d c]
    ·(repeat'(first|exact rfl|exact trivial|assumption|apply ar|refineλ(_:Unit) (_:True)=>?_|refine aw () ?_|omega|(dsimp only;omega)))
     rw[fS hb];rfl
   ·have c:(b.best b.buys).2=ao:=c;refine⟨(j,top0),rfl,?_,?_⟩
    ·rw[Top.buy,y5b (by rw[c];simp)]
    ·(repeat'(first|exact rfl|exact trivial|assumption|apply ar|refineλ(_:Unit) (_:True)=>?_|refine aw () ?_|omega|(dsimp only;omega)))
     rw[fS hb];rfl
  ·rintro _ rfl;rw[w1];generalize hx:top0.buy (b.best b.buys)=x;have hx2:b.top=x.sell (b.best b.sells):=by rw[Book.top,hx]
   refine⟨(j,x),rfl,λy=>y=(j,b.top),⟨⟨by decide,by decide⟩,2,rfl,b,hb,⟨ap,b⟩,rfl,rfl,hc,λ_ _=>⟨b,rfl,kpp,by omega,?_⟩⟩,?_⟩
   ·refine Cv.cnd.mk (λc=> ?_) (λc=> ?_)
    ·have c:(b.best b.sells).2=ap:=c;have e1:=qV (s:=s) hj' (x:=x) (y:={x with has2:=ap}) (f:=0+0+1*1) (ds:=[D.v (.bool ap)]) rfl;have e2:=qV (s:=s) hj' (x:={x with has2:=ap}) (y:={x with has2:=ap,p2:=(b.best b.sells).1.price}) (f:=0+2+1*1) (ds:=[D.v (.int .i64 (b.best b.sells).1.price)]) rfl;have e3:=qV (s:=s) hj' (x:={x with has2:=ap,p2:=(b.best b.sells).1.price}) (y:={x with has2:=ap,p2:=(b.best b.sells).1.price,q2:=(b.best b.sells).1.qty}) (f:=0+4+1*1) (ds:=[D.v (.int .i64 (b.best b.sells).1.qty)]) rfl;dsimp only;simp only[w2,show b.side ap=b.sells from rfl,e1,e2,e3,ha]
     (repeat'(first|exact rfl|exact trivial|assumption|apply ar|refineλ(_:Unit) (_:True)=>?_|refine aw () ?_|omega|(dsimp only;omega)))
     refine⟨(j,{x with has2:=ap,p2:=(b.best b.sells).1.price,q2:=(b.best b.sells).1.qty}),rfl,?_,?_⟩
     ·rw[hx2,Top.sell,y5d c]
     ·(repeat'(first|exact rfl|exact trivial|assumption|apply ar|refineλ(_:Unit) (_:True)=>?_|refine aw () ?_|omega|(dsimp only;omega)))
      rw[fS hb];rfl
    ·have c:(b.best b.sells).2=ao:=c;refine⟨(j,x),rfl,?_,?_⟩
     ·rw[hx2,Top.sell,y5b (by rw[c];simp)]
     ·(repeat'(first|exact rfl|exact trivial|assumption|apply ar|refineλ(_:Unit) (_:True)=>?_|refine aw () ?_|omega|(dsimp only;omega)))
      rw[fS hb];rfl
   ·rintro _ rfl;refine⟨j+1,by rw[w64 (by omega)];rfl,?_⟩;refine⟨by dsimp only;rw[zKb hb],?_⟩;exact kpp
 ·have hj:j<=s.books.length:=hj;obtain rfl:j=s.books.length:=by omega
  have e:x7 s s.books.length=s.tops:=by
   rw[x7,xAp,List.replicate_zero,y6a,y5n (by rw[MSt.tops,y5c];omega)]
  rw[e];exact kpp
def z0p:topsOC.ok Tryz.prog 76:=okw mixed (gokc zKq gok0) 0 (λs=>ySc s) (λs=>yRa s) [] Tryz.func76 yVm
def yUr (i:StI) (h:stakeC.cnd i):yDb i:=by
 obtain⟨hR,hB⟩:i.s.Rep i.p i.B/\i.B.length<=1000:=h;have hat:=hR.at_ i.id;unfold yDb aG rA zCp zCh dI;cases hi:mM i.B i.id with
 |none=>
  rw[hi]at hat;refine⟨dR _ _,ao,0,.inr ⟨by rw[pL,hat];rfl,rfl,rfl⟩,Cv.cnd.mk (λ_=>⟨i.s,?_⟩) (λe=>absurd e (by decide))⟩;have ht:kI i.B i.id i.q=(i.B,26):=by rw[kI,hi]
  rw[ht];exact⟨rfl,rfl,rfl,rfl,rfl,rfl,rfl,rfl,rfl,rfl,rfl,rfl,rfl,rfl,hR⟩
 |some k=>
  rw[hi]at hat;obtain⟨L,hL,hh⟩:=gE hi;have hk:=(y5f.1 hL).1;obtain⟨b,hb⟩:=yC (l:=i.s.books) (i:=k) (by rw[hR.bl];exact hk);have hbR:=hR.bk k b L hb hL;have hbl:=hR.bl;have hnd:=hbR.ords.2.1;refine⟨dR _ _,ap,k,.inl ⟨by rw[pL,hat];rfl,rfl⟩,Cv.cnd.mk (λe=>absurd e (by decide)) (λ_=> ?_)⟩;rw[y5u];refine⟨⟨by omega,by omega⟩,by omega,b,hb,⟨b,L,i.id,i.q⟩,rfl,rfl,rfl,hbR,λb' hb'=> ?_⟩;have hT:=hR.take (q:=i.q) hi hL hnd hb';have hk2:(kI i.B i.id i.q).2=(x6 L i.id i.q).2:=by simp only[kI,hi,zU hL]
  refine⟨b',rfl,rfl,by omega,by rw[y6j];omega,by rw[y6j];omega,b',fV (by omega),⟨b',(x6 L i.id i.q).1,i.id,0⟩,rfl,rfl,hb',λ_ _=>⟨b',rfl,rfl,by rw[y6j];omega,Cv.cnd.mk (λe=>⟨dR _ _,?_⟩) (λe=> ?_)⟩⟩
  ·have e:wM (x6 L i.id i.q).1 i.id=ao:=by simpa using e
   rw[e,y5b (by decide)]at hT;refine⟨{i.s with books:=i.s.books.set k b',wh:=z1f i.id i.s.wh},hk2,rfl,rfl,rfl,rfl,rfl,rfl,rfl,rfl,rfl,?_,(z1e _ _).symm,rfl,rfl,hT⟩;rw[y9f]
  ·have e:wM (x6 L i.id i.q).1 i.id=ap:=by simpa using e
   rw[e,y5d rfl]at hT;refine⟨{i.s with books:=i.s.books.set k b',wh:=i.s.wh},hk2,rfl,rfl,rfl,rfl,rfl,rfl,rfl,rfl,rfl,?_,rfl,rfl,rfl,hT⟩;rw[y9f]
def zEx:stakeC.ok Tryz.prog 169:=okw mixed (gokc yKt (gokc zXd gok0)) 0 (λ_=>[]) (λ_=>[]) [0] Tryz.func169 yUr
structure BOk (p:Prd) (B:List (List zH)):Prop where
 pc:p.check=0
 ps:p.small
 bl:B.length=p.count
 pr:∀(k:Nat) (L:List zH),B[k]? =au L->∀o∈L,p.price k o.price=0
def motherC:Con:=con1 Bool (λb=>[zA (zC b)]) (λ_=>[]) (λ_=>True) (λb=>zA (zC (!b))) (λ_=>[])
def cY (s:Bool) (p x:Int):Bool:=if s then decide (p<=x)else decide (x<=p)
structure GoI where
 s:Bool
 p:Int
 x:Int
def mgoodC:Con:=con1 GoI (λi=>[zA (zC i.s),zA i.p,zA i.x]) (λ_=>[]) (λ_=>True) (λi=>yP (cY i.s i.p i.x)) (λ_=>[])
def yR (p:Prd) (B:List (List zH)) (inst:Int) (s:Int):Quote×Bool×Bool:=
 let bq:=zW (xX ⟨p,B.map qW,inst⟩ s) s
 let l:=bestL (B.getD inst.toNat []) s
 if(l.2 && !(bq.2 && btr s bq.1.price l.1.price))=ap then(⟨l.1.price,l.1.qty,⟨0,0⟩,⟨0,0⟩⟩,ao,ap)else(bq.1,bq.2,bq.2)
structure NxI where
 s:MSt
 p:Prd
 B:List (List zH)
 inst:Int
 sd:Bool
def nextC:Con:=con1 NxI (λi=>[.nm 0 0,zA i.inst,zA (zC i.sd)]) (λi=>[zD i.s]) (λi=>i.s.Rep i.p i.B/\BOk i.p i.B/\0<=i.inst/\i.inst<i.B.length)
 (λi=> .tup [zTz (yR i.p i.B i.inst (zC i.sd)).1,yP (yR i.p i.B i.inst (zC i.sd)).2.1,yP (yR i.p i.B i.inst (zC i.sd)).2.2]) (λi=>[zD i.s])
structure cK where
 id:Int
 inst:Int
 side:Int
 price:Int
 qty:Int
 left:Int
 deriving DecidableEq
def yV (f:cK):List D:=[.v (.int .i64 f.id),.v (.int .i64 f.inst),.v (.int .i64 f.side),.v (.int .i64 f.price),.v (.int .i64 f.qty),.v (.int .i64 f.left)]
def xY (inst s:Int):List zH->List Int->List cK
 |o::os,k::ks=>if 0<k then⟨o.id,inst,s,o.price,k,o.qty-k⟩::xY inst s os ks else xY inst s os ks
 |_,_=>[]
def kW (B:List (List zH)) (fs:List cK):List (List zH):=fs.foldl (λB f=>(kI B f.id f.qty).1) B
def zWd (B:List (List zH)) (inst s:Int):List zH:=atL (B.getD inst.toNat []) s (bestL (B.getD inst.toNat []) s).1.price
def qT (p:Prd) (B:List (List zH)) (inst s q:Int):List cK:=xY inst s (zWd B inst s) (kE ⟨p,zWd B inst s,q⟩)
structure TrI where
 s:MSt
 p:Prd
 B:List (List zH)
 inst:Int
 sd:Bool
 q:Int
def TrI.os (i:TrI):List zH:=zWd i.B i.inst (zC i.sd)
def TrI.sh (i:TrI):List Int:=kE ⟨i.p,i.os,i.q⟩
def TrI.fs (i:TrI) (j:Nat):List cK:=xY i.inst (zC i.sd) (i.os.take j) (i.sh.take j)
def tradeC:Con where
 ι:=TrI
 pat:=λi=>[.nm 0 0,.agg [zA i.inst,zA (zC i.sd)],zA i.q]
 pre:=λi=>[zD i.s]
 cnd:=λi=>i.s.Rep i.p i.B/\BOk i.p i.B/\0<=i.inst/\i.inst<i.B.length/\i64r i.q
 alts:=λi=>[{o:=MSt,res:=λ_=> .own 1,post:=λs=>[zD s,.own 302 6 ((qT i.p i.B i.inst (zC i.sd) i.q).map yV)],rel:=λs=>s.Rep i.p (kW i.B (qT i.p i.B i.inst (zC i.sd) i.q))}]
def ySw (i:TrI):List SAnn:=[{ι:=Nat×MSt,slots:=λj=>[(0,.nm 0 0),(11,.own 1),(44,zA j.1)],rows:=λj=>[zD j.2,.own 302 6 ((i.fs j.1).map yV)]}]
def z8q (b:Bool):Prop:=
 ∃(a:Unit),(zC !b)=aq.wrap (3-zC b)/\True
def yIo (i:GoI):Prop:=
 cnd (zC i.s==1) (cnd (decide (i.x<=i.p)) (∃(a:Unit),cY i.s i.p i.x=ap/\True) (cnd (zC i.s==2) (∃(a:Unit),cY i.s i.p i.x=decide (i.x>=i.p)/\True) (∃(a:Unit),cY i.s i.p i.x=ao/\True))) (cnd (zC i.s==2) (∃(a:Unit),cY i.s i.p i.x=decide (i.x>=i.p)/\True) (∃(a:Unit),cY i.s i.p i.x=ao/\True))
def zGl (a:MSt) (b:NxI):Prop:=sb a.p.code=sb b.s.p.code/\True/\a.p.tick=b.s.p.tick/\a.p.low=b.s.p.low/\a.p.high=b.s.p.high/\a.p.wide=b.s.p.wide/\a.p.rule=b.s.p.rule/\a.p.top=b.s.p.top/\a.p.least=b.s.p.least/\a.p.part=b.s.p.part/\True/\True
def dJ (a:BsI):Prop:=(a.s=1\/a.s=2)/\a.l.length<=1000000
def zId (a:NxI) (b:MSt) (c:Book):Prop:=sb a.s.p.code=sb b.p.code/\a.s.p.tick=b.p.tick/\a.s.p.low=b.p.low/\a.s.p.high=b.p.high/\a.s.p.wide=b.p.wide/\a.s.p.rule=b.p.rule/\a.s.p.top=b.p.top/\a.s.p.least=b.p.least/\a.s.p.part=b.p.part/\af 197 Book 6 zP a.s.books av=af 197 Book 6 zP (b.books.set a.inst.toNat c) av/\yO a.s.wh=yO b.wh/\ae 1 (iE a.s.p.months)=ae 1 (iE b.p.months)/\ae 1 (iE a.s.p.settle)=ae 1 (iE b.p.settle)/\True
def yA (a:NxI):=(yR a.p a.B a.inst (zC a.sd))
def zNr (a:NxI) (b:BsI) (c:MSt) (d:Book):Prop:=∃(e:Unit),(yA a).fst.price=(zW b.l b.s).fst.price/\(yA a).fst.qty=(zW b.l b.s).fst.qty/\(yA a).fst.a.inst=(zW b.l b.s).fst.a.inst/\(yA a).fst.a.side=(zW b.l b.s).fst.a.side/\(yA a).fst.b.inst=(zW b.l b.s).fst.b.inst/\(yA a).fst.b.side=(zW b.l b.s).fst.b.side/\(yA a).snd.fst=(zW b.l b.s).snd/\(yA a).snd.snd=(zW b.l b.s).snd/\zId a c d
def zOk (a:NxI) (b:BkS) (c:MSt) (d:Book):Prop:=∃(e:Unit),(yA a).fst.price=(zY b).fst.price/\(yA a).fst.qty=(zY b).fst.qty/\(yA a).fst.a.inst=0/\(yA a).fst.a.side=0/\(yA a).fst.b.inst=0/\(yA a).fst.b.side=0/\(yA a).snd.fst=ao/\(yA a).snd.snd=ap/\zId a c d
def zLl (a:tW) (b:NxI) (c:MSt):Prop:=∃(d:BsI),aa zJ d.l=aa zJ (xX a.i (zC a.s))/\d.s=zC b.sd/\(dJ d)/\∀(e:Unit),True->(0<=b.inst/\b.inst<(↑c.books.length:Int))/\b.inst.toNat<c.books.length/\∃(f:Book),c.books[b.inst.toNat]?=au f/\∃(g:BkS),zC g.side=zC b.sd/\z8 g.b=z8 f/\(vA g)/\∀(h:Unit),True->∃(j:Book),z8 g.b=z8 j/\dh b.inst.toNat/\b.inst.toNat<c.books.length/\cnd (zY g).snd (cnd (zW d.l d.s).snd (∃(k:I3'),k.side=zC b.sd/\k.x=(zW d.l d.s).fst.price/\k.y=(zY g).fst.price/\True/\∀(l:Unit),True->cnd (!btr k.side k.x k.y) (zOk b g c j) (zNr b d c j)) (zOk b g c j)) (zNr b d c j)
def zVm (a:MSt) (b:NxI):Prop:=(zGl a b)/\∃(c:tW),sb c.i.p.code=sb b.s.p.code/\iE c.i.p.months=iE a.p.months/\c.i.p.tick=b.s.p.tick/\c.i.p.low=b.s.p.low/\c.i.p.high=b.s.p.high/\c.i.p.wide=b.s.p.wide/\c.i.p.rule=b.s.p.rule/\c.i.p.top=b.s.p.top/\c.i.p.least=b.s.p.least/\c.i.p.part=b.s.p.part/\iE c.i.p.settle=iE a.p.settle/\aa z6 c.i.tops=aa z6 a.tops/\c.i.inst=b.inst/\zC c.s=zC b.sd/\(kF c)/\∀(d:Unit),True->zLl c b a
def dE (a:MSt):Prop:=a.books.length<=1000000/\∀(b:Book),b∈a.books->∀(c:cJ),c∈b.a.queues->(-9223372036854775808)<=c.count/\c.count<=9223372036854775807
def yRv (i:NxI):Prop:=
 (∃(a:MSt),sb a.p.code=sb i.s.p.code/\a.p.tick=i.s.p.tick/\a.p.low=i.s.p.low/\a.p.high=i.s.p.high/\a.p.wide=i.s.p.wide/\a.p.rule=i.s.p.rule/\a.p.top=i.s.p.top/\a.p.least=i.s.p.least/\a.p.part=i.s.p.part/\af 197 Book 6 zP a.books av=af 197 Book 6 zP i.s.books av/\yO a.wh=yO i.s.wh/\ae 1 (iE a.p.months)=ae 1 (iE i.s.p.months)/\ae 1 (iE a.p.settle)=ae 1 (iE i.s.p.settle)/\(dE a)/\∀(b:Unit),True->(zGl a i)/\(∃(c:tW),sb c.i.p.code=sb i.s.p.code/\iE c.i.p.months=iE a.p.months/\c.i.p.tick=i.s.p.tick/\c.i.p.low=i.s.p.low/\c.i.p.high=i.s.p.high/\c.i.p.wide=i.s.p.wide/\c.i.p.rule=i.s.p.rule/\c.i.p.top=i.s.p.top/\c.i.p.least=i.s.p.least/\c.i.p.part=i.s.p.part/\iE c.i.p.settle=iE a.p.settle/\aa z6 c.i.tops=aa z6 a.tops/\c.i.inst=i.inst/\zC c.s=zC i.sd/\(kF c)/\∀(d:Unit),True->(zLl c i a)/\zLl c i a)/\zVm a i)/\(dh (sb i.s.p.code)/\True/\dh i.s.p.tick/\dh i.s.p.low/\dh i.s.p.high/\dh i.s.p.wide/\dh i.s.p.rule/\dh i.s.p.top/\dh i.s.p.least/\dh i.s.p.part/\True/\True)/\∃(a:MSt),sb a.p.code=sb i.s.p.code/\a.p.tick=i.s.p.tick/\a.p.low=i.s.p.low/\a.p.high=i.s.p.high/\a.p.wide=i.s.p.wide/\a.p.rule=i.s.p.rule/\a.p.top=i.s.p.top/\a.p.least=i.s.p.least/\a.p.part=i.s.p.part/\af 197 Book 6 zP a.books av=af 197 Book 6 zP i.s.books av/\yO a.wh=yO i.s.wh/\ae 1 (iE a.p.months)=ae 1 (iE i.s.p.months)/\ae 1 (iE a.p.settle)=ae 1 (iE i.s.p.settle)/\(dE a)/\∀(b:Unit),True->zVm a i
def aN (a:AtI):=(aa wW (atL a.L (zC a.s) a.price))
def zIs (a:Nat×MSt->Prop) (b:Nat×MSt) (c:Nat×MSt->Nat) (d:Nat×MSt) (e:AlI) (f:AtI) (g:BkS) (h:TrI):Prop:=a b/\c b<c d/\dh (ak 2 1 (iE (kE e)))/\dh (ae 5 (aN f))/\dh (aj [V.d (dI (dN g)),V.d (dI (v8 g)),V.d (dI ((zY g).fst.count))] 127)/\dh (aj [V.d (dI h.inst),V.d (dI (zC h.sd))] 169)/\dh (ae 1 (iE h.s.p.months))/\dh (ae 1 (iE h.s.p.settle))
def gK (a:TrI):=(qT a.p a.B a.inst (zC a.sd) a.q)
def dL (a:TrI):=(kW a.B (gK a))
def yIq (i:TrI):Prop:=
 (0<=i.inst/\i.inst<(↑i.s.books.length:Int))/\i.inst.toNat<i.s.books.length/\∃(a:Book),i.s.books[i.inst.toNat]?=au a/\∃(b:BkS),zC b.side=zC i.sd/\z8 b.b=z8 a/\(vA b)/\∀(c:Unit),True->∃(d:Book),z8 b.b=z8 d/\dh i.inst.toNat/\i.inst.toNat<i.s.books.length/\∃(e:Book),(i.s.books.set i.inst.toNat d)[i.inst.toNat]?=au e/\∃(f:AtI),zC f.s=zC i.sd/\f.price=(zY b).fst.price/\z8 f.b=z8 e/\f.b.Rep f.L/\∀(g:Unit),True->∃(h:Book),z8 f.b=z8 h/\dh i.inst.toNat/\i.inst.toNat<(i.s.books.set i.inst.toNat d).length/\∃(j:AlI),sb j.p.code=sb i.s.p.code/\iE j.p.months=iE i.s.p.months/\j.p.tick=i.s.p.tick/\j.p.low=i.s.p.low/\j.p.high=i.s.p.high/\j.p.wide=i.s.p.wide/\j.p.rule=i.s.p.rule/\j.p.top=i.s.p.top/\j.p.least=i.s.p.least/\j.p.part=i.s.p.part/\iE j.p.settle=iE i.s.p.settle/\aa wW j.l=aa wW (atL f.L (zC f.s) f.price)/\j.q=i.q/\(j.l.length<=1000/\((-9223372036854775808)<=j.q/\j.q<=9223372036854775807)/\((-9223372036854775808)<=j.p.least/\j.p.least<=9223372036854775807)/\((-9223372036854775808)<=j.p.top/\j.p.top<=9223372036854775807)/\(-9223372036854775808)<=j.p.part/\j.p.part<=9223372036854775807)/\∀(k:Unit),True->∃(l:Nat×MSt),(↑l.fst:Int)=0/\sb l.snd.p.code=sb i.s.p.code/\l.snd.p.tick=i.s.p.tick/\l.snd.p.low=i.s.p.low/\l.snd.p.high=i.s.p.high/\l.snd.p.wide=i.s.p.wide/\l.snd.p.rule=i.s.p.rule/\l.snd.p.top=i.s.p.top/\l.snd.p.least=i.s.p.least/\l.snd.p.part=i.s.p.part/\af 197 Book 6 zP l.snd.books av=af 197 Book 6 zP ((i.s.books.set i.inst.toNat d).set i.inst.toNat h) av/\yO l.snd.wh=yO i.s.wh/\ae 1 (iE l.snd.p.months)=ae 1 (iE i.s.p.months)/\ae 1 (iE l.snd.p.settle)=ae 1 (iE i.s.p.settle)/\aa yV (i.fs l.fst)=[]/\∃(m:Nat×MSt->Prop),∃(n:Nat×MSt->Nat),m l/\∀(p:Nat×MSt),m p->cnd (decide ((↑p.fst:Int)<(↑(iE (kE j)).length:Int))) ((0<=(↑p.fst:Int)/\(↑p.fst:Int)<(↑(iE (kE j)).length:Int))/\∃(q:Int),zE (iE (kE j)) (↑p.fst:Int).toNat 0 1=au [dI q]/\cnd (decide (q>0)) ((0<=(↑p.fst:Int)/\(↑p.fst:Int)<(↑(aN f).length:Int))/\∃(r:Int),∃(s:Int),∃(t:Int),∃(u:Int),∃(v:Bool),zE (aN f) (↑p.fst:Int).toNat 0 5=au [dI r,dI s,dI t,dI u,D.v (.bool v)]/\∃(w:StI),w.id=r/\w.q=q/\zD w.s=zD p.snd/\(w.s.Rep w.p w.B/\w.B.length<=1000)/\∀(x:MSt),x.Rep w.p (kI w.B w.id w.q).fst->((aa yV (i.fs p.fst)).length+1)*(48:Nat)<=(140737488355328:Nat)/\∃(y:Nat×MSt),(↑y.fst:Int)=aq.wrap ((↑p.fst:Int)+1)/\zD y.snd=zD x/\aa yV (i.fs y.fst)=aa yV (i.fs p.fst)++[[dI r,dI i.inst,dI (zC i.sd),dI t,dI q,dI (aq.wrap (u-q))]]/\zIs m y n p j f b i) (∃(r:Nat×MSt),(↑r.fst:Int)=aq.wrap ((↑p.fst:Int)+1)/\zD r.snd=zD p.snd/\aa yV (i.fs r.fst)=aa yV (i.fs p.fst)/\zIs m r n p j f b i)) (∃(q:MSt),zD q=zD p.snd/\aa yV (gK i)=aa yV (i.fs p.fst)/\q.Rep i.p (dL i))
def lC {p:Prd} (hc:p.check=0) {k v:Int} (h:p.price k v=0): -2000000<=v/\v<=2000000:=by
 have ok:=kD hc;have:=ok.b1;have:=ok.b2;have:=ok.b3;have:=ok.b4;have:=ok.b5;rw[Prd.price]at h;by_cases c1:p.count=0
 ·rw[y5d c1]at h;cases h
 by_cases c2:k<0\/(p.count:Int)<=k
 ·rw[y5b c1,y5d c2]at h;cases h
 cases c3:qN p.tick v with
 |true=>rw[y5b c1,y5b c2,y5d c3]at h;cases h
 |false=>
  rw[y5b c1,y5b c2,y5b (by rw[c3];decide)]at h;by_cases c4:(p.months.length:Int)<=k
  ·simp only[y5d c4]at h;by_cases c5:v< -p.wide\/p.wide<v
   ·rw[y5d c5]at h;cases h
   ·omega
  ·simp only[y5b c4]at h;by_cases c5:v<p.low\/p.high<v
   ·rw[y5d c5]at h;cases h
   ·omega
def lR {t:Int} (k:Int):qN t (t*k)=ao:=by
 simp[qN,Int.mul_tmod_right]
def zJx (x:Prd):(kprod x).small:=by
 have:=yJm x;refine⟨by simp[kprod],?_,?_⟩
 ·show(qI _).length<=_;rw[tU];omega
 ·show(kB _ _).length<=_;rw[mW];omega
def mV (x:Prd):(kprod x).check=0:=by
 have ht:=zDz x;have hn:=yJm x;have hw:=yS (n:=x.wide) (lo:=0) (hi:=60) (by omega);have hr:=yS (n:=x.rule) (lo:=0) (hi:=2) (by omega);have ho:=yS (n:=x.top) (lo:=0) (hi:=9) (by omega);have hl:=yS (n:=x.least) (lo:=0) (hi:=4) (by omega);have hp:=yS (n:=x.part) (lo:=0) (hi:=100) (by omega);have h1:wD (kprod x).code=ap:=by show wD [206,169]=ap;decide+kernel
 obtain⟨k,hk,hk1⟩:∃k:Nat,(kN x).toNat=k/\(2<=k/\k<=5):=⟨_,rfl,by omega⟩
 have h2:xF (kprod x).months=ap:=by
  show xF (qI (kN x).toNat)=ap;rw[hk];have:k=2\/k=3\/k=4\/k=5:=by omega
  rcases this with rfl|rfl|rfl|rfl<;>decide
 have h3:qL (kprod x)=ap:=by
  have a:qN (zT x) (-20*zT x)=ao:=by rw[y9o];exact lR _
  have b:qN (zT x) (100*zT x)=ao:=by rw[y9o];exact lR _
  have c:(kB (zT x) (kN x).toNat).any (qN (zT x))=ao:=by
   rw[xBh];intro y hy;obtain⟨j,_,rfl⟩:=y6n.1 hy;rw[lR];decide
  simp only[qL,kprod,a,b,c,lR,xAd,Bool.and_true,y5o];exact⟨y5s (by omega),y5s (by omega)⟩
 have mw:=eW (a:=zT x) (b:=5+zF x.wide 0 60) (m:=zT x) (n:=65) (by omega) (by omega);have h4:qJ (kprod x)=ao:=by
  simp only[qJ,kprod,y9i];exact⟨⟨⟨⟨y5q (by omega),y5q (by omega)⟩,y5q (by omega)⟩,y5q (by omega)⟩,y5q (by omega)⟩
 have h5:xI (kprod x)=ao:=by
  have e:(kB (zT x) (kN x).toNat).length=(qI (kN x).toNat).length:=by rw[mW,tU]
  have ne:kB (zT x) (kN x).toNat≠[]:=by
   intro hc;have:=mW (zT x) (kN x).toNat;rw[hc]at this;simp at this;omega
  have bd:∀y∈kB (zT x) (kN x).toNat,0<=y/\y<=zT x*15:=by
   intro y hy;obtain⟨j,hj,rfl⟩:=y6n.1 hy;have:=y8b.1 hj;exact eW (by omega) (by omega)
  have m1:=bd _ (zZk ne);have m2:=bd _ (zWv ne);simp only[xI,kprod,e,ne_eq,not_true_eq_false,decide_false,xAx,y9i];exact⟨y5q (by omega),y5q (by omega)⟩
 have h6:kC (kprod x)=ao:=by
  simp only[kC,kprod,y9i];exact⟨y5q (by omega),y5q (by omega)⟩
 have h7:x5 (kprod x)=ao:=by
  simp only[x5,kprod,y9i];exact⟨⟨⟨⟨⟨y5q (by omega),y5q (by omega)⟩,y5q (by omega)⟩,y5q (by omega)⟩,y5q (by omega)⟩,y5q (by omega)⟩
 rw[Prd.check,h1,h2,h3,h4,h5,h6,h7];rfl
structure zUt (qs sh:List Int) (q:Int):Prop where
 len:sh.length=qs.length
 bd:∀n,0<=sh.getD n 0/\sh.getD n 0<=qs.getD n 0
 sum:sh.sum=q
def yFf:∀{l:List Int},(∀x∈l,0<=x)->0<=l.sum
 |[],_=>y8p 0
 |a::l,h=>by
  have:=yFf (l:=l) λx hx=>h x (y5j _ hx)
  have:=h a y5h;rw[y6s];omega
def z6d:∀{z:List (Int×Int)},(∀y∈z,0<=y.2/\y.2<=y.1)->(z.map (·.2)).sum<=(z.map (·.1)).sum
 |[],_=>y8p 0
 |a::l,h=>by
  have:=z6d (z:=l) λx hx=>h x (y5j _ hx)
  have:=h a y5h;rw[y5p,y5p,y6s,y6s];omega
def eJ:∀(l:List Int) (q:Int),(∀x∈l,0<=x)->0<=q->q<=l.sum->zUt l (uR l q) q
 |[],q,_,h0,h1=>⟨rfl,λn=>by simp[uR],by simp at h1;simp[uR];omega⟩
 |n::l,q,h,h0,h1=>by
  have hn:=h n y5h;rw[y6s]at h1;have:=yFf λx hx=>h x (y5j _ hx)
  have ih:=eJ l (q-min n q) (λx hx=>h x (y5j _ hx)) (by omega) (by omega);refine⟨by rw[uR,y5g,y5g,ih.len],λk=> ?_,by rw[uR,y6s,ih.sum];omega⟩;cases k with
  |zero=>exact⟨by show 0<=min n q;omega,by show min n q<=n;omega⟩
  |succ k=>exact ih.bd k
def zBq:∀(z:List (Int×Int)) (q:Int),(∀y∈z,0<=y.2/\y.2<=y.1)->0<=q->q<=(z.map (·.1)).sum-(z.map (·.2)).sum->(wF z q).length=z.length/\(∀n,0<=(wF z q).getD n 0/\(wF z q).getD n 0<=(z.map (·.1)).getD n 0)/\(wF z q).sum=(z.map (·.2)).sum+q
 |[],q,_,h0,h1=>⟨rfl,λn=>by simp[wF],by simp at h1;simp[wF];omega⟩
 |(n,x)::r,q,h,h0,h1=>by
  have hn:=h (n,x) y5h;simp only[y5p,y6s]at h1;have:=z6d λy hy=>h y (y5j _ hy)
  have ih:=zBq r (q-min (n-x) q) (λy hy=>h y (y5j _ hy)) (by omega) (by omega);refine⟨by rw[wF,y5g,y5g,ih.1],λk=> ?_,by rw[wF,y6s,ih.2.2,y5p,y6s];omega⟩;cases k with
  |zero=>exact⟨by show 0<=x+min (n-x) q;have:=hn.1;have:=hn.2;dsimp only at*;omega,by show x+min (n-x) q<=n;have:=hn.2;dsimp only at*;omega⟩
  |succ k=>exact ih.2.1 k
def yEv {l:List Int} {q:Int} (h1:l.length<=250) (h2:0<=q) (h3:∀x∈l,1<=x/\x<=1000000) (h4:q<=l.sum):yU l q=ap:=by
 rw[yU,y5s h1,y5s h2,y5s h4];simp only[y7z,Bool.and_true,y8h,y5o,y6p];exact h3
def zWh {i:PlI} (h:yU i.l i.q=ap) (hl:1<=i.least):zUt i.l (jC i) i.q:=by
 obtain⟨r1,r2,r3,r4⟩:=jE h;rw[jC,y5d ⟨h,hl⟩];by_cases hne:i.l.length=0
 ·have e:i.l=[]:=y6d hne;have hq:i.q=0:=by rw[e]at r4;simp at r4;omega
  have e0:i.p1=[]:=by rw[PlI.p1,e];rfl
  rw[e0,e,hq];exact⟨rfl,λn=>by simp,rfl⟩
 ·obtain⟨_,_,f1,f2⟩:=zDu h (by omega);have hpl:=z4u i;have m1:(i.l.zip i.p0).map (·.1)=i.l:=List.map_fst_zip (by omega)
  have m2:(i.l.zip i.p0).map (·.2)=i.p0:=List.map_snd_zip (by omega)
  have hp:=zBq (i.l.zip i.p0) (i.q-i.p0.sum) (λy hy=>by
   obtain⟨j,hj⟩:=y7s.1 hy;rw[y9w]at hj;exact f1 j _ _ hj.1 hj.2) (by omega) (by rw[m1,m2];omega)
  rw[m1,m2]at hp;refine⟨?_,hp.2.1,?_⟩
  ·rw[PlI.p1,hp.1,List.length_zip,hpl,Nat.min_self]
  ·rw[PlI.p1,hp.2.2];omega
def zUw:∀{l:List Int} {k:Nat} {x:Int},k<l.length->(l.set k x).sum=l.sum+(x-l.getD k 0)
 |[],k,x,h=>absurd h (by simp)
 |a::l,0,x,_=>by
  show x+l.sum=a+l.sum+(x-a);omega
 |a::l,k+1,x,h=>by
  have:=zUw (l:=l) (k:=k) (x:=x) (by simpa using h);show a+(l.set k x).sum=a+l.sum+(x-l.getD k 0);omega
def zMl {l:List Int} {k n:Nat} {x:Int} (h:k<l.length):(l.set k x).getD n 0=if n=k then x else l.getD n 0:=by
 rw[y5k,y8r];by_cases e:k=n
 ·subst e;rw[y5d rfl,y5d h,y5d rfl];rfl
 ·rw[y5b e,y5b (λe2=>e e2.symm),y5k]
def z0m {l:List Int}:∀(z:List (Nat×Int)) (o:List Int),(z.map (·.1)).Nodup->(∀y∈z,y.1<o.length/\0<=y.2/\o.getD y.1 0+y.2<=l.getD y.1 0)->(∀n,0<=o.getD n 0/\o.getD n 0<=l.getD n 0/\l.getD n 0<=1000000)->
 (z.foldl (λo y=>o.set y.1 (aq.wrap (o.getD y.1 0+y.2))) o).length=o.length/\(z.foldl (λo y=>o.set y.1 (aq.wrap (o.getD y.1 0+y.2))) o).sum=o.sum+(z.map (·.2)).sum/\∀n,0<=(z.foldl (λo y=>o.set y.1 (aq.wrap (o.getD y.1 0+y.2))) o).getD n 0/\(z.foldl (λo y=>o.set y.1 (aq.wrap (o.getD y.1 0+y.2))) o).getD n 0<=l.getD n 0
 |[],o,_,_,h=>⟨rfl,by simp,λn=>⟨(h n).1,(h n).2.1⟩⟩
 |y::z,o,hn,hz,h=>by
  obtain⟨h1,h2,h3⟩:=hz y y5h;rw[y5p,y7r]at hn;have hw:aq.wrap (o.getD y.1 0+y.2)=o.getD y.1 0+y.2:=by
   have:=h y.1;exact w64 (by omega)
  rw[y8v,hw];have ih:=z0m (l:=l) z (o.set y.1 (o.getD y.1 0+y.2)) hn.2 (λx hx=>by
   obtain⟨g1,g2,g3⟩:=hz x (y5j _ hx);have hne:x.1≠y.1:=λe=>hn.1 (e▸y6g (f:=(·.1)) hx)
   rw[y6j,zMl h1,y5b hne];exact⟨g1,g2,g3⟩) (λn=>by
   rw[zMl h1];split
   ·rename_i e;rw[e];exact⟨by have:=h y.1;omega,h3,(h y.1).2.2⟩
   ·exact h n)
  refine⟨by rw[ih.1,y6j],?_,ih.2.2⟩;rw[ih.2.1,zUw h1,y5p,y6s];omega
def zPn (l:List Int):(List.range l.length).map (λn=>l.getD n 0)=l:=by
 apply y9a;intro n;rw[y6q];by_cases h:n<l.length
 ·rw[y9c h,y6e h,y7e,y5k,y6e h];rfl
 ·rw[y6h (by simpa using h),y6h (by omega)];rfl
def z7z {f g:Nat->Int}:∀l:List Nat,(l.map λn=>f n-g n).sum=(l.map f).sum-(l.map g).sum
 |[]=>rfl
 |a::l=>by rw[y5p,y5p,y5p,y6s,y6s,y6s,z7z l];omega
def zOh {f:Nat->Int} {p:Nat->Bool}:∀{l:List Nat},(∀n∈l,p n=ao->f n=0)->((l.filter p).map f).sum=(l.map f).sum
 |[],_=>rfl
 |a::l,h=>by
  have ih:=zOh (l:=l) λn hn=>h n (y5j _ hn)
  rw[y5p,y6s];by_cases e:p a=ap
  ·rw[y9z e,y5p,y6s,ih]
  ·rw[xAa e,ih,h a y5h (by simpa using e)];omega
def lA {i:RsI} (hl:i.l.length<=250) (ho:i.out.length=i.l.length) (hn:∀n,0<=i.out.getD n 0/\i.out.getD n 0<=i.l.getD n 0/\i.l.getD n 0<=1000000) (hq:0<=i.q/\i.q<=i.l.sum-i.out.sum) (hle:1<=i.least):
 zUt i.l (nQ i) (i.out.sum+i.q):=by
 have hidx:(i.idx i.l.length).length<=250:=y7w (y8n _ _) (by simpa using hl);have hmem:∀n∈i.idx i.l.length,n<i.l.length/\i.out.getD n 0<i.l.getD n 0:=by
  intro n hn;obtain⟨a,b⟩:=y7c.1 hn;exact⟨y8b.1 a,y6b b⟩
 have hls:(i.left i.l.length).sum=i.l.sum-i.out.sum:=by
  rw[RsI.left,RsI.idx,zOh,z7z,zPn]
  ·rw[<- ho,zPn]
  ·intro n _ e;have:=y9t e;have:=hn n;omega
 have hr:yU (i.left i.l.length) i.q=ap:=by
  refine yEv (by rw[RsI.left,y5c];exact hidx) hq.1 (λx hx=> ?_) (by omega);obtain⟨n,hm,rfl⟩:=y6n.1 hx;have:=hmem n hm;have:=hn n;omega
 have hp:=zWh (i:=⟨i.left i.l.length,i.least,i.q⟩) hr hle;have hpl:i.pl.length=(i.idx i.l.length).length:=by
  have:=hp.len;rw[RsI.pl,this,RsI.left,y5c]
 have hnd:(i.idx i.l.length).Nodup:=List.nodup_range.sublist xAv;have z1:((i.idx i.l.length).zip i.pl).map (·.1)=i.idx i.l.length:=List.map_fst_zip (by omega)
 have z2:((i.idx i.l.length).zip i.pl).map (·.2)=i.pl:=List.map_snd_zip (by omega)
 have hf:=z0m (l:=i.l) ((i.idx i.l.length).zip i.pl) i.out (by rw[z1];exact hnd) (λy hy=>by
  obtain⟨j,hj⟩:=y7s.1 hy;rw[y9w]at hj;have hm:=hmem y.1 (y5m hj.1);have hb:=hp.bd j;have e1:(jC ⟨i.left i.l.length,i.least,i.q⟩).getD j 0=y.2:=by
   rw[y5k];have:(jC ⟨i.left i.l.length,i.least,i.q⟩)[j]? =au y.2:=hj.2;rw[this];rfl
  have e2:(i.left i.l.length).getD j 0=i.l.getD y.1 0-i.out.getD y.1 0:=by
   rw[y5k,RsI.left,y6q,hj.1];rfl
  dsimp only at hb;rw[e1,e2]at hb;exact⟨by omega,hb.1,by omega⟩) hn
 have hall:nQ i=((i.idx i.l.length).zip i.pl).foldl (λo y=>o.set y.1 (aq.wrap (o.getD y.1 0+y.2))) i.out:=by
  rw[nQ,RsI.add,y5n (by rw[List.length_zip];omega)]
 rw[hall];refine⟨by rw[hf.1,ho],hf.2.2,?_⟩;rw[hf.2.1,z2];have:=hp.sum;rw[RsI.pl,this]
def z7s {l:List Int} (h:∀x∈l,1<=x/\x<=1000000) (n:Nat):0<=l.getD n 0/\l.getD n 0<=1000000:=by
 by_cases hn:n<l.length
 ·obtain⟨x,hx⟩:=yC hn;have:=h x (y5m hx);rw[zU hx];omega
 ·rw[y5k,y6h (by omega)];decide
def yVh (n k:Nat):(ab n (0:Int)).getD k 0=0:=by
 rw[y5k,List.getElem?_replicate];split<;>rfl
def zOl (n:Nat):(ab n (0:Int)).sum=0:=by
 induction n with
 |zero=>rfl
 |succ n ih=>rw[y9m,y6s,ih];rfl
def yVo {q part:Int} (hq:0<=q) (h0:0<=part) (h1:part<=100):0<=q*part / 100/\q*part / 100<=q:=by
 have h2:0<=q*part:=xBk hq h0;have h3:q*part<=q*100:=y9y h1 hq;constructor<;>omega
def zVb {p:Prd} (hc:p.check=0) {l:List zH} {q:Int} (hr:yU (l.map (·.qty)) q=ap):zUt (l.map (·.qty)) (kE ⟨p,l,q⟩) q:=by
 have ok:=kD hc;obtain⟨r1,r2,r3,r4⟩:=jE hr;have q1:=ok.q1;have q3:=ok.q3;have q5:=ok.q5;have q6:=ok.q6;have r5:=ok.r1;have r6:=ok.r2;have gb:=z7s r3;have eqs:(AlI.qs ⟨p,l,q⟩)=l.map (·.qty):=rfl
 rw[kE];simp only[eqs];generalize l.map (·.qty)=qs at*
 by_cases c1:p.rule=1
 ·rw[y5d c1,hY,y5d hr];exact eJ _ _ (λx hx=>by have:=r3 x hx;omega) r2 r4
 by_cases c2:p.rule=2
 ·rw[y5b c1,y5d c2,zDy,y5d ⟨hr,q3,q1⟩];rw[PsI.rs];dsimp only;split
  ·rename_i ht;have hk:(topI l).toNat<(ab qs.length (0:Int)).length:=by simp;omega
   have hf:0<=PsI.first ⟨qs,topI l,p.top,p.least,q⟩/\PsI.first ⟨qs,topI l,p.top,p.least,q⟩<=qs.getD (topI l).toNat 0/\PsI.first ⟨qs,topI l,p.top,p.least,q⟩<=q:=by
    have:=gb (topI l).toNat;simp only[PsI.first];omega
   have hs:((ab qs.length (0:Int)).set (topI l).toNat (PsI.first ⟨qs,topI l,p.top,p.least,q⟩)).sum=PsI.first ⟨qs,topI l,p.top,p.least,q⟩:=by
    rw[zUw hk,zOl,yVh];omega
   have:=lA (i:=⟨qs,(ab qs.length 0).set (topI l).toNat (PsI.first ⟨qs,topI l,p.top,p.least,q⟩),p.least,q-PsI.first ⟨qs,topI l,p.top,p.least,q⟩⟩) r1 (by simp) (λn=>by
    dsimp only;rw[zMl hk,yVh];have:=gb n;split
    ·rename_i e;rw[e];exact⟨hf.1,hf.2.1,(gb _).2⟩
    ·omega) (by dsimp only;rw[hs];omega) q3
   dsimp only at this;rw[hs]at this;have e:PsI.first ⟨qs,topI l,p.top,p.least,q⟩+(q-PsI.first ⟨qs,topI l,p.top,p.least,q⟩)=q:=by omega
   rw[e]at this;exact this
  ·have:=lA (i:=⟨qs,ab qs.length 0,p.least,q⟩) r1 (by simp) (λn=>by
    dsimp only;rw[yVh];have:=gb n;omega) (by dsimp only;rw[zOl];omega) q3
   dsimp only at this;rw[zOl,Int.zero_add]at this;exact this
 ·have c3:p.rule=3:=by omega
  rw[y5b c1,y5b c2,y5d c3,zDg,y5d ⟨hr,q5,q6,q3⟩];rw[SpI.rs];dsimp only;obtain⟨d1,d2⟩:=yVo r2 q5 q6;have hr2:yU qs (q*p.part / 100)=ap:=yEv r1 d1 r3 (by omega);have hfs:=eJ qs (q*p.part / 100) (λx hx=>by have:=r3 x hx;omega) d1 (by omega);have e0:hY qs (q*p.part / 100)=uR qs (q*p.part / 100):=by rw[hY,y5d hr2]
  have:=lA (i:=⟨qs,hY qs (q*p.part / 100),p.least,q-q*p.part / 100⟩) r1 (by dsimp only;rw[e0];exact hfs.len) (λn=>by
   dsimp only;rw[e0];exact⟨(hfs.bd n).1,(hfs.bd n).2,(gb n).2⟩) (by dsimp only;rw[e0,hfs.sum];omega) q3
  dsimp only at this;rw[e0,hfs.sum]at this;rw[e0];have e:q*p.part / 100+(q-q*p.part / 100)=q:=by omega
  rw[e]at this;exact this
def z1q {p:Prd} {l:List zH} {q:Int} (hr:yU (l.map (·.qty)) q=ao):kE ⟨p,l,q⟩=[]:=by
 have eqs:(AlI.qs ⟨p,l,q⟩)=l.map (·.qty):=rfl
 rw[kE];simp only[eqs,hY,zDy,zDg,hr];simp
def zTd:motherC.ok Tryz.prog 183:=okw (V:=z8q) mixed gok0 0 (λ_=>[]) (λ_=>[]) [] Tryz.func183 λ(b:Bool) _=>by
 unfold z8q;cases b<;>exact⟨(),by decide,trivial⟩
def zWp:mgoodC.ok Tryz.prog 184:=okw (V:=yIo) mixed gok0 0 (λ_=>[]) (λ_=>[]) [] Tryz.func184 λ(i:GoI) _=>by
 obtain⟨s,p,x⟩:=i;unfold yIo;cases s
 ·refine Cv.cnd.mk (λ_=>zI (λc=>⟨(),?_,trivial⟩) (λc=>Cv.cnd.mk (λe=>by simp[zC]at e) (λ_=>⟨(),?_,trivial⟩))) (λe=>by simp[zC]at e)
  ·exact y5s c
  ·exact y5q c
 ·exact Cv.cnd.mk (λe=>by simp[zC]at e) (λ_=>Cv.cnd.mk (λ_=>⟨(),rfl,trivial⟩) (λe=>by simp[zC]at e))
def zXk {L:List zH} {s:Int}:((bestL L s).2=ap/\∃o∈L,o.side=s/\o.price=(bestL L s).1.price)\/(bestL L s=(⟨0,0,0⟩,ao)/\∀o∈L,o.side≠s):=by
 rw[bestL];cases hl:hU L s with
 |nil=>
  refine .inr ⟨rfl,λo ho e=> ?_⟩;rw[hU]at hl;cases hf:L.filter λo=>decide (o.side=s)with
  |nil=>
   rw[List.filter_eq_nil_iff]at hf;have:=hf o ho;simp[e]at this
  |cons x y=>
   rw[hf,grp]at hl;split at hl
   ·cases hl
   ·split at hl<;>cases hl
 |cons v vs=>
  refine .inl ⟨rfl,?_⟩;rw[hU]at hl;obtain⟨o,r,e1,e2⟩:=zNf hl;have:o∈L.filter λo=>decide (o.side=s):=by rw[e1];exact y5h
  rw[y7c]at this;exact⟨o,this.1,by simpa using this.2,e2⟩
def zUk {L:List zH} {s:Int} (h:∀o∈L,-2000000<=o.price/\o.price<=2000000): -2000000<=(bestL L s).1.price/\(bestL L s).1.price<=2000000:=by
 rcases zXk (L:=L) (s:=s)with⟨_,o,ho,_,e⟩|⟨e,_⟩
 ·rw[<- e];exact h o ho
 ·rw[e];constructor<;>decide
def zLm (L:List zH):(qW L).p1=(bestL L 1).1.price/\(qW L).q1=(bestL L 1).1.qty/\(qW L).has1=(bestL L 1).2/\(qW L).p2=(bestL L 2).1.price/\(qW L).q2=(bestL L 2).1.qty/\(qW L).has2=(bestL L 2).2:=by
 have h:∀s,(bestL L s).2=ap\/bestL L s=(⟨0,0,0⟩,ao):=λs=>by
  rcases zXk (L:=L) (s:=s)with⟨h,_⟩|⟨h,_⟩
  ·exact .inl h
  ·exact .inr h
 rw[qW,Top.sell,Top.buy];rcases h 1 with h1|h1<;>rcases h 2 with h2|h2<;>simp[h1,h2,top0]
def BOk.prices {p:Prd} {B:List (List zH)} (h:BOk p B) {k:Nat} {L:List zH} (hL:B[k]? =au L):∀o∈L,-2000000<=o.price/\o.price<=2000000:=λo ho=>lC h.pc (h.pr k L hL o ho)
def BOk.tops {p:Prd} {B:List (List zH)} (h:BOk p B):vG (B.map qW):=by
 have:=xK p;refine⟨by rw[y5c,h.bl];omega,λt ht=> ?_⟩;obtain⟨L,hL,rfl⟩:=y6n.1 ht;obtain⟨k,hk⟩:=y7s.1 hL;have b1:=zUk (s:=1) (h.prices hk);have b2:=zUk (s:=2) (h.prices hk);rw[(zLm L).1,(zLm L).2.2.2.1];exact⟨by constructor<;>omega,by constructor<;>omega⟩
def MSt.Rep.tops {s:MSt} {p:Prd} {B:List (List zH)} (h:s.Rep p B):s.tops=B.map qW:=by
 rw[MSt.tops];apply y9a;intro k;rw[y6q,y6q];by_cases hk:k<B.length
 ·obtain⟨L,hL⟩:=yC hk;obtain⟨b,hb⟩:=yC (l:=s.books) (i:=k) (by rw[h.bl];exact hk);rw[hL,hb,y7e,y7e,(h.bk k b L hb hL).top]
 ·rw[y6h (by rw[h.bl];omega),y6h (by omega)];rfl
def MSt.Rep.cnt {s:MSt} {p:Prd} {B:List (List zH)} (h:s.Rep p B) (hB:B.length<=1000000):s.cntOk:=by
 refine⟨by rw[h.bl];exact hB,λb hb=> ?_⟩;obtain⟨k,hk⟩:=y7s.1 hb;have hlt:=(y5f.1 hk).1;rw[h.bl]at hlt;obtain⟨L,hL⟩:=yC hlt;exact(h.bk k b L hk hL).cnt
def zXs {b:Book} {L:List zH} (h:b.Rep L) (sd:Bool):b.best (b.side sd)=bestL L (zC sd):=by
 obtain⟨Q,c,ht,rfl⟩:=h;cases sd
 ·exact c.bestL (.inl rfl)
 ·exact c.bestL (.inr rfl)
def zEc (sd:Bool):zC sd=1\/zC sd=2:=by cases sd;exact .inl rfl;exact .inr rfl
def y1p (i:NxI) (h:nextC.cnd i):yRv i:=by
 obtain⟨hR,hB,h0,h1⟩:i.s.Rep i.p i.B/\BOk i.p i.B/\0<=i.inst/\i.inst<i.B.length:=h;have hcl:=xK i.p;have hbl:=hB.bl;have hsl:=hR.bl;obtain⟨k,hk⟩:∃k:Nat,i.inst=k:=⟨i.inst.toNat,by omega⟩
 obtain⟨L,hL⟩:=yC (l:=i.B) (i:=k) (by omega);obtain⟨b,hb⟩:=yC (l:=i.s.books) (i:=k) (by omega);have hbR:=hR.bk k b L hb hL;have hps:i.s.p.small:=by rw[hR.ep];exact hB.ps
 have hto:vG i.s.tops:=by rw[hR.tops];exact hB.tops
 have hnx:yR i.p i.B i.inst (zC i.sd)=if((bestL L (zC i.sd)).2 && !((zW (xX ⟨i.s.p,i.s.tops,i.inst⟩ (zC i.sd)) (zC i.sd)).2 && btr (zC i.sd) (zW (xX ⟨i.s.p,i.s.tops,i.inst⟩ (zC i.sd)) (zC i.sd)).1.price (bestL L (zC i.sd)).1.price))=ap then(⟨(bestL L (zC i.sd)).1.price,(bestL L (zC i.sd)).1.qty,⟨0,0⟩,⟨0,0⟩⟩,ao,ap)else((zW (xX ⟨i.s.p,i.s.tops,i.inst⟩ (zC i.sd)) (zC i.sd)).1,(zW (xX ⟨i.s.p,i.s.tops,i.inst⟩ (zC i.sd)) (zC i.sd)).2,(zW (xX ⟨i.s.p,i.s.tops,i.inst⟩ (zC i.sd)) (zC i.sd)).2):=by
  rw[yR,hR.tops,hR.ep,hk,y5u,zU hL]
 have hbest:=zXs hbR i.sd;unfold yRv dE zVm kF fD zLl vA zOk zY zNr yA zId dJ zGl;have hcnt:i.s.cntOk:=hR.cnt (by omega);have hql:(xX ⟨i.s.p,i.s.tops,i.inst⟩ (zC i.sd)).length<=1000000:=by
  have:=y7w (y8n (λq=>decide (i.s.p.price i.inst q.price=0)) _) (zFm ⟨i.s.p,i.s.tops,i.inst⟩ (zC i.sd));exact y7w this (by decide)
 refine(λhT=>⟨⟨i.s,rfl,rfl,rfl,rfl,rfl,rfl,rfl,rfl,rfl,rfl,rfl,rfl,rfl,hcnt,λ_ _=>⟨⟨rfl,trivial,rfl,rfl,rfl,rfl,rfl,rfl,rfl,rfl,trivial,trivial⟩,⟨⟨⟨i.s.p,i.s.tops,i.inst⟩,i.sd⟩,rfl,rfl,rfl,rfl,rfl,rfl,rfl,rfl,rfl,rfl,rfl,rfl,rfl,rfl,⟨hps,hto⟩,λ_ _=>⟨hT,hT⟩⟩,⟨rfl,trivial,rfl,rfl,rfl,rfl,rfl,rfl,rfl,rfl,trivial,trivial⟩,⟨⟨⟨i.s.p,i.s.tops,i.inst⟩,i.sd⟩,rfl,rfl,rfl,rfl,rfl,rfl,rfl,rfl,rfl,rfl,rfl,rfl,rfl,rfl,⟨hps,hto⟩,λ_ _=>hT⟩⟩⟩,
  ⟨rfl,trivial,rfl,rfl,rfl,rfl,rfl,rfl,rfl,rfl,trivial,trivial⟩,⟨i.s,rfl,rfl,rfl,rfl,rfl,rfl,rfl,rfl,rfl,rfl,rfl,rfl,rfl,hcnt,λ_ _=>⟨⟨rfl,trivial,rfl,rfl,rfl,rfl,rfl,rfl,rfl,rfl,trivial,trivial⟩,⟨⟨⟨i.s.p,i.s.tops,i.inst⟩,i.sd⟩,rfl,rfl,rfl,rfl,rfl,rfl,rfl,rfl,rfl,rfl,rfl,rfl,rfl,rfl,⟨hps,hto⟩,λ_ _=>hT⟩⟩⟩⟩) ?_
 refine⟨⟨xX ⟨i.s.p,i.s.tops,i.inst⟩ (zC i.sd),zC i.sd⟩,rfl,rfl,⟨zEc _,hql⟩,λ_ _=>⟨⟨h0,by omega⟩,by omega,b,by rw[hk];exact hb,⟨i.sd,b⟩,rfl,rfl,hbR.cnt,λ_ _=>⟨b,rfl,rfl,by omega,?_⟩⟩⟩;dsimp only;rw[hbest];generalize bestL L (zC i.sd)=l at*;generalize zW (xX ⟨i.s.p,i.s.tops,i.inst⟩ (zC i.sd)) (zC i.sd)=bq at*;have hset:i.s.books.set i.inst.toNat b=i.s.books:=uD (by rw[hk];exact hb);rw[hset];refine Cv.cnd.mk (λc1=>Cv.cnd.mk (λc2=>⟨⟨zC i.sd,bq.1.price,l.1.price⟩,rfl,rfl,rfl,trivial,λ_ _=>Cv.cnd.mk (λc3=> ?_) (λc3=> ?_)⟩) (λc2=> ?_)) (λc1=> ?_)
 ·dsimp only at c3;rw[y5d (by rw[c1,c2];simpa using c3)]at hnx;rw[hnx];exact⟨(),by(repeat'(first|exact trivial|exact rfl|apply ar))⟩
 ·dsimp only at c3;rw[y5b (by rw[c1,c2];simpa using c3)]at hnx;rw[hnx];exact⟨(),by(repeat'(first|exact trivial|exact rfl|apply ar))⟩
 ·rw[y5d (by rw[c1,c2];rfl)]at hnx;rw[hnx];exact⟨(),by(repeat'(first|exact trivial|exact rfl|apply ar))⟩
 ·rw[y5b (by rw[c1];simp)]at hnx;rw[hnx];exact⟨(),by(repeat'(first|exact trivial|exact rfl|apply ar))⟩
def yOw:nextC.ok Tryz.prog 190:=okw mixed (gokc z0p (gokc zSv (gokc zZm (gokc zKq (gokc aW gok0))))) 0 (λ_=>[]) (λ_=>[]) [0] Tryz.func190 y1p
def z8w (i:RsI) (k:Nat):(i.add k).length=i.out.length:=by
 have:∀(l:List (Nat×Int)) (o:List Int),(l.foldl (λo y=>o.set y.1 (aq.wrap (o.getD y.1 0+y.2))) o).length=o.length:=by
  intro l
  induction l with
  |nil=>intro o;rfl
  |cons x l ih=>intro o;rw[y8v,ih,y6j]
 exact this _ _
def zWn (l:List Int) (q:Int):(hY l q).length<=l.length:=by
 rw[hY];split
 ·rw[eQ];exact y5x _
 ·exact y6i _
def yAf (i:AlI):(kE i).length<=i.l.length:=by
 have hq:i.qs.length=i.l.length:=by simp[AlI.qs]
 rw[kE,<- hq]
 repeat' split
 ·exact zWn _ _
 ·rw[zDy];split
  ·rw[nQ,z8w,PsI.rs];split
   ·simp
   ·simp
  ·exact y6i _
 ·rw[zDg];split
  ·rw[nQ,z8w];exact zWn _ _
  ·exact y6i _
 ·exact y6i _
def zMt {inst s:Int}:∀{os:List zH} {sh:List Int} {j:Nat} {o:zH} {k:Int},os[j]? =au o->sh[j]? =au k->xY inst s (os.take (j+1)) (sh.take (j+1))=xY inst s (os.take j) (sh.take j)++(if 0<k then[⟨o.id,inst,s,o.price,k,o.qty-k⟩]else[])
 |[],_,_,_,_,h,_=>by simp at h
 |_::_,[],_,_,_,_,h=>by simp at h
 |o::os,k::sh,0,_,_,h,h2=>by
  cases h;cases h2;rw[y6l,y6l,y9s,y9s,y9s,y9s,xY];split<;>rfl
 |o::os,k::sh,j+1,o',k',h,h2=>by
  rw[y6l,y6l,xY,y6l,y6l,xY,zMt (os:=os) (sh:=sh) (j:=j) h h2];split<;>rfl
def zRe {inst s:Int}:∀(os:List zH) (sh:List Int),xY inst s (os.take sh.length) (sh.take sh.length)=xY inst s os sh
 |[],sh=>by simp
 |_::_,[]=>by simp[xY]
 |o::os,k::sh=>by
  rw[y5g,y6l,y6l,xY,xY,zRe os sh]
def yBp (B:List (List zH)) (a b:List cK):kW B (a++b)=kW (kW B a) b:=y9k
def pB (B:List (List zH)) (id q:Int):(kI B id q).1.length=B.length:=by
 rw[kI];split
 ·rfl
 ·simp
def uK:∀(fs:List cK) (B:List (List zH)),(kW B fs).length=B.length
 |[],B=>rfl
 |f::fs,B=>by
  show(kW (kI B f.id f.qty).1 fs).length=_;rw[uK fs,pB]
def ySf {p:Prd} (h:p.check=0):i64r p.least/\i64r p.top/\i64r p.part:=by
 have ok:=kD h;have:=ok.q1;have:=ok.q2;have:=ok.q3;have:=ok.q4;have:=ok.q5;have:=ok.q6;exact⟨⟨by omega,by omega⟩,⟨by omega,by omega⟩,⟨by omega,by omega⟩⟩
def yVn (i:TrI) (h:tradeC.cnd i):yIq i:=by
 obtain⟨hR,hB,h0,h1,hq⟩:i.s.Rep i.p i.B/\BOk i.p i.B/\0<=i.inst/\i.inst<i.B.length/\i64r i.q:=h;have hcl:=xK i.p;have hbl:=hB.bl;have hsl:=hR.bl;have ep:=hR.ep;obtain⟨k,hk⟩:∃k:Nat,i.inst=k:=⟨i.inst.toNat,by omega⟩
 obtain⟨L,hL⟩:=yC (l:=i.B) (i:=k) (by omega);obtain⟨b,hb⟩:=yC (l:=i.s.books) (i:=k) (by omega);have hbR:=hR.bk k b L hb hL;have hbest:=zXs hbR i.sd;have hos:atL L (zC i.sd) (bestL L (zC i.sd)).1.price=i.os:=by rw[TrI.os,zWd,hk,y5u,zU hL]
 have hset:i.s.books.set i.inst.toNat b=i.s.books:=uD (by rw[hk];exact hb);have hosl:i.os.length<=250:=by
  rw[<- hos];exact y7w (y8n _ _) hbR.ords.2.2
 have hsh:i.sh.length<=i.os.length:=yAf _;obtain⟨k1,k2,k3⟩:=ySf hB.pc;have hsb:∀(j:Nat) (n:Int),i.sh[j]? =au n->n<=1000000:=by
  intro j n hn;cases hr:yU (i.os.map (·.qty)) i.q with
  |false=>
   have:i.sh=[]:=z1q hr;rw[this]at hn;cases hn
  |true=>
   have:=(zVb hB.pc hr).bd j;have e:(kE ⟨i.p,i.os,i.q⟩).getD j 0=n:=zU hn;rw[e]at this;have:=(z7s (jE hr).2.2.1 j).2;omega
 unfold yIq zIs v8 dN aN dL gK zY vA dI;refine⟨⟨h0,by omega⟩,by omega,b,by rw[hk];exact hb,⟨i.sd,b⟩,rfl,rfl,hbR.cnt,λ_ _=> ?_⟩;refine⟨b,rfl,rfl,by omega,b,by rw[hset,hk];exact hb,⟨b,L,i.sd,(bestL L (zC i.sd)).1.price⟩,rfl,by dsimp only;rw[hbest],rfl,hbR,λ_ _=> ?_⟩;dsimp only
 try rw[hbest]
 rw[hset,hos];refine⟨b,rfl,rfl,by omega,⟨i.p,i.os,i.q⟩,by rw[ep],by rw[ep],by rw[ep],by rw[ep],by rw[ep],by rw[ep],by rw[ep],by rw[ep],by rw[ep],by rw[ep],by rw[ep],rfl,rfl,⟨by dsimp only;omega,hq,k1,k2,k3⟩,λ_ _=> ?_⟩;have esh:kE ⟨i.p,i.os,i.q⟩=i.sh:=rfl;rw[esh,hset,yZ,y5c];refine⟨(0,i.s),rfl,rfl,rfl,rfl,rfl,rfl,rfl,rfl,rfl,rfl,rfl,rfl,rfl,rfl,rfl,λj=>j.2.Rep i.p (kW i.B (i.fs j.1))/\j.1<=i.sh.length,λj=>i.sh.length-j.1,⟨hR,y6i _⟩,λj hj=> ?_⟩;obtain⟨hjR,hjl⟩:=hj;obtain⟨j,sj⟩:=j;dsimp only at hjR hjl ⊢;refine zI (λc=> ?_) (λc=> ?_)
 ·obtain⟨n,hn⟩:=yC (l:=i.sh) (i:=j) (by omega);obtain⟨o,ho⟩:=yC (l:=i.os) (i:=j) (by omega);have hst:=zMt (inst:=i.inst) (s:=zC i.sd) ho hn;have hoL:o∈L:=by
   have:=y5m ho;rw[<- hos]at this;exact(y7c.1 this).1
  have hoq:=(hbR.ords.1 o hoL).q;have hnb:=hsb j n hn;refine⟨⟨by omega,by omega⟩,n,elI hn,zI (λc2=> ?_) (λc2=> ?_)⟩
  ·rw[y5d (show 0<n from c2)]at hst;have hfl:(i.fs j).length<=j:=by
    have:∀(os:List zH) (sh:List Int),(xY i.inst (zC i.sd) os sh).length<=os.length:=by
     intro os
     induction os with
     |nil=>intro sh;exact y5x 0
     |cons o os ih=>
      intro sh;cases sh with
      |nil=>exact y6i _
      |cons k sh=>
       have:=ih sh;rw[xY];split
       ·simp only[y5g];omega
       ·simp only[y5g];omega
    exact y7w (this _ _) (by rw[y5t];omega)
   refine⟨⟨by omega,by omega⟩,o.id,o.side,o.price,o.qty,o.top,yXw ho,⟨sj,i.p,kW i.B (i.fs j),o.id,n⟩,rfl,rfl,rfl,⟨hjR,by dsimp only;rw[uK];omega⟩,λs' hs'=>⟨by rw[y5c];omega,(j+1,s'),wjn (by omega),rfl,?_,⟨?_,by dsimp only;omega⟩,by dsimp only;omega,by(repeat'(first|exact trivial|exact rfl|apply ar))⟩⟩
   ·show aa yV (xY i.inst (zC i.sd) (i.os.take (j+1)) (i.sh.take (j+1)))=_;rw[hst,y5l,w64 (by omega)];rfl
   ·show s'.Rep i.p (kW i.B (xY i.inst (zC i.sd) (i.os.take (j+1)) (i.sh.take (j+1))));rw[hst,yBp];exact hs'
  ·rw[y5b (show ¬0<n from c2),y6a]at hst;refine⟨(j+1,sj),wjn (by omega),rfl,?_,⟨?_,by dsimp only;omega⟩,by dsimp only;omega,by(repeat'(first|exact trivial|exact rfl|apply ar))⟩
   ·show aa yV (xY i.inst (zC i.sd) (i.os.take (j+1)) (i.sh.take (j+1)))=_;rw[hst];rfl
   ·show sj.Rep i.p (kW i.B (xY i.inst (zC i.sd) (i.os.take (j+1)) (i.sh.take (j+1))));rw[hst];exact hjR
 ·have hje:j=i.sh.length:=by omega
  subst hje;have hfa:i.fs i.sh.length=qT i.p i.B i.inst (zC i.sd) i.q:=zRe _ _;rw[hfa]at hjR ⊢;exact⟨sj,rfl,rfl,hjR⟩
def yGk:tradeC.ok Tryz.prog 191:=okw mixed (gokc zKq (gokc y2g (gokc yKd (gokc zEx gok0)))) 0 (λ_=>[]) (λi=>ySw i) [0] Tryz.func191 yVn
structure jW where
 price:Int
 qty:Int
 implied:Bool
 fills:List cK
 deriving DecidableEq
def wB (t:jW):List D:=[.v (.int .i64 t.price),.v (.int .i64 t.qty),.v (.bool t.implied),.ro 6 (t.fills.map yV)]
def aD (p:Prd) (B:List (List zH)) (inst:Int) (sd:Bool) (price qty:Int):Option (jW×List (List zH)):=
 let n:=yR p B inst (zC (!sd))
 if(n.2.2 && (cY sd price n.1.price && decide (1<=n.1.qty)))=ap then
  if n.2.1=ap then
   let f1:=qT p B n.1.a.inst n.1.a.side (min qty n.1.qty)
   let f2:=qT p (kW B f1) n.1.b.inst n.1.b.side (min qty n.1.qty)
   au (⟨n.1.price,min qty n.1.qty,ap,f1++f2⟩,kW (kW B f1) f2)
  else
   let f:=qT p B inst (zC (!sd)) (min qty n.1.qty)
   au (⟨n.1.price,min qty n.1.qty,ao,f⟩,kW B f)
 else av
structure yXy where
 steps:List jW
 left:Int
 B:List (List zH)
def zKg (p:Prd) (inst:Int) (sd:Bool) (price:Int):Nat->List (List zH)->Int->yXy
 |0,B,q=>⟨[],q,B⟩
 |n+1,B,q=>if q<=0 then⟨[],q,B⟩else match aD p B inst sd price q with
  |none=>⟨[],q,B⟩
  |some (t,B')=>let r:=zKg p inst sd price n B' (q-t.qty);⟨t::r.steps,r.left,r.B⟩
def wH (p:Prd) (B:List (List zH)) (inst:Int) (sd:Bool) (price q:Int):yXy:=zKg p inst sd price q.toNat B q
structure RunI where
 s:MSt
 p:Prd
 B:List (List zH)
 inst:Int
 sd:Bool
 price:Int
 q:Int
def RunI.r (i:RunI):yXy:=wH i.p i.B i.inst i.sd i.price i.q
def runC:Con where
 ι:=RunI
 pat:=λi=>[.nm 0 0,zA i.inst,zA (zC i.sd),zA i.price,zA i.q]
 pre:=λi=>[zD i.s]
 cnd:=λi=>i.s.Rep i.p i.B/\BOk i.p i.B/\(0<=i.inst/\i.inst<i.B.length)/\1<=i.q/\i.q<=1000000
 alts:=λi=>[{o:=MSt,res:=λ_=> .tup [.own 1,zA i.r.left],post:=λs=>[zD s,.own 290 4 (i.r.steps.map wB)],rel:=λs=>s.Rep i.p i.r.B}]
structure zLu where
 s:MSt
 B:List (List zH)
 steps:List jW
 q:Int
def y4v:List SAnn:=[
 {ι:=zLu,slots:=λj=>[(0,.nm 0 0),(12,.own 1),(4,zA j.q)],rows:=λj=>[zD j.s,.own 290 4 (j.steps.map wB)]},
 {ι:=Unit,slots:=λ_=>[],rows:=λ_=>[],un:=3}]
def zPo (a:zLu->Nat) (b:zLu) (c:zLu) (d:RunI):Prop:=a b<a c/\dh (ae 1 (iE d.s.p.months))/\dh (ae 1 (iE d.s.p.settle))
def zGa (a:TrI):Prop:=a.s.Rep a.p a.B/\BOk a.p a.B/\0<=a.inst/\a.inst<(↑a.B.length:Int)/\(-9223372036854775808)<=a.q/\a.q<=9223372036854775807
def zPr (a:RunI) (b:zLu) (c:NxI):Prop:=∃(d:MSt),a.r.left=b.q/\zD d=zD c.s/\aa wB a.r.steps=aa wB b.steps/\d.Rep a.p a.r.B
def eR (a:TrI):=(aa yV (gK a))
def z2k (a:RunI):Prop:=∃(b:zLu),b.q=a.q/\sb b.s.p.code=sb a.s.p.code/\b.s.p.tick=a.s.p.tick/\b.s.p.low=a.s.p.low/\b.s.p.high=a.s.p.high/\b.s.p.wide=a.s.p.wide/\b.s.p.rule=a.s.p.rule/\b.s.p.top=a.s.p.top/\b.s.p.least=a.s.p.least/\b.s.p.part=a.s.p.part/\af 197 Book 6 zP b.s.books av=af 197 Book 6 zP a.s.books av/\yO b.s.wh=yO a.s.wh/\ae 1 (iE b.s.p.months)=ae 1 (iE a.s.p.months)/\ae 1 (iE b.s.p.settle)=ae 1 (iE a.s.p.settle)/\aa wB b.steps=[]/\∃(c:zLu->Prop),∃(d:zLu->Nat),c b/\∀(e:zLu),c e->cnd (decide (e.q>0)) (∃(f:Bool),zC f=zC a.sd/\True/\∀(g:Unit),True->∃(h:NxI),h.inst=a.inst/\zC h.sd=zC !f/\zD h.s=zD e.s/\(h.s.Rep h.p h.B/\BOk h.p h.B/\0<=h.inst/\h.inst<(↑h.B.length:Int))/\∀(j:Unit),True->cnd (!(yA h).snd.snd) (zPr a e h) (∃(k:GoI),zC k.s=zC a.sd/\k.p=a.price/\k.x=(yA h).fst.price/\True/\∀(l:Unit),True->cnd (!cY k.s k.p k.x) (zPr a e h) (cnd (yA h).snd.fst (∃(m:TrI),m.inst=(yA h).fst.a.inst/\zC m.sd=(yA h).fst.a.side/\m.q=min e.q (yA h).fst.qty/\zD m.s=zD h.s/\(zGa m)/\∀(n:MSt),n.Rep m.p (dL m)->True/\(eR m).length*(48:Nat)<=(140737488355328:Nat)/\∃(p:TrI),p.inst=(yA h).fst.b.inst/\zC p.sd=(yA h).fst.b.side/\p.q=min e.q (yA h).fst.qty/\zD p.s=zD n/\(zGa p)/\∀(q:MSt),q.Rep p.p (dL p)->True/\((eR m).length+(eR p).length)*(48:Nat)<=(140737488355328:Nat)/\((aa wB e.steps).length+1)*(48:Nat)<=(140737488355328:Nat)/\∃(r:zLu),r.q=aq.wrap (e.q-min e.q (yA h).fst.qty)/\zD r.s=zD q/\aa wB r.steps=aa wB e.steps++[[dI ((yA h).fst.price),dI (min e.q (yA h).fst.qty),D.v (.bool (yA h).snd.fst),D.ro 6 (aa yV (gK m)++aa yV (gK p))]]/\c r/\zPo d r e a) (∃(m:Bool),zC m=zC a.sd/\True/\∀(n:Unit),True->dh (min e.q (yA h).fst.qty)/\∃(p:TrI),p.inst=a.inst/\zC p.sd=zC !m/\p.q=min e.q (yA h).fst.qty/\zD p.s=zD h.s/\(zGa p)/\∀(q:MSt),q.Rep p.p (dL p)->((aa wB e.steps).length+1)*(48:Nat)<=(140737488355328:Nat)/\∃(r:zLu),r.q=aq.wrap (e.q-min e.q (yA h).fst.qty)/\zD r.s=zD q/\aa wB r.steps=aa wB e.steps++[[dI ((yA h).fst.price),dI (min e.q (yA h).fst.qty),D.v (.bool (yA h).snd.fst),D.ro 6 (eR p)]]/\c r/\zPo d r e a)))) (∃(f:MSt),a.r.left=e.q/\zD f=zD e.s/\aa wB a.r.steps=aa wB e.steps/\f.Rep a.p a.r.B)
def cN (a:RunI):Prop:=∃(b:MSt),a.r.left=a.q/\sb b.p.code=sb a.s.p.code/\b.p.tick=a.s.p.tick/\b.p.low=a.s.p.low/\b.p.high=a.s.p.high/\b.p.wide=a.s.p.wide/\b.p.rule=a.s.p.rule/\b.p.top=a.s.p.top/\b.p.least=a.s.p.least/\b.p.part=a.s.p.part/\af 197 Book 6 zP b.books av=af 197 Book 6 zP a.s.books av/\yO b.wh=yO a.s.wh/\ae 1 (iE b.p.months)=ae 1 (iE a.s.p.months)/\ae 1 (iE b.p.settle)=ae 1 (iE a.s.p.settle)/\aa wB a.r.steps=[]/\b.Rep a.p a.r.B
def y1l (i:RunI):Prop:=
 cnd (decide (i.inst>=0)) (cnd (decide (i.inst<(↑i.s.books.length:Int))) (cnd (zC i.sd==1) (cnd (decide (i.q>=1)) (cnd (!decide (i.q<=1000000)) (cN i) (z2k i)) (cN i)) (cnd (zC i.sd==2) (cnd (decide (i.q>=1)) (cnd (!decide (i.q<=1000000)) (cN i) (z2k i)) (cN i)) (cN i))) (cN i)) (cN i)
structure QOk (T:List Top) (q:Quote):Prop where
 a:0<=q.a.inst/\q.a.inst<T.length
 b:0<=q.b.inst/\q.b.inst<T.length
 sa:q.a.side=1\/q.a.side=2
 sb:q.b.side=1\/q.b.side=2
 ne:q.a.inst≠q.b.inst
 ha:(T.getD q.a.inst.toNat top0).has q.a.side=ap
 hb:(T.getD q.b.inst.toNat top0).has q.b.side=ap
 qty:q.qty=min ((T.getD q.a.inst.toNat top0).qty q.a.side) ((T.getD q.b.inst.toNat top0).qty q.b.side)
def z4r {T:List Top} {a b:Leg} {less:Bool} {q:Quote} (h:q∈mkq T a b less) (h1:0<=a.inst/\a.inst<T.length) (h2:0<=b.inst/\b.inst<T.length) (h3:a.side=1\/a.side=2) (h4:b.side=1\/b.side=2) (hne:a.inst≠b.inst):QOk T q/\q.a=a/\q.b=b:=by
 cases less
 all_goals
  simp only[mkq,y5v,↓reduceIte]at h;split at h
  ·rename_i hc;simp only[y5o]at hc;rw[y6r]at h;subst h;exact⟨⟨h1,h2,h3,h4,hne,hc.1.1,hc.1.2,rfl⟩,rfl,rfl⟩
  ·cases h
def yUt:∀n≤6,∀k<n+n*(n-1) / 2,n<=k->(kP n k n 0).1≠(kP n k n 0).2.1:=by decide
def z6m {p:Prd} (hc:p.check=0) {k:Nat} (hk:k<p.count) (hs:(p.legs k).2.2=ap):(p.legs k).1≠(p.legs k).2.1:=by
 have m6:=(kD hc).m6;have hk':=hk;rw[Prd.count,y5d hc]at hk';by_cases h:k<p.months.length
 ·rw[Prd.legs,y5b (by omega),y5d (by omega)]at hs;cases hs
 ·rw[Prd.legs,y5b (by omega),y5b (by omega)];exact yUt p.months.length m6 k hk' (by omega)
def yCt:∀n≤6,∀a<n,∀b<n,a<b->(yJ n a:Int)+b-a-1>=n:=by decide
def zRz {p:Prd} (hc:p.check=0) {a b:Nat} (hab:a<b) (hb:b<p.months.length):(p.months.length:Int)<=(p.spread a b).1:=by
 have m6:=(kD hc).m6;have:=yCt p.months.length m6 a (by omega) b hb hab;rw[Prd.spread,y5b (by omega)];simpa using this
def z7b {p:Prd} (hc:p.check=0) {T:List Top} (hT:T.length=p.count) {inst:Int} {s:Int} (hs:s=1\/s=2) {q:Quote} (h:q∈kJ ⟨p,T,inst⟩ s):QOk T q/\0<=inst/\inst<p.count/\
 (((p.legs inst).2.2=ap/\q.a=⟨(p.legs inst).1,s⟩/\q.b=⟨(p.legs inst).2.1,3-s⟩)\/(inst<p.months.length/\q.a.inst≠inst/\(p.months.length:Int)<=q.a.inst)):=by
 rw[kJ]at h;dsimp only at h;split at h
 ·cases h
 ·rename_i hn;have h0:0<=inst/\inst<p.count:=by omega
  obtain⟨k,rfl⟩:∃k:Nat,inst=k:=⟨inst.toNat,by omega⟩
  have hk:k<p.count:=by omega
  have hge:=zFv hc;split at h
  ·rename_i hl;obtain⟨q',hq',rfl⟩:=y6n.1 h;have hle:=g8 hc hk;rcases hle with⟨_,l1,l2,l3,l4⟩|⟨e,_⟩
   ·obtain⟨ok,e1,e2⟩:=z4r hq' (by dsimp only;omega) (by dsimp only;omega) (by dsimp only;omega) hs (λe=>z6m hc hk hl e.symm);refine⟨⟨by dsimp only[cW];omega,by dsimp only[cW];omega,hs,by dsimp only[cW];omega,z6m hc hk hl,?_,?_,?_⟩,h0.1,h0.2,.inl ⟨hl,rfl,rfl⟩⟩
    ·have:=ok.hb;rw[e2]at this;exact this
    ·have:=ok.ha;rw[e1]at this;exact this
    ·have:=ok.qty;rw[e1,e2]at this;dsimp only[cW];rw[this];exact Int.min_comm _ _
   ·rw[e]at hl;cases hl
  ·rename_i hl;have hm:k<p.months.length:=by
    rcases g8 hc hk with⟨e,_⟩|⟨_,e⟩
    ·exact absurd e hl
    ·exact e
   rcases y6f.1 h with h|h
   ·obtain⟨j,hj,h⟩:=y7u.1 h;have hj:=y8b.1 hj;rw[y5u]at hj;have s1:=bT hc (a:=k) (b:=k+1+j) (by omega) (by omega);have s2:=zRz hc (a:=k) (b:=k+1+j) (by omega) (by omega);have ec:((k:Int)+1+j)=((k+1+j:Nat):Int):=by omega
    rw[ec]at h;obtain⟨ok,e1,e2⟩:=z4r h (by dsimp only;omega) (by dsimp only;omega) hs hs (by dsimp only;omega);exact⟨ok,h0.1,h0.2,.inr ⟨by omega,by rw[e1];dsimp only;omega,by rw[e1];exact s2⟩⟩
   ·obtain⟨j,hj,h⟩:=y7u.1 h;have hj:=y8b.1 hj;rw[y5u]at hj;have s1:=bT hc (a:=j) (b:=k) (by omega) (by omega);have s2:=zRz hc (a:=j) (b:=k) (by omega) (by omega);obtain⟨ok,e1,e2⟩:=z4r h (by dsimp only;omega) (by dsimp only;omega) (by dsimp only;omega) hs (by dsimp only;omega);exact⟨ok,h0.1,h0.2,.inr ⟨by omega,by rw[e1];dsimp only;omega,by rw[e1];exact s2⟩⟩
def zSe {s:Int}:∀(r:List Quote) (q:Quote),r.foldl (λb q=>if btr s q.price b.price then q else b) q∈q::r
 |[],q=>y5h
 |x::r,q=>by
  rw[y8v];have:=zSe (s:=s) r (if btr s x.price q.price then x else q);rcases y5w.1 this with e|h
  ·rw[e];split
   ·exact y5j _ y5h
   ·exact y5h
  ·exact y5j _ (y5j _ h)
def zHg {l:List Quote} {s:Int} (h:(zW l s).2=ap):(zW l s).1∈l:=by
 cases l with
 |nil=>cases h
 |cons q r=>exact zSe r q
def yNi (B:List (List zH)):Prop:=∀(k:Nat) (L:List zH),B[k]?=au L->(∀o∈L,zMo o)/\(L.map (·.id)).Nodup/\L.length<=250
def MSt.Rep.ords {s:MSt} {p:Prd} {B:List (List zH)} (h:s.Rep p B):yNi B:=by
 intro k L hL;obtain⟨b,hb⟩:=yC (l:=s.books) (i:=k) (by rw[h.bl];exact(y5f.1 hL).1);exact(h.bk k b L hb hL).ords
def z6p:∀{l:List zH} {v:Lv},(∀o∈l,zMo o)->v∈grp l->1<=v.qty/\v.qty<=1000000*l.length
 |[],v,_,h=>by cases h
 |o::l,v,ho,h=>by
  have h0:=(ho o y5h).q;have ih:∀v∈grp l,1<=v.qty/\v.qty<=1000000*l.length:=λv hv=>z6p (λx hx=>ho x (y5j _ hx)) hv
  rw[grp]at h;rw[y5g];split at h
  ·rw[y6r]at h;subst h;dsimp only;omega
  ·rename_i w ws e;rw[e]at ih;have hw:=ih w y5h;split at h
   ·rcases y5w.1 h with rfl|h
    ·dsimp only;omega
    ·have:=ih v (y5j _ h);omega
   ·rcases y5w.1 h with rfl|h
    ·dsimp only;omega
    ·have:=ih v h;omega
def z1o {L:List zH} {s:Int} (h:∀o∈L,zMo o) (hl:L.length<=250) (hb:(bestL L s).2=ap):1<=(bestL L s).1.qty/\(bestL L s).1.qty<=250000000:=by
 rw[bestL]at hb ⊢;cases hl2:hU L s with
 |nil=>rw[hl2]at hb;cases hb
 |cons v vs=>
  dsimp only;have hm:v∈grp (L.filter λo=>decide (o.side=s)):=by rw[<- hU,hl2];exact y5h
  have:=z6p (λo ho=>h o (y7c.1 ho).1) hm;have:=y8n (λo:zH=>decide (o.side=s)) L;omega
def yDt {B:List (List zH)} {k:Nat} {L:List zH} (hL:B[k]? =au L):(B.map qW).getD k top0=qW L:=zU (by rw[y6q,hL];rfl)
def zKr (L:List zH) {s:Int} (hs:s=1\/s=2):(qW L).has s=(bestL L s).2/\(qW L).qty s=(bestL L s).1.qty/\(qW L).price s=(bestL L s).1.price:=by
 obtain⟨e1,e2,e3,e4,e5,e6⟩:=zLm L;rcases hs with rfl|rfl
 ·exact⟨e3,e2,e1⟩
 ·exact⟨e6,e5,e4⟩
def z7e {p:Prd} {B:List (List zH)} (h:BOk p B) (ho:yNi B) {inst:Int} (hi:0<=inst/\inst<B.length) {s:Int} (hs:s=1\/s=2) (hn:(yR p B inst s).2.2=ap):
 (1<=(yR p B inst s).1.qty/\(yR p B inst s).1.qty<=250000000)/\((yR p B inst s).2.1=ap->(yR p B inst s).1∈kJ ⟨p,B.map qW,inst⟩ s/\QOk (B.map qW) (yR p B inst s).1)/\
 ((yR p B inst s).2.1=ao->(bestL (B.getD inst.toNat []) s).2=ap/\(yR p B inst s).1.price=(bestL (B.getD inst.toNat []) s).1.price/\(yR p B inst s).1.qty=(bestL (B.getD inst.toNat []) s).1.qty):=by
 obtain⟨k,rfl⟩:∃k:Nat,inst=k:=⟨inst.toNat,by omega⟩
 obtain⟨L,hL⟩:=yC (l:=B) (i:=k) (by omega);have hLo:=ho k L hL;rw[yR]at hn ⊢;rw[y5u,zU hL]at hn ⊢;split
 ·rename_i c;simp only[y5o]at c;exact⟨z1o hLo.1 hLo.2.2 c.1,⟨λe=>(by cases e),λ_=>⟨c.1,rfl,rfl⟩⟩⟩
 ·rename_i c;rw[y5b c]at hn;dsimp only at hn ⊢;have hm:=zHg hn;have ha:(zW (xX ⟨p,B.map qW,k⟩ s) s).1∈kJ ⟨p,B.map qW,k⟩ s:=(y7c.1 hm).1;obtain⟨ok,_⟩:=z7b h.pc (by rw[y5c];exact h.bl) hs ha;refine⟨?_,λ_=>⟨ha,ok⟩,λe=>by rw[hn]at e;cases e⟩;generalize (zW (xX ⟨p,B.map qW,k⟩ s) s).1=q at ok;have a:=ok.a;have b:=ok.b;rw[y5c]at a b;obtain⟨La,hLa⟩:=yC (l:=B) (i:=q.a.inst.toNat) (by omega);obtain⟨Lb,hLb⟩:=yC (l:=B) (i:=q.b.inst.toNat) (by omega);have e1:=ok.ha;have e2:=ok.hb;have e3:=ok.qty;rw[yDt hLa]at e1 e3;rw[yDt hLb]at e2 e3;rw[(zKr La ok.sa).1]at e1;rw[(zKr Lb ok.sb).1]at e2;rw[(zKr La ok.sa).2.1,(zKr Lb ok.sb).2.1]at e3;have:=z1o (ho _ _ hLa).1 (ho _ _ hLa).2.2 e1;have:=z1o (ho _ _ hLb).1 (ho _ _ hLb).2.2 e2;omega
def yGg {L:List zH} {id q:Int} {o:zH} (h:o∈(x6 L id q).1):∃o'∈L,o.price=o'.price/\o.side=o'.side/\o.id=o'.id:=by
 rw[x6]at h;split at h
 ·exact⟨o,h,rfl,rfl,rfl⟩
 split at h
 ·exact⟨o,h,rfl,rfl,rfl⟩
 obtain⟨o',ho',e⟩:=xAi.1 h;refine⟨o',ho',?_⟩;split at e
 ·split at e
  ·cases e
  ·cases e;exact⟨rfl,rfl,rfl⟩
 ·cases e;exact⟨rfl,rfl,rfl⟩
def BOk.take {p:Prd} {B:List (List zH)} (h:BOk p B) (id q:Int):BOk p (kI B id q).1:=by
 refine⟨h.pc,h.ps,by rw[pB];exact h.bl,λk L hL o ho=> ?_⟩;rw[kI]at hL;split at hL
 ·exact h.pr k L hL o ho
 ·rename_i j hj;dsimp only at hL;rcases bL hL with⟨rfl,rfl⟩|⟨_,hL⟩
  ·obtain⟨o',ho',e,_⟩:=yGg ho;obtain⟨L',hL',_⟩:=gE hj;rw[zU hL']at ho';rw[e];exact h.pr k L' hL' o' ho'
  ·exact h.pr k L hL o ho
def BOk.takes {p:Prd}:∀{fs:List cK} {B:List (List zH)},BOk p B->BOk p (kW B fs)
 |[],B,h=>h
 |f::fs,B,h=>BOk.takes (fs:=fs) (h.take f.id f.qty)
def zZu (inst s:Int):∀(os:List zH) (sh:List Int),(xY inst s os sh).length<=os.length
 |[],sh=>y5x 0
 |o::os,[]=>y6i _
 |o::os,k::sh=>by
  have:=zZu inst s os sh;rw[xY];split
  ·simp only[y5g];omega
  ·simp only[y5g];omega
def nM {p:Prd} {B:List (List zH)} (ho:yNi B) (inst s q:Int):(qT p B inst s q).length<=250:=by
 refine y7w (zZu _ _ _ _) (y7w (y8n _ _) ?_);by_cases h:inst.toNat<B.length
 ·obtain⟨L,hL⟩:=yC h;rw[zU hL];exact(ho _ _ hL).2.2
 ·rw[y5k,y6h (by omega)];exact y6i _
def zMh {p:Prd} {B:List (List zH)} {inst:Int} {sd:Bool} {price q:Int} {t:jW} {B':List (List zH)} (hq:1<=q) (h:aD p B inst sd price q=au (t,B')):1<=t.qty/\t.qty<=q:=by
 rw[aD]at h;dsimp only at h;split at h
 ·rename_i c;simp only[y5o,y6p]at c;split at h
  ·cases h;dsimp only;omega
  ·cases h;dsimp only;omega
 ·cases h
def zZf {p:Prd} {inst:Int} {sd:Bool} {price:Int}:∀(m n:Nat) (B:List (List zH)) (q:Int),q.toNat<=m->q.toNat<=n->zKg p inst sd price m B q=zKg p inst sd price n B q
 |0,0,B,q,_,_=>rfl
 |0,n+1,B,q,h,_=>by rw[zKg,zKg,y5d (by omega)]
 |m+1,0,B,q,_,h=>by rw[zKg,zKg,y5d (by omega)]
 |m+1,n+1,B,q,h1,h2=>by
  rw[zKg,zKg];split
  ·rfl
  ·rename_i hq;cases hs:aD p B inst sd price q with
   |none=>rfl
   |some x=>
    obtain⟨t,B'⟩:=x;have:=zMh (by omega) hs;dsimp only;rw[zZf m n B' (q-t.qty) (by omega) (by omega)]
def eG {p:Prd} {B:List (List zH)} {inst:Int} {sd:Bool} {price q:Int} (h:q<=0\/aD p B inst sd price q=av):wH p B inst sd price q=⟨[],q,B⟩:=by
 rw[wH];cases hn:q.toNat with
 |zero=>rfl
 |succ n=>
  rw[zKg];rcases h with h|h
  ·rw[y5d h]
  ·rw[y5b (by omega),h]
def zMk {p:Prd} {B:List (List zH)} {inst:Int} {sd:Bool} {price q:Int} {t:jW} {B':List (List zH)} (hq:1<=q) (h:aD p B inst sd price q=au (t,B')):
 wH p B inst sd price q=⟨t::(wH p B' inst sd price (q-t.qty)).steps,(wH p B' inst sd price (q-t.qty)).left,(wH p B' inst sd price (q-t.qty)).B⟩:=by
 have ht:=zMh hq h;rw[wH];cases hn:q.toNat with
 |zero=>omega
 |succ n=>
  rw[zKg,y5b (by omega),h];dsimp only;rw[zZf n (q-t.qty).toNat B' (q-t.qty) (by omega) (y5x _)];rfl
def gP {s:Int} (h:s=1\/s=2):zC (decide (s=2))=s:=by
 rcases h with rfl|rfl<;>rfl
def y3h (i:RunI) (h:runC.cnd i):y1l i:=by
 obtain⟨hR,hB,⟨h0,h1⟩,hq1,hq2⟩:i.s.Rep i.p i.B/\BOk i.p i.B/\(0<=i.inst/\i.inst<i.B.length)/\1<=i.q/\i.q<=1000000:=h;have hbl:=hR.bl;have hcl:=xK i.p;have hbB:=hB.bl;unfold y1l z2k dL eR gK zPr zGa zPo yA cN dI;refine(λhT=>zI (λc=>zI (λc2=>Cv.cnd.mk (λ_=>zI (λ_=>Cv.cnd.mk (λe=>absurd hq2 (by simpa using e)) (λ_=>hT)) (λe=>absurd hq1 e)) (λe1=>Cv.cnd.mk (λ_=>zI (λ_=>Cv.cnd.mk (λe=>absurd hq2 (by simpa using e)) (λ_=>hT)) (λe=>absurd hq1 e)) (λe2=>by
  rcases zEc i.sd with e|e
  ·rw[e]at e1;cases e1
  ·rw[e]at e2;cases e2))) (λc2=>absurd (by omega) c2)) (λc=>absurd h0 c)) ?_
 refine⟨⟨i.s,i.B,[],i.q⟩,rfl,rfl,rfl,rfl,rfl,rfl,rfl,rfl,rfl,rfl,rfl,rfl,rfl,rfl,rfl,λj=>j.s.Rep i.p j.B/\BOk i.p j.B/\j.B.length=i.B.length/\(0<=j.q/\j.q<=i.q)/\(j.steps.length:Int)<=i.q-j.q/\i.r=⟨j.steps++(wH i.p j.B i.inst i.sd i.price j.q).steps,(wH i.p j.B i.inst i.sd i.price j.q).left,(wH i.p j.B i.inst i.sd i.price j.q).B⟩,λj=>j.q.toNat,⟨hR,hB,rfl,⟨by dsimp only;omega,y8p _⟩,by dsimp only;simp,rfl⟩,?_⟩;rintro⟨s,B,st,q⟩ ⟨r1,r2,r3,⟨r4,r4'⟩,r5,r6⟩;dsimp only at r1 r2 r3 r4 r4' r5 r6 ⊢;have hno (hn:q<=0\/aD i.p B i.inst i.sd i.price q=av):∃(o:MSt),i.r.left=q/\ag MSt (5:Nat) xR o=ag MSt (5:Nat) xR s/\aa wB i.r.steps=aa wB st/\o.Rep i.p i.r.B:=by
  rw[eG hn,y6a]at r6;rw[r6];exact⟨s,rfl,rfl,rfl,r1⟩
 refine zI (λc=> ?_) (λc=>hno (.inl (by omega)));have c:0<q:=c;refine⟨i.sd,rfl,trivial,λ_ _=>⟨⟨s,i.p,B,i.inst,!i.sd⟩,rfl,rfl,rfl,⟨r1,r2,h0,by dsimp only;omega⟩,λ_ _=> ?_⟩⟩;dsimp only;have hni:=z7e r2 r1.ords (inst:=i.inst) ⟨h0,by omega⟩ (zEc (!i.sd));have hsb:aD i.p B i.inst i.sd i.price q=(if((yR i.p B i.inst (zC (!i.sd))).2.2 && (cY i.sd i.price (yR i.p B i.inst (zC (!i.sd))).1.price && decide (1<=(yR i.p B i.inst (zC (!i.sd))).1.qty)))=ap then
  if(yR i.p B i.inst (zC (!i.sd))).2.1=ap then
   au (⟨(yR i.p B i.inst (zC (!i.sd))).1.price,min q (yR i.p B i.inst (zC (!i.sd))).1.qty,ap,qT i.p B (yR i.p B i.inst (zC (!i.sd))).1.a.inst (yR i.p B i.inst (zC (!i.sd))).1.a.side (min q (yR i.p B i.inst (zC (!i.sd))).1.qty)++qT i.p (kW B (qT i.p B (yR i.p B i.inst (zC (!i.sd))).1.a.inst (yR i.p B i.inst (zC (!i.sd))).1.a.side (min q (yR i.p B i.inst (zC (!i.sd))).1.qty))) (yR i.p B i.inst (zC (!i.sd))).1.b.inst (yR i.p B i.inst (zC (!i.sd))).1.b.side (min q (yR i.p B i.inst (zC (!i.sd))).1.qty)⟩,kW (kW B (qT i.p B (yR i.p B i.inst (zC (!i.sd))).1.a.inst (yR i.p B i.inst (zC (!i.sd))).1.a.side (min q (yR i.p B i.inst (zC (!i.sd))).1.qty))) (qT i.p (kW B (qT i.p B (yR i.p B i.inst (zC (!i.sd))).1.a.inst (yR i.p B i.inst (zC (!i.sd))).1.a.side (min q (yR i.p B i.inst (zC (!i.sd))).1.qty))) (yR i.p B i.inst (zC (!i.sd))).1.b.inst (yR i.p B i.inst (zC (!i.sd))).1.b.side (min q (yR i.p B i.inst (zC (!i.sd))).1.qty)))
  else au (⟨(yR i.p B i.inst (zC (!i.sd))).1.price,min q (yR i.p B i.inst (zC (!i.sd))).1.qty,ao,qT i.p B i.inst (zC (!i.sd)) (min q (yR i.p B i.inst (zC (!i.sd))).1.qty)⟩,kW B (qT i.p B i.inst (zC (!i.sd)) (min q (yR i.p B i.inst (zC (!i.sd))).1.qty)))else av):=rfl
 generalize yR i.p B i.inst (zC (!i.sd))=nb at hni hsb ⊢;refine Cv.cnd.mk (λn1=> ?_) (λn1=>⟨⟨i.sd,i.price,nb.1.price⟩,rfl,rfl,rfl,trivial,λ_ _=>Cv.cnd.mk (λn2=> ?_) (λn2=> ?_)⟩)
 ·have n1:nb.2.2=ao:=by simpa using n1
  rw[n1,y5b (by simp)]at hsb;exact hno (.inr hsb)
 ·have n2:cY i.sd i.price nb.1.price=ao:=by simpa using n2
  rw[n2,y5b (by simp)]at hsb;exact hno (.inr hsb)
 have n1:nb.2.2=ap:=by simpa using n1
 have n2:cY i.sd i.price nb.1.price=ap:=by simpa using n2
 obtain⟨⟨b1,b2⟩,hi,hr⟩:=hni n1;rw[n1,n2,y5s b1,y5d (by rfl)]at hsb;have hk:i64r (min q nb.1.qty):=by constructor<;>omega
 have hsl:(st.length+1)*48<=140737488355328:=by omega
 have beh:∀(t:jW) (B':List (List zH)) (s':MSt),aD i.p B i.inst i.sd i.price q=au (t,B')->s'.Rep i.p B'->BOk i.p B'->B'.length=B.length->
  (s'.Rep i.p B'/\BOk i.p B'/\B'.length=i.B.length/\(0<=q-t.qty/\q-t.qty<=i.q)/\((st++[t]).length:Int)<=i.q-(q-t.qty)/\i.r=⟨(st++[t])++(wH i.p B' i.inst i.sd i.price (q-t.qty)).steps,(wH i.p B' i.inst i.sd i.price (q-t.qty)).left,(wH i.p B' i.inst i.sd i.price (q-t.qty)).B⟩)/\(q-t.qty).toNat<q.toNat:=by
  intro t B' s' h1 h2 h3 h4;have ht:=zMh (by omega) h1;refine⟨⟨h2,h3,by omega,⟨by omega,by omega⟩,by rw[y5a,y6z];omega,?_⟩,by omega⟩;rw[zMk (by omega) h1]at r6;rw[r6,y5i];rfl
 refine Cv.cnd.mk (λn3=> ?_) (λn3=> ?_)
 ·obtain⟨_,ok⟩:=hi n3;rw[n3,y5d rfl]at hsb;have oka:=ok.a;have okb:=ok.b;rw[y5c]at oka okb;have ea:=gP ok.sa;have eb:=gP ok.sb;refine⟨⟨s,i.p,B,nb.1.a.inst,decide (nb.1.a.side=2),min q nb.1.qty⟩,rfl,ea,rfl,rfl,⟨r1,r2,oka.1,oka.2,hk⟩,λs1 hs1=> ?_⟩;dsimp only at hs1 ⊢;rw[ea]at hs1 ⊢;have l1:=nM (p:=i.p) r1.ords nb.1.a.inst nb.1.a.side (min q nb.1.qty);have hB1:=r2.takes (fs:=qT i.p B nb.1.a.inst nb.1.a.side (min q nb.1.qty));have l2:=nM (p:=i.p) hs1.ords nb.1.b.inst nb.1.b.side (min q nb.1.qty);refine⟨trivial,by rw[y5c];omega,⟨s1,i.p,kW B (qT i.p B nb.1.a.inst nb.1.a.side (min q nb.1.qty)),nb.1.b.inst,decide (nb.1.b.side=2),min q nb.1.qty⟩,rfl,eb,rfl,rfl,⟨hs1,hB1,okb.1,by dsimp only;rw[uK];exact okb.2,hk⟩,λs2 hs2=> ?_⟩;dsimp only at hs2 ⊢;rw[eb]at hs2 ⊢;obtain⟨g1,g2⟩:=beh _ _ s2 hsb hs2 hB1.takes (by rw[uK,uK]);refine⟨trivial,by rw[y5c,y5c];omega,by rw[y5c];exact hsl,⟨s2,_,st++[_],_⟩,?_,rfl,?_,g1,g2,by(repeat'(first|exact trivial|exact rfl|apply ar))⟩
  ·dsimp only;rw[w64 (by omega)]
  ·dsimp only;rw[y5l,n3];simp[wB]
 ·rw[n3,y5b (by decide)]at hsb;refine⟨i.sd,rfl,trivial,λ_ _=>⟨rfl,⟨s,i.p,B,i.inst,!i.sd,min q nb.1.qty⟩,rfl,rfl,rfl,rfl,⟨r1,r2,h0,by dsimp only;omega,hk⟩,λs1 hs1=> ?_⟩⟩;dsimp only at hs1 ⊢;obtain⟨g1,g2⟩:=beh _ _ s1 hsb hs1 r2.takes (by rw[uK]);refine⟨by rw[y5c];exact hsl,⟨s1,_,st++[_],_⟩,?_,rfl,?_,g1,g2,by(repeat'(first|exact trivial|exact rfl|apply ar))⟩
  ·dsimp only;rw[w64 (by omega)]
  ·dsimp only;rw[y5l,n3];simp[wB]
def z1t:runC.ok Tryz.prog 182:=okw mixed (gokc yOw (gokc zTd (gokc zWp (gokc yGk gok0)))) 2 (λ_=>[]) (λ_=>y4v) [0] Tryz.func182 y3h
def yEo {L:List zH} {s id p q:Int} {o:zH} (h:o∈zUq L s id p q):o.price=p\/∃o'∈L,o.price=o'.price:=by
 have key:∀X:List zH,(o∈X.takeWhile (before s p)++⟨id,s,p,q,gI L s p⟩::X.dropWhile (before s p))->o.price=p\/o∈X:=by
  intro X hX;rcases y6f.1 hX with hX|hX
  ·exact .inr (List.takeWhile_sublist _|>.subset hX)
  ·rcases y5w.1 hX with rfl|hX
   ·exact .inl rfl
   ·exact .inr (List.dropWhile_sublist _|>.subset hX)
 rw[zUq]at h;split at h
 ·rcases key _ h with h|h
  ·exact .inl h
  ·obtain⟨o',ho',_,_,e,_⟩:=z8r h;exact .inr ⟨o',ho',e⟩
 ·rcases key _ h with h|h
  ·exact .inl h
  ·exact .inr ⟨o,h,rfl⟩
def BOk.add {p:Prd} {B:List (List zH)} (h:BOk p B) (inst id s price q:Int):BOk p (z4m p B inst id s price q).1:=by
 rw[z4m];split
 ·exact h
 split
 ·exact h
 split
 ·exact h
 split
 ·exact h
 rename_i c1 _ _ c4;have c4:p.price inst price=0:=by simpa using c4
 refine⟨h.pc,h.ps,by simpa using h.bl,λk L hL o ho=> ?_⟩;dsimp only at hL;rcases bL hL with⟨rfl,rfl⟩|⟨_,hL⟩
 ·obtain⟨L',hL'⟩:=yC (l:=B) (i:=inst.toNat) (by omega);rw[zU hL',zKl]at ho;have e:((inst.toNat:Nat):Int)=inst:=by omega
  repeat' split at ho
  ·exact h.pr _ L' hL' o ho
  ·exact h.pr _ L' hL' o ho
  ·exact h.pr _ L' hL' o ho
  ·rcases yEo ho with h1|⟨o',ho',h1⟩
   ·rw[h1,e];exact c4
   ·rw[h1];exact h.pr _ L' hL' o' ho'
 ·exact h.pr k L hL o ho
def BOk.new {p:Prd} (hc:p.check=0) (hp:p.small):BOk p (ab p.count []):=by
 refine⟨hc,hp,by simp,λk L hL o ho=> ?_⟩;rw[xAt (y5m hL)]at ho;cases ho
def MSt.Rep.fit {s:MSt} {p:Prd} {B:List (List zH)} (h:s.Rep p B) (hb:BOk p B):s.fit:=by
 have:=xK p;refine⟨by rw[h.ep];exact hb.ps,by rw[h.bl,hb.bl];omega,λb hm=> ?_⟩;obtain⟨k,hk⟩:=y7s.1 hm;have hlt:=(y5f.1 hk).1;rw[h.bl]at hlt;obtain⟨L,hL⟩:=yC hlt;exact(h.bk k b L hk hL).fit
def zQk (r:Nat):Bool:=decide (32<=r) && decide (r≠127) && decide (r≠65533)
def fH (s:List UInt8):Bool:=(kV s).all zQk && decide (1<=(kV s).length) && decide ((kV s).length<=12)
def labC:Con:=con1 (List UInt8) (λs=>[sV s]) (λ_=>[]) (λs=>s.length<=140737488355328) (λs=>yP (fH s)) (λ_=>[])
def y3e (s:List UInt8):List SAnn:=[{ι:=Nat×Nat,slots:=λx=>[(3,zA x.2),(7,.nm 0 0)],rows:=λx=>[.iter (sb s) x.1]}]
def vI (n:Int):Bool:=decide (-2000000<=n) && decide (n<=2000000)
def kA (n:Int):Bool:=decide (1<=n) && decide (n<=1000000)
def Cmd.orderE (c:Cmd):Int:=
 if c.side≠1/\c.side≠2 then 21 else if c.time<1\/3<c.time then 27 else if kA c.qty=ao then 24 else if c.least<0\/c.qty<c.least then 28
 else if c.label≠[]/\fH c.label=ao then 29 else if vI c.price=ao then 23 else if c.inst<0\/255<c.inst then 20 else 0
def Cmd.right (c:Cmd):Int:=
 if c.kind<1\/4<c.kind then 31 else if c.id<1\/1099511627776<c.id then 1 else if c.kind=1 then c.orderE
 else if c.kind≠2/\kA c.qty=ao then 24 else if c.kind=4/\vI c.price=ao then 23 else 0
def cmdOrdC:Con:=con1 Cmd (λc=>[zGd c]) (λ_=>[]) (λc=>c.label.length<=140737488355328) (λc=>zA c.orderE) (λ_=>[])
def cmdRtC:Con:=con1 Cmd (λc=>[zGd c]) (λ_=>[]) (λc=>c.label.length<=140737488355328) (λc=>zA c.right) (λ_=>[])
open Classical
def RB.byte (r:RB):Int×RB:=(qM (r.n 1).got,⟨(r.n 1).left,(r.n 1).bad⟩)
def RB.long (r:RB):Int×RB:=(aq.wrap (qM (r.n 8).got),⟨(r.n 8).left,(r.n 8).bad⟩)
def RB.endOf (r:RB):Int:=if r.b then 10 else if 0<r.l.length then 15 else 0
@[reducible] def RdB (r:RB):AObj:=Rd r.l r.b
@[reducible] def RB.ok (i:RB):Prop:=i.l.length<=1099511627776
def RB.text (r:RB):List UInt8×RB:=((r.byte.2.n r.byte.1.toNat).got,⟨(r.byte.2.n r.byte.1.toNat).left,(r.byte.2.n r.byte.1.toNat).bad⟩)
def lH (s:List UInt8):List UInt8:=lob (s.take 255).length::s.take 255
def Cmd.tail (c:Cmd):List UInt8:=
 if c.kind=1 then lob c.inst::lob c.side::lob c.time::(le c.price 8++(le c.qty 8++(le c.least 8++lH c.label)))
 else if c.kind=3 then le c.qty 8 else if c.kind=4 then le c.price 8++le c.qty 8 else[]
def Cmd.enc (c:Cmd):List UInt8:=if c.right≠0 then[]else lob c.kind::(le c.id 8++c.tail)
def xZ (k id:Int) (r:RB):Cmd×RB:=
 if k=1 then
  let a:=r.byte;let b:=a.2.byte;let t:=b.2.byte;let x:=t.2.long;let y:=x.2.long;let z:=y.2.long;let w:=z.2.text
  (⟨k,id,a.1,b.1,x.1,y.1,z.1,t.1,w.1⟩,w.2)
 else if k=3 then(⟨k,id,0,0,0,r.long.1,0,0,[]⟩,r.long.2)
 else if k=4 then(⟨k,id,0,0,r.long.1,r.long.2.long.1,0,0,[]⟩,r.long.2.long.2)
 else(⟨k,id,0,0,0,0,0,0,[]⟩,r)
def xH (b:List UInt8):Cmd×Int:=
 let k:=(RB.mk b ao).byte
 if k.1<1\/4<k.1 then(zTq,31)else
 let x:=xZ k.1 k.2.long.1 k.2.long.2
 if x.2.endOf≠0 then(zTq,12)else if x.1.right≠0 then(zTq,x.1.right)else(x.1,0)
def Cmd.asks (c:Cmd):Cmd:=if c.kind=1 then c else if c.kind=2 then⟨2,c.id,0,0,0,0,0,0,[]⟩else if c.kind=3 then⟨3,c.id,0,0,0,c.qty,0,0,[]⟩else if c.kind=4 then⟨4,c.id,0,0,c.price,c.qty,0,0,[]⟩else zTq
def yLn (n:Int):((lob n).toNat:Int)=n % 256:=(zKw n).symm
def nC (x:UInt8) (l:List UInt8):RB.byte ⟨x::l,ao⟩=((x.toNat:Int),⟨l,ao⟩):=by
 simp[RB.byte,RB.n,RN.got,RN.left,RN.bad,qM]
def z6g (a l:List UInt8):(RN.mk (a++l) ao a.length).got=a/\(RN.mk (a++l) ao a.length).left=l/\(RN.mk (a++l) ao a.length).bad=ao:=by
 have h:(RN.mk (a++l) ao a.length).bad=ao:=by simp[RN.bad]
 simp[RN.got,RN.left,h]
def yIe (n:Int):qM (le n 8)=n % 18446744073709551616:=by
 simp only[le,qM,yLn];omega
def zAb {n:Int} (h:i64r n) (l:List UInt8):RB.long ⟨le n 8++l,ao⟩=(n,⟨l,ao⟩):=by
 have e:(RB.mk (le n 8++l) ao).n 8=RN.mk (le n 8++l) ao (le n 8).length:=by rw[xW];rfl
 obtain⟨h1,h2,h3⟩:=z6g (le n 8) l;rw[RB.long,e,h1,h2,h3,yIe];obtain⟨ha,hb⟩:=h;have:aq.wrap (n % 18446744073709551616)=n:=by
  have e:=Cv.wrap_i64 ha hb;by_cases hn:0<=n
  ·rw[show n % 18446744073709551616=n by omega];exact e
  ·have:n % 18446744073709551616=n+18446744073709551616:=by omega
   rw[this];rw[IntKind.wrap]at e ⊢;simp only[IntKind.wrap,IntKind.bits,IntKind.signed]at e ⊢;simp at e ⊢;omega
 rw[this]
def yDx {s:List UInt8} (h:s.length<=255) (l:List UInt8):RB.text ⟨lH s++l,ao⟩=(s,⟨l,ao⟩):=by
 have ht:s.take 255=s:=y5n h;have e:((lob (s.length:Int)).toNat:Int)=s.length:=by rw[yLn];omega
 rw[lH,ht,y6t,RB.text,nC];dsimp only;rw[e];have e:(RB.mk (s++l) ao).n ((s.length:Int)).toNat=RN.mk (s++l) ao s.length:=rfl;obtain⟨h1,h2,h3⟩:=z6g s l;rw[e,h1,h2,h3]
def zJq {n:Int} (h:0<=n/\n<=255):((lob n).toNat:Int)=n:=by rw[yLn];omega
def z6f (s:List UInt8):∀(k p:Nat),s.length-p<=k->s.length-p<=4*(uU s p).length
 |0,p,h=>by rw[vO (by omega)];simp;omega
 |k+1,p,h=>by
  by_cases hp:p<s.length
  ·have hw:=cT s hp;have h4:(Utf8.decode (sb s) p).2<=4:=by
    unfold Utf8.decode;simp only[zKs,y5o,y6p]
    repeat' split
    all_goals simp
   rw[jS hp,y5g];have:=z6f s k (p+(Utf8.decode (sb s) p).2) (by omega);omega
  ·rw[vO (by omega)];simp;omega
def yCh {s:List UInt8} (h:s=[]\/fH s=ap):s.length<=48:=by
 obtain rfl|h:=h
 ·simp
 ·simp only[fH,y5o,y6p]at h;have:=z6f s s.length 0 (by omega);rw[kV,y5c]at h;omega
def sA {c:Cmd} (h:c.right=0):(1<=c.kind/\c.kind<=4)/\(1<=c.id/\c.id<=1099511627776)/\
 (c.kind≠2->1<=c.qty/\c.qty<=1000000)/\(c.kind=1\/c.kind=4->-2000000<=c.price/\c.price<=2000000)/\
 (c.kind=1->(c.side=1\/c.side=2)/\(1<=c.time/\c.time<=3)/\(0<=c.least/\c.least<=c.qty)/\(0<=c.inst/\c.inst<=255)/\c.label.length<=48):=by
 rw[Cmd.right]at h;split at h;·cases h
 split at h;·cases h
 rename_i h1 h2;refine⟨by omega,by omega,?_⟩;split at h
 ·rename_i hk;rw[Cmd.orderE]at h
  iterate 7 (split at h;·cases h)
  rename_i a1 a2 a3 a4 a5 a6 a7;simp only[kA,Bool.not_eq_false,y5o,y6p]at a3;simp only[vI,Bool.not_eq_false,y5o,y6p]at a6;refine⟨λ_=>a3,λ_=>a6,λ_=>⟨by omega,by omega,by omega,by omega,yCh ?_⟩⟩;by_cases hl:c.label=[]
  ·exact .inl hl
  ·exact .inr (by simpa[hl]using a5)
 ·rename_i hk;split at h;·cases h
  split at h;·cases h
  rename_i a1 a2;refine⟨λh2=> ?_,λh2=> ?_,λh2=>absurd h2 hk⟩
  ·simpa[h2,kA]using a1
  ·simpa[show c.kind=4 by omega,vI]using a2
def yFp {n:Int} (h:i64r n):RB.long ⟨le n 8,ao⟩=(n,⟨[],ao⟩):=by
 have:=zAb h [];rwa [y6a]at this
def yEf {s:List UInt8} (h:s.length<=255):RB.text ⟨lH s,ao⟩=(s,⟨[],ao⟩):=by
 have:=yDx h [];rwa [y6a]at this
def yLx {c:Cmd} (h:c.right=0):xZ c.kind c.id ⟨c.tail,ao⟩=(c.asks,⟨[],ao⟩):=by
 obtain⟨hk,hi,hq,hp,ho⟩:=sA h;rw[xZ,Cmd.tail,Cmd.asks];by_cases h1:c.kind=1
 ·obtain⟨hs,ht,hl,hn,hb⟩:=ho h1;have hq:=hq (by omega);have hp:=hp (.inl h1);simp only[y5d h1];rw[nC];dsimp only;rw[nC];dsimp only;rw[nC];dsimp only;rw[zAb ⟨by omega,by omega⟩];dsimp only;rw[zAb ⟨by omega,by omega⟩];dsimp only;rw[zAb ⟨by omega,by omega⟩];dsimp only;rw[yEf (by omega),zJq (by omega),zJq (by omega),zJq (by omega)]
 ·by_cases h3:c.kind=3
  ·have hq:=hq (by omega);simp only[h3,y5d,y5b,show ¬((3:Int)=1)by decide,show ¬((3:Int)=2)by decide,if_false,if_true];rw[yFp ⟨by omega,by omega⟩]
  ·by_cases h4:c.kind=4
   ·have hq:=hq (by omega);have hp:=hp (.inr h4);simp only[h4,show ¬((4:Int)=1)by decide,show ¬((4:Int)=2)by decide,show ¬((4:Int)=3)by decide,if_false,if_true];rw[zAb ⟨by omega,by omega⟩];dsimp only;rw[yFp ⟨by omega,by omega⟩]
   ·have h2:c.kind=2:=by omega
    simp only[h2,show ¬((2:Int)=1)by decide,show ¬((2:Int)=4)by decide,show ¬((2:Int)=3)by decide,if_false,if_true]
def z2e {c:Cmd} (h:c.right=0):c.asks.right=0:=by
 obtain⟨hk,hi,hq,hp,ho⟩:=sA h;rw[Cmd.asks];split
 ·exact h
 split
 ·rw[Cmd.right];simp only[];repeat (first|rw[y5b (by omega)]|rw[y5b (by decide)]|rw[y5b (by simp)])
 split
 ·have:=hq (by omega);rw[Cmd.right];simp only[];rw[y5b (by decide),y5b (by omega),y5b (by decide),y5b (by simp[kA];omega),y5b (by simp)]
 split
 ·have:=hq (by omega);have:=hp (.inr (by omega));rw[Cmd.right];simp only[];rw[y5b (by decide),y5b (by omega),y5b (by decide),y5b (by simp[kA];omega),y5b (by simp[vI];omega)]
 ·omega
def yMu {c:Cmd} (h:c.right=0):xH c.enc=(c.asks,0):=by
 obtain⟨hk,hi,_⟩:=sA h;have e:c.enc=lob c.kind::(le c.id 8++c.tail):=by rw[Cmd.enc,y5b (by simp[h])]
 rw[xH,e,nC];dsimp only;rw[zJq (by omega),y5b (by omega),zAb ⟨by omega,by omega⟩];dsimp only;rw[yLx h];dsimp only;rw[y5b (by simp[RB.endOf]),y5b (by rw[z2e h];simp)]
end Sx
