/- Texts of ours. No condition. -/
import Derived.Test.YtaafldgiafcgfaaGreatT8
set_option linter.all false
open List renaming map->aa,replicate->ab,take->ac
open Sx.AObj renaming fro->ae,objs->af,adt->ag,cells->aj,own->ak,map->am
open Bool renaming false->ao,true->ap
open Go.IntKind renaming i64->aq
open Option renaming some->ar,none->au
open Exists renaming intro->av
open And renaming intro->aw
namespace Sx
set_option maxRecDepth 100000
open Go Cv Go.Proofs
def zEt (a:Nat->Prop) (b:Nat) (c:Nat->Nat) (d:Nat) (e:BkL) (f:ArN):Prop:=a b/\c b<c d/\dh (aj [V.nm 1 0,V.own 2,V.own 3,V.mp 4,V.d (dI e.b.top1),V.d (dI e.b.top2),V.own 5,V.d (D.v (.bool e.b.has1)),V.d (D.v (.bool e.b.has2))] (245:TypeId))/\ag Arena 3 zF f.a=ag Arena 3 zF e.b.a/\dh (ak 255 2 (aa zB e.b.buys))/\dh (ak 255 2 (aa zB e.b.sells))/\dh (am (atE e.b.at_))/\dh (ak 3 1 (iE e.b.spare))
def bZ (a:Nat) (b:BkL):=(ac a (gK b.L (zD ao)))
def ySq (i:BkL):Prop:=
 ∃(a:Int),a=zD ao/\True/\∀(b:Unit),True->cnd (kH a) (∃(c:Unit),dh i.b.top1/\dh i.b.top2/\dh i.b.has1/\dh i.b.has2/\dh (ag Arena 3 zF i.b.a)/\dh (aa zB i.b.buys)/\dh (aa zB i.b.sells)/\dh (atE i.b.at_)/\dh (iE i.b.spare)/\aa lvE (gK i.L (zD ao))=[]/\True) (∃(c:Nat),(↑c:Int)=0/\aa lvE (bZ c i)=[]/\∃(d:Nat->Prop),∃(e:Nat->Nat),d c/\∀(f:Nat),d f->cnd (decide ((↑f:Int)<(↑(aa zB i.b.buys).length:Int))) ((0<=(↑f:Int)/\(↑f:Int)<(↑(aa zB i.b.buys).length:Int))/\∃(g:Int),∃(h:Int),zE (aa zB i.b.buys) (↑f:Int).toNat 0 2=ar [dI g,dI h]/\∃(j:ArN),j.n=h/\ag Arena 3 zF j.a=ag Arena 3 zF i.b.a/\True/\∀(k:Unit),True->h=h/\True/\g=g/\∃(l:ArN),l.n=h/\ag Arena 3 zF l.a=ag Arena 3 zF j.a/\True/\∀(m:Unit),True->g=g/\((aa lvE (bZ f i)).length+1)*(24:Nat)<=(140737488355328:Nat)/\∃(n:Nat),(↑n:Int)=aq.wrap ((↑f:Int)+1)/\aa lvE (bZ n i)=aa lvE (bZ f i)++[[dI g,dI ((j.a.qAt j.n).total),dI ((l.a.qAt l.n).count)]]/\zEt d n e f i l) (∃(g:Unit),dh i.b.top1/\dh i.b.top2/\dh i.b.has1/\dh i.b.has2/\dh (ag Arena 3 zF i.b.a)/\dh (aa zB i.b.buys)/\dh (aa zB i.b.sells)/\dh (atE i.b.at_)/\dh (iE i.b.spare)/\aa lvE (gK i.L (zD ao))=aa lvE (bZ f i)/\True))
def aG (a:Nat) (b:BkL):=(ac a (gK b.L (zD ap)))
def yUi (i:BkL):Prop:=
 ∃(a:Int),a=zD ap/\True/\∀(b:Unit),True->cnd (kH a) (∃(c:Unit),dh i.b.top1/\dh i.b.top2/\dh i.b.has1/\dh i.b.has2/\dh (ag Arena 3 zF i.b.a)/\dh (aa zB i.b.buys)/\dh (aa zB i.b.sells)/\dh (atE i.b.at_)/\dh (iE i.b.spare)/\aa lvE (gK i.L (zD ap))=[]/\True) (∃(c:Nat),(↑c:Int)=0/\aa lvE (aG c i)=[]/\∃(d:Nat->Prop),∃(e:Nat->Nat),d c/\∀(f:Nat),d f->cnd (decide ((↑f:Int)<(↑(aa zB i.b.sells).length:Int))) ((0<=(↑f:Int)/\(↑f:Int)<(↑(aa zB i.b.sells).length:Int))/\∃(g:Int),∃(h:Int),zE (aa zB i.b.sells) (↑f:Int).toNat 0 2=ar [dI g,dI h]/\∃(j:ArN),j.n=h/\ag Arena 3 zF j.a=ag Arena 3 zF i.b.a/\True/\∀(k:Unit),True->h=h/\True/\g=g/\∃(l:ArN),l.n=h/\ag Arena 3 zF l.a=ag Arena 3 zF j.a/\True/\∀(m:Unit),True->g=g/\((aa lvE (aG f i)).length+1)*(24:Nat)<=(140737488355328:Nat)/\∃(n:Nat),(↑n:Int)=aq.wrap ((↑f:Int)+1)/\aa lvE (aG n i)=aa lvE (aG f i)++[[dI g,dI ((j.a.qAt j.n).total),dI ((l.a.qAt l.n).count)]]/\zEt d n e f i l) (∃(g:Unit),dh i.b.top1/\dh i.b.top2/\dh i.b.has1/\dh i.b.has2/\dh (ag Arena 3 zF i.b.a)/\dh (aa zB i.b.buys)/\dh (aa zB i.b.sells)/\dh (atE i.b.at_)/\dh (iE i.b.spare)/\aa lvE (gK i.L (zD ap))=aa lvE (aG f i)/\True))
def rH (a:Nat×Top->Prop) (b:Nat×Top) (c:MSt) (d:Nat) (e:Book):Prop:=a b/\dh (ak 3 1 [[dI 1],[dI 2]])/\dh (xW c 0)/\af 197 Book 6 zQ (c.books.set (↑d:Int).toNat e) au=xW c 1/\dh (xW c 2)/\dh (xW c 3)/\dh (xW c 4)
def zDg (a:MSt) (b:Nat×Top) (c:Nat×Top->Prop) (d:Nat) (e:Book):Prop:=∃(f:Nat×Top),aa z7 (xX a f.fst f.snd)=aa z7 (xX a b.fst b.snd)/\rH c f a d e
def yKr (s:MSt):Prop:=
 (zAo s)/\∃(a:Nat),(↑a:Int)=0/\aa z7 (qB s a)=ab (↑s.books.length:Int).toNat [D.v (.bool ao),D.v (.bool ao),dI 0,dI 0,dI 0,dI 0]/\∃(b:Nat->Prop),∃(c:Nat->Nat),b a/\∀(d:Nat),b d->cnd (decide ((↑d:Int)<(↑s.books.length:Int))) ((0<=(↑d:Int)/\(↑d:Int)<(↑s.books.length:Int))/\(↑d:Int).toNat<s.books.length/\∃(e:Nat×Top),aa z7 (xX s e.fst e.snd)=aa z7 (qB s d)/\∃(f:Nat×Top->Prop),(((0:Int)<=(0:Int)/\0<(↑(2:Nat):Int))/\∃(g:Int),zE [[dI 1],[dI 2]] (Int.toNat 0) 0 1=ar [dI g]/\∃(h:Book),s.books[(↑d:Int).toNat]?=ar h/\∃(j:BkS),zD j.side=g/\yB j.b=yB h/\(vQ j)/\∀(k:Unit),True->∃(l:Book),yB j.b=yB l/\dh ((↑d:Int).toNat)/\(↑d:Int).toNat<s.books.length/\cnd (z5 j).snd ((kE d s e)/\(kE d s e)/\(kE d s e)/\(↑d:Int).toNat<(uO s e).length/\(aC d s e)/\(aC d s e)/\dh ((z5 j).fst.qty)/\dh ((z5 j).fst.price)/\(↑d:Int).toNat<(b8 s e d).length/\(zAl d s e j)/\dh ((z5 j).fst.qty)/\(↑d:Int).toNat<(dZ s e d j).length/\∃(m:Nat×Top),aa z7 (xX s m.fst m.snd)=zZ (dZ s e d j) (↑d:Int).toNat 4 [dI (uQ j)]/\rH f m s d l) (zDg s e f d l))/\∀(g:Nat×Top),f g->∃(h:Nat×Top),aa z7 (xX s h.fst h.snd)=aa z7 (xX s g.fst g.snd)/\∃(j:Nat×Top->Prop),((uZ)/\∃(k:Int),zE [[dI 1],[dI 2]] (aq.wrap ((0:Int)+(1:Int))).toNat 0 1=ar [dI k]/\∃(l:Book),s.books[(↑d:Int).toNat]?=ar l/\∃(m:BkS),zD m.side=k/\yB m.b=yB l/\(vQ m)/\∀(n:Unit),True->∃(p:Book),yB m.b=yB p/\dh ((↑d:Int).toNat)/\(↑d:Int).toNat<s.books.length/\cnd (z5 m).snd ((kE d s h)/\(kE d s h)/\(kE d s h)/\(↑d:Int).toNat<(uO s h).length/\(b9 d s h)/\(b9 d s h)/\dh ((z5 m).fst.qty)/\dh ((z5 m).fst.price)/\(↑d:Int).toNat<(aB s h d).length/\(zAf d s h m)/\dh ((z5 m).fst.qty)/\(↑d:Int).toNat<(cL s h d m).length/\∃(q:Nat×Top),aa z7 (xX s q.fst q.snd)=zZ (cL s h d m) (↑d:Int).toNat 5 [dI (uQ m)]/\rH j q s d p) (zDg s h j d p))/\∀(k:Nat×Top),j k->∃(l:Nat),(↑l:Int)=aq.wrap ((↑d:Int)+1)/\aa z7 (qB s l)=aa z7 (xX s k.fst k.snd)/\b l/\c l<c d/\dh (xW s 0)/\dh (xW s 1)/\dh (xW s 2)/\dh (xW s 3)/\dh (xW s 4)) (∃(e:Unit),dh (sb s.p.code)/\dh s.p.tick/\dh s.p.low/\dh s.p.high/\dh s.p.wide/\dh s.p.rule/\dh s.p.top/\dh s.p.least/\dh s.p.part/\af 197 Book 6 zQ s.books au=xW s 1/\dh (yR s.wh)/\ae 1 (iE s.p.months)=xW s 3/\ae 1 (iE s.p.settle)=xW s 4/\aa z7 s.tops=aa z7 (qB s d)/\True)
def zCf (a:MSt) (b:StI):Prop:=ae 1 (iE a.p.months)=ae 1 (iE b.s.p.months)/\ae 1 (iE a.p.settle)=ae 1 (iE b.s.p.settle)/\a.Rep b.p (kU b.B b.id b.q).fst
def zDv (a:MSt) (b:StI):Prop:=yR a.wh=yR b.s.wh/\zCf a b
def sN (a:StI) (b:Int) (c:Bool):Prop:=kW (Value.int aq a.id) (yR a.s.wh)=ar [dI b]/\c=ap\/kW (Value.int aq a.id) (yR a.s.wh)=au/\[dI b]=[dI 0]/\c=ao
def mV (a:StI):Prop:=∀(b:Value×List D),b∈yR a.s.wh->like (Value.int aq a.id) b.fst=ap
def yLx (i:StI):Prop:=
 (mV i)/\∃(a:Bool),∃(b:Int),(sN i b a)/\cnd (!a) (∃(c:MSt),(kU i.B i.id i.q).snd=26/\sb c.p.code=sb i.s.p.code/\c.p.tick=i.s.p.tick/\c.p.low=i.s.p.low/\c.p.high=i.s.p.high/\c.p.wide=i.s.p.wide/\c.p.rule=i.s.p.rule/\c.p.top=i.s.p.top/\c.p.least=i.s.p.least/\c.p.part=i.s.p.part/\af 197 Book 6 zQ c.books au=af 197 Book 6 zQ i.s.books au/\zDv c i) ((0<=b/\b<(↑i.s.books.length:Int))/\b.toNat<i.s.books.length/\∃(c:Book),i.s.books[b.toNat]?=ar c/\∃(d:FlI),d.id=i.id/\d.qty=i.q/\yB d.b=yB c/\d.b.Rep d.L/\∀(e:Book),e.Rep (qC d.L d.id d.qty).fst->∃(f:Book),yB e=yB f/\dh b.toNat/\b.toNat<i.s.books.length/\(0<=b/\b<(↑(i.s.books.set b.toNat f).length:Int))/\b.toNat<(i.s.books.set b.toNat f).length/\∃(g:Book),(i.s.books.set b.toNat f)[b.toNat]?=ar g/\∃(h:FlI),h.id=i.id/\yB h.b=yB g/\h.b.Rep h.L/\∀(j:Unit),True->∃(k:Book),yB h.b=yB k/\dh b.toNat/\b.toNat<(i.s.books.set b.toNat f).length/\cnd (!wS h.L h.id) ((mV i)/\∃(l:MSt),(kU i.B i.id i.q).snd=(qC d.L d.id d.qty).snd/\sb l.p.code=sb i.s.p.code/\l.p.tick=i.s.p.tick/\l.p.low=i.s.p.low/\l.p.high=i.s.p.high/\l.p.wide=i.s.p.wide/\l.p.rule=i.s.p.rule/\l.p.top=i.s.p.top/\l.p.least=i.s.p.least/\l.p.part=i.s.p.part/\af 197 Book 6 zQ l.books au=af 197 Book 6 zQ ((i.s.books.set b.toNat f).set b.toNat k) au/\yR l.wh=zBw (Value.int aq i.id) (yR i.s.wh)/\zCf l i) (∃(l:MSt),(kU i.B i.id i.q).snd=(qC d.L d.id d.qty).snd/\sb l.p.code=sb i.s.p.code/\l.p.tick=i.s.p.tick/\l.p.low=i.s.p.low/\l.p.high=i.s.p.high/\l.p.wide=i.s.p.wide/\l.p.rule=i.s.p.rule/\l.p.top=i.s.p.top/\l.p.least=i.s.p.least/\l.p.part=i.s.p.part/\af 197 Book 6 zQ l.books au=af 197 Book 6 zQ ((i.s.books.set b.toNat f).set b.toNat k) au/\zDv l i))
def y4t (i:BkL) (h:lad1C.cnd i):ySq i:=by
 obtain⟨Q,c,ht,hL⟩:i.b.Rep i.L:=h;have hsm:=c.small;obtain⟨⟨ha1,ha2⟩,hb1,hb2,hsp⟩:=id hsm;have hlad:=c.lad (.inl rfl);rw[<- hL]at hlad;have hlad:gK i.L (zD ao)=i.b.buys.map i.b.told:=hlad;unfold ySq zEt bZ kH dI;simp only[hlad,y8b];refine⟨1,rfl,trivial,λ_ _=>Cv.cnd.mk (λe=>absurd e Z8) λ_=>⟨0,by(first|exact rfl|exact trivial),by(first|exact rfl|exact trivial),λj=>j<=i.b.buys.length,λj=>i.b.buys.length-j,y9c _,λj hj=>zI (λe=> ?_) (λe=> ?_)⟩⟩
 ·obtain⟨r,hr⟩:=yC (l:=i.b.buys) (i:=j) oM;have hi:=c.cnt;refine⟨⟨oM,oM⟩,r.price,r.queue,elA hr (by simp[zB]) rfl,⟨i.b.a,r.queue⟩,by(first|exact rfl|exact trivial),by(first|exact rfl|exact trivial),trivial,λ_ _=>⟨by(first|exact rfl|exact trivial),by(first|exact rfl|exact trivial),by(first|exact rfl|exact trivial),⟨i.b.a,r.queue⟩,by(first|exact rfl|exact trivial),by(first|exact rfl|exact trivial),by(first|exact rfl|exact trivial),λ_ _=>⟨by(first|exact rfl|exact trivial),by simp only[y8t,y8b];omega,j+1,wjn oM,?_,oM,Z9,k0q⟩⟩⟩;have hrt:(i.b.buys.map i.b.told)[j]? =ar (i.b.told r):=by rw[y9r,hr];rfl
  rw[y9g,hrt];simp[lvE,Book.told]
 ·rw[y8l (by rw[y8b];omega)];exact⟨(),k0q⟩
def yMy:lad1C.ok Tryz.prog 128:=okw mixed (gokc lS (gokc zJs (gokc pJ gok0))) 1 (λ_=>[]) (λi=>y4a ao i) [0] Tryz.func128 y4t
def y0s (i:BkL) (h:lad2C.cnd i):yUi i:=by
 obtain⟨Q,c,ht,hL⟩:i.b.Rep i.L:=h;have hsm:=c.small;obtain⟨⟨ha1,ha2⟩,hb1,hb2,hsp⟩:=id hsm;have hlad:=c.lad (.inr rfl);rw[<- hL]at hlad;have hlad:gK i.L (zD ap)=i.b.sells.map i.b.told:=hlad;unfold yUi aG zEt kH dI;simp only[hlad,y8b];refine⟨2,rfl,trivial,λ_ _=>Cv.cnd.mk (λe=>absurd e Z8) λ_=>⟨0,by(first|exact rfl|exact trivial),by(first|exact rfl|exact trivial),λj=>j<=i.b.sells.length,λj=>i.b.sells.length-j,y9c _,λj hj=>zI (λe=> ?_) (λe=> ?_)⟩⟩
 ·obtain⟨r,hr⟩:=yC (l:=i.b.sells) (i:=j) oM;have hi:=c.cnt;refine⟨⟨oM,oM⟩,r.price,r.queue,elA hr (by simp[zB]) rfl,⟨i.b.a,r.queue⟩,by(first|exact rfl|exact trivial),by(first|exact rfl|exact trivial),trivial,λ_ _=>⟨by(first|exact rfl|exact trivial),by(first|exact rfl|exact trivial),by(first|exact rfl|exact trivial),⟨i.b.a,r.queue⟩,by(first|exact rfl|exact trivial),by(first|exact rfl|exact trivial),by(first|exact rfl|exact trivial),λ_ _=>⟨by(first|exact rfl|exact trivial),by simp only[y8t,y8b];omega,j+1,wjn oM,?_,oM,Z9,k0q⟩⟩⟩;have hrt:(i.b.sells.map i.b.told)[j]? =ar (i.b.told r):=by rw[y9r,hr];rfl
  rw[y9g,hrt];simp[lvE,Book.told]
 ·rw[y8l (by rw[y8b];omega)];exact⟨(),k0q⟩
def yQs:lad2C.ok Tryz.prog 128:=okw mixed (gokc lS (gokc zJs (gokc pJ gok0))) 1 (λ_=>[]) (λi=>y4a ap i) [0] Tryz.func128 y0s
def yVf:ladC.ok Tryz.prog 128:=λj=>match j with
 |⟨b,L,ao⟩=>yMy ⟨b,L⟩
 |⟨b,L,ap⟩=>yQs ⟨b,L⟩
def yXk (s:MSt) (h:topsOC.cnd s):yKr s:=by
 obtain⟨h1,h2⟩:s.cntOk:=h;unfold yKr uQ kE vQ uZ aC b9 zAo zAl dZ b8 zAf cL cI z5 aB uO zDg rH dI;have p48:(2:Int) ^ (48:Nat)=281474976710656:=by decide
 refine⟨⟨oM,oM,oM,by rw[p48];omega⟩,0,rfl,?_,λj=>j<=s.books.length,λj=>s.books.length-j,oM,λj hj=>zI (λhlt=> ?_) (λhlt=> ?_)⟩
 ·rw[qB,y8k,List.map_replicate];rfl
 ·have hj':j<s.books.length:=by omega
  obtain⟨b,hb⟩:=yC hj';have hc:=h2 b (y8m hb);simp only[y8s];have ha:∀x,(aa z7 (xX s j x)).length=s.books.length:=λx=>by rw[y8b,zQx hj']
  have w1:aq.wrap (0+1)=1:=by decide
  have w2:(0+1) % ((2:Int) ^ aq.bits).natAbs=1:=by decide
  refine⟨⟨oM,oM⟩,oM,(j,top0),by rw[zKh hj'],λx=>x=(j,top0.buy (b.best b.buys)),⟨⟨Z8,Z8⟩,1,rfl,b,hb,⟨ao,b⟩,rfl,rfl,hc,λ_ _=>⟨b,rfl,kp,oM,?_⟩⟩,?_⟩
  ·refine Cv.cnd.mk (λc=> ?_) (λc=> ?_)
   ·have c:(b.best b.buys).2=ap:=c;have e1:=kG (s:=s) hj' (x:=top0) (y:={top0 with has1:=ap}) (f:=0+0+0*1) (ds:=[D.v (.bool ap)]) rfl;have e2:=kG (s:=s) hj' (x:={top0 with has1:=ap}) (y:={top0 with has1:=ap,p1:=(b.best b.buys).1.price}) (f:=0+2+0*1) (ds:=[D.v (.int .i64 (b.best b.buys).1.price)]) rfl;have e3:=kG (s:=s) hj' (x:={top0 with has1:=ap,p1:=(b.best b.buys).1.price}) (y:={top0 with has1:=ap,p1:=(b.best b.buys).1.price,q1:=(b.best b.buys).1.qty}) (f:=0+4+0*1) (ds:=[D.v (.int .i64 (b.best b.buys).1.qty)]) rfl;dsimp only;simp only[show b.side ao=b.buys from rfl,e1,e2,e3,ha]
    (repeat'(first|exact rfl|exact trivial|assumption|apply aw|refineλ(_:Unit) (_:True)=>?_|refine av () ?_|omega|(dsimp only;omega)))
    refine⟨(j,{top0 with has1:=ap,p1:=(b.best b.buys).1.price,q1:=(b.best b.buys).1.qty}),rfl,?_,?_⟩
    ·rw[Top.buy,y8c c]
    ·(repeat'(first|exact rfl|exact trivial|assumption|apply aw|refineλ(_:Unit) (_:True)=>?_|refine av () ?_|omega|(dsimp only;omega)))
     rw[fY hb];rfl
   ·have c:(b.best b.buys).2=ao:=c;refine⟨(j,top0),rfl,?_,?_⟩
    ·rw[Top.buy,y7z (by rw[c];simp)]
    ·(repeat'(first|exact rfl|exact trivial|assumption|apply aw|refineλ(_:Unit) (_:True)=>?_|refine av () ?_|omega|(dsimp only;omega)))
     rw[fY hb];rfl
  ·rintro _ rfl;rw[w1];generalize hx:top0.buy (b.best b.buys)=x;have hx2:b.top=x.sell (b.best b.sells):=by rw[Book.top,hx]
   refine⟨(j,x),rfl,λy=>y=(j,b.top),⟨⟨Z8,Z8⟩,2,rfl,b,hb,⟨ap,b⟩,rfl,rfl,hc,λ_ _=>⟨b,rfl,kp,oM,?_⟩⟩,?_⟩
   ·refine Cv.cnd.mk (λc=> ?_) (λc=> ?_)
    ·have c:(b.best b.sells).2=ap:=c;have e1:=kG (s:=s) hj' (x:=x) (y:={x with has2:=ap}) (f:=0+0+1*1) (ds:=[D.v (.bool ap)]) rfl;have e2:=kG (s:=s) hj' (x:={x with has2:=ap}) (y:={x with has2:=ap,p2:=(b.best b.sells).1.price}) (f:=0+2+1*1) (ds:=[D.v (.int .i64 (b.best b.sells).1.price)]) rfl;have e3:=kG (s:=s) hj' (x:={x with has2:=ap,p2:=(b.best b.sells).1.price}) (y:={x with has2:=ap,p2:=(b.best b.sells).1.price,q2:=(b.best b.sells).1.qty}) (f:=0+4+1*1) (ds:=[D.v (.int .i64 (b.best b.sells).1.qty)]) rfl;dsimp only;simp only[w2,show b.side ap=b.sells from rfl,e1,e2,e3,ha]
     (repeat'(first|exact rfl|exact trivial|assumption|apply aw|refineλ(_:Unit) (_:True)=>?_|refine av () ?_|omega|(dsimp only;omega)))
     refine⟨(j,{x with has2:=ap,p2:=(b.best b.sells).1.price,q2:=(b.best b.sells).1.qty}),rfl,?_,?_⟩
     ·rw[hx2,Top.sell,y8c c]
     ·(repeat'(first|exact rfl|exact trivial|assumption|apply aw|refineλ(_:Unit) (_:True)=>?_|refine av () ?_|omega|(dsimp only;omega)))
      rw[fY hb];rfl
    ·have c:(b.best b.sells).2=ao:=c;refine⟨(j,x),rfl,?_,?_⟩
     ·rw[hx2,Top.sell,y7z (by rw[c];simp)]
     ·(repeat'(first|exact rfl|exact trivial|assumption|apply aw|refineλ(_:Unit) (_:True)=>?_|refine av () ?_|omega|(dsimp only;omega)))
      rw[fY hb];rfl
   ·rintro _ rfl;refine⟨j+1,by rw[w64 (by omega)];rfl,?_⟩;refine⟨by dsimp only;rw[zLb hb],?_⟩;exact kp
 ·have hj:j<=s.books.length:=hj;obtain rfl:j=s.books.length:=by omega
  have e:qB s s.books.length=s.tops:=by
   rw[qB,xDq,List.replicate_zero,y8x,y8l (by rw[MSt.tops,y8b];omega)]
  rw[e];exact kp
def z1o:topsOC.ok Tryz.prog 76:=okw mixed (gokc zLx gok0) 0 (λs=>ySx s) (λs=>ySb s) [] Tryz.func76 yXk
def yYh (i:StI) (h:stakeC.cnd i):yLx i:=by
 obtain⟨hR,hB⟩:i.s.Rep i.p i.B/\i.B.length<=1000:=h;have hat:=hR.at_ i.id;unfold yLx mV sN zDv zCf dI;cases hi:mC i.B i.id with
 |none=>
  rw[hi]at hat;refine⟨cM _ _,ao,0,.inr ⟨by rw[pA,hat];rfl,rfl,rfl⟩,Cv.cnd.mk (λ_=>⟨i.s,?_⟩) (λe=>absurd e Z8)⟩;have ht:kU i.B i.id i.q=(i.B,26):=by rw[kU,hi]
  rw[ht];exact(rF8 (rF6 hR))
 |some k=>
  rw[hi]at hat;obtain⟨L,hL,hh⟩:=gZ hi;have hk:=(y8e.1 hL).1;obtain⟨b,hb⟩:=yC (l:=i.s.books) (i:=k) (by rw[hR.bl];exact hk);have hbR:=hR.bk k b L hb hL;have hbl:=hR.bl;have hnd:=hbR.ords.2.1;refine⟨cM _ _,ap,k,.inl ⟨by rw[pA,hat];rfl,rfl⟩,Cv.cnd.mk (λe=>absurd e Z8) (λ_=> ?_)⟩;rw[y8s];refine⟨⟨oM,oM⟩,oM,b,hb,⟨b,L,i.id,i.q⟩,rfl,rfl,rfl,hbR,λb' hb'=> ?_⟩;have hT:=hR.take (q:=i.q) hi hL hnd hb';have hk2:(kU i.B i.id i.q).2=(qC L i.id i.q).2:=by simp only[kU,hi,zW hL]
  refine⟨b',rfl,rfl,oM,by rw[y9j];omega,by rw[y9j];omega,b',f9 oM,⟨b',(qC L i.id i.q).1,i.id,0⟩,rfl,rfl,hb',λ_ _=>⟨b',rfl,rfl,by rw[y9j];omega,Cv.cnd.mk (λe=>⟨cM _ _,?_⟩) (λe=> ?_)⟩⟩
  ·have e:wS (qC L i.id i.q).1 i.id=ao:=by simpa using e
   rw[e,y7z (by decide)]at hT;refine⟨{i.s with books:=i.s.books.set k b',wh:=z4o i.id i.s.wh},hk2,rF8 ⟨rfl,?_,(z2r _ _).symm,rfl,rfl,hT⟩⟩;rw[xCc]
  ·have e:wS (qC L i.id i.q).1 i.id=ap:=by simpa using e
   rw[e,y8c rfl]at hT;refine⟨{i.s with books:=i.s.books.set k b',wh:=i.s.wh},hk2,rF8 ⟨rfl,?_,rfl,rfl,rfl,hT⟩⟩;rw[xCc]
def zGx:stakeC.ok Tryz.prog 169:=okw mixed (gokc yOv (gokc z1e gok0)) 0 (λ_=>[]) (λ_=>[]) [0] Tryz.func169 yYh
structure BOk (p:Prd) (B:List (List zH)):Prop where
 pc:p.check=0
 ps:p.small
 bl:B.length=p.count
 pr:∀(k:Nat) (L:List zH),B[k]? =ar L->∀o∈L,p.price k o.price=0
def motherC:Con:=con1 Bool (λb=>[zA (zD b)]) (λ_=>[]) (λ_=>True) (λb=>zA (zD (!b))) (λ_=>[])
def bM (s:Bool) (p x:Int):Bool:=if s then decide (p<=x)else decide (x<=p)
structure GoI where
 s:Bool
 p:Int
 x:Int
def mgoodC:Con:=con1 GoI (λi=>[zA (zD i.s),zA i.p,zA i.x]) (λ_=>[]) (λ_=>True) (λi=>yK (bM i.s i.p i.x)) (λ_=>[])
def yU (p:Prd) (B:List (List zH)) (inst:Int) (s:Int):Quote×Bool×Bool:=
 let bq:=zY (xL ⟨p,B.map qH,inst⟩ s) s
 let l:=bestL (B.getD inst.toNat []) s
 if(l.2 && !(bq.2 && btr s bq.1.price l.1.price))=ap then(⟨l.1.price,l.1.qty,⟨0,0⟩,⟨0,0⟩⟩,ao,ap)else(bq.1,bq.2,bq.2)
structure NxI where
 s:MSt
 p:Prd
 B:List (List zH)
 inst:Int
 sd:Bool
def nextC:Con:=con1 NxI (λi=>[.nm 0 0,zA i.inst,zA (zD i.sd)]) (λi=>[zC i.s]) (λi=>i.s.Rep i.p i.B/\BOk i.p i.B/\0<=i.inst/\i.inst<i.B.length)
 (λi=> .tup [zWt (yU i.p i.B i.inst (zD i.sd)).1,yK (yU i.p i.B i.inst (zD i.sd)).2.1,yK (yU i.p i.B i.inst (zD i.sd)).2.2]) (λi=>[zC i.s])
structure bF where
 id:Int
 inst:Int
 side:Int
 price:Int
 qty:Int
 left:Int
 deriving DecidableEq
def yW (f:bF):List D:=[.v (.int .i64 f.id),.v (.int .i64 f.inst),.v (.int .i64 f.side),.v (.int .i64 f.price),.v (.int .i64 f.qty),.v (.int .i64 f.left)]
def x6 (inst s:Int):List zH->List Int->List bF
 |o::os,k::ks=>if 0<k then⟨o.id,inst,s,o.price,k,o.qty-k⟩::x6 inst s os ks else x6 inst s os ks
 |_,_=>[]
def jF (B:List (List zH)) (fs:List bF):List (List zH):=fs.foldl (λB f=>(kU B f.id f.qty).1) B
def zVw (B:List (List zH)) (inst s:Int):List zH:=atL (B.getD inst.toNat []) s (bestL (B.getD inst.toNat []) s).1.price
def kC (p:Prd) (B:List (List zH)) (inst s q:Int):List bF:=x6 inst s (zVw B inst s) (kQ ⟨p,zVw B inst s,q⟩)
structure TrI where
 s:MSt
 p:Prd
 B:List (List zH)
 inst:Int
 sd:Bool
 q:Int
def TrI.os (i:TrI):List zH:=zVw i.B i.inst (zD i.sd)
def TrI.sh (i:TrI):List Int:=kQ ⟨i.p,i.os,i.q⟩
def TrI.fs (i:TrI) (j:Nat):List bF:=x6 i.inst (zD i.sd) (i.os.take j) (i.sh.take j)
def tradeC:Con where
 ι:=TrI
 pat:=λi=>[.nm 0 0,.agg [zA i.inst,zA (zD i.sd)],zA i.q]
 pre:=λi=>[zC i.s]
 cnd:=λi=>i.s.Rep i.p i.B/\BOk i.p i.B/\0<=i.inst/\i.inst<i.B.length/\i64r i.q
 alts:=λi=>[{o:=MSt,res:=λ_=> .own 1,post:=λs=>[zC s,.own 302 6 ((kC i.p i.B i.inst (zD i.sd) i.q).map yW)],rel:=λs=>s.Rep i.p (jF i.B (kC i.p i.B i.inst (zD i.sd) i.q))}]
def yYr (i:TrI):List SAnn:=[{ι:=Nat×MSt,slots:=λj=>[(0,.nm 0 0),(11,.own 1),(44,zA j.1)],rows:=λj=>[zC j.2,.own 302 6 ((i.fs j.1).map yW)]}]
def yAe (b:Bool):Prop:=
 ∃(a:Unit),(zD !b)=aq.wrap (3-zD b)/\True
def yKm (i:GoI):Prop:=
 cnd (zD i.s==1) (cnd (decide (i.x<=i.p)) (∃(a:Unit),bM i.s i.p i.x=ap/\True) (cnd (zD i.s==2) (∃(a:Unit),bM i.s i.p i.x=decide (i.x>=i.p)/\True) (∃(a:Unit),bM i.s i.p i.x=ao/\True))) (cnd (zD i.s==2) (∃(a:Unit),bM i.s i.p i.x=decide (i.x>=i.p)/\True) (∃(a:Unit),bM i.s i.p i.x=ao/\True))
def zHo (a:MSt) (b:NxI):Prop:=sb a.p.code=sb b.s.p.code/\True/\a.p.tick=b.s.p.tick/\a.p.low=b.s.p.low/\a.p.high=b.s.p.high/\a.p.wide=b.s.p.wide/\a.p.rule=b.s.p.rule/\a.p.top=b.s.p.top/\a.p.least=b.s.p.least/\a.p.part=b.s.p.part/\True/\True
def fD (a:BsI):Prop:=(a.s=1\/a.s=2)/\a.l.length<=1000000
def zJc (a:NxI) (b:MSt) (c:Book):Prop:=sb a.s.p.code=sb b.p.code/\a.s.p.tick=b.p.tick/\a.s.p.low=b.p.low/\a.s.p.high=b.p.high/\a.s.p.wide=b.p.wide/\a.s.p.rule=b.p.rule/\a.s.p.top=b.p.top/\a.s.p.least=b.p.least/\a.s.p.part=b.p.part/\af 197 Book 6 zQ a.s.books au=af 197 Book 6 zQ (b.books.set a.inst.toNat c) au/\yR a.s.wh=yR b.wh/\ae 1 (iE a.s.p.months)=ae 1 (iE b.p.months)/\ae 1 (iE a.s.p.settle)=ae 1 (iE b.p.settle)/\True
def yA (a:NxI):=(yU a.p a.B a.inst (zD a.sd))
def zMt (a:NxI) (b:BsI) (c:MSt) (d:Book):Prop:=∃(e:Unit),(yA a).fst.price=(zY b.l b.s).fst.price/\(yA a).fst.qty=(zY b.l b.s).fst.qty/\(yA a).fst.a.inst=(zY b.l b.s).fst.a.inst/\(yA a).fst.a.side=(zY b.l b.s).fst.a.side/\(yA a).fst.b.inst=(zY b.l b.s).fst.b.inst/\(yA a).fst.b.side=(zY b.l b.s).fst.b.side/\(yA a).snd.fst=(zY b.l b.s).snd/\(yA a).snd.snd=(zY b.l b.s).snd/\zJc a c d
def zPt (a:NxI) (b:BkS) (c:MSt) (d:Book):Prop:=∃(e:Unit),(yA a).fst.price=(z5 b).fst.price/\(yA a).fst.qty=(z5 b).fst.qty/\(yA a).fst.a.inst=0/\(yA a).fst.a.side=0/\(yA a).fst.b.inst=0/\(yA a).fst.b.side=0/\(yA a).snd.fst=ao/\(yA a).snd.snd=ap/\zJc a c d
def zMo (a:eZ) (b:NxI) (c:MSt):Prop:=∃(d:BsI),aa zJ d.l=aa zJ (xL a.i (zD a.s))/\d.s=zD b.sd/\(fD d)/\∀(e:Unit),True->(0<=b.inst/\b.inst<(↑c.books.length:Int))/\b.inst.toNat<c.books.length/\∃(f:Book),c.books[b.inst.toNat]?=ar f/\∃(g:BkS),zD g.side=zD b.sd/\yB g.b=yB f/\(vQ g)/\∀(h:Unit),True->∃(j:Book),yB g.b=yB j/\dh b.inst.toNat/\b.inst.toNat<c.books.length/\cnd (z5 g).snd (cnd (zY d.l d.s).snd (∃(k:I3'),k.side=zD b.sd/\k.x=(zY d.l d.s).fst.price/\k.y=(z5 g).fst.price/\True/\∀(l:Unit),True->cnd (!btr k.side k.x k.y) (zPt b g c j) (zMt b d c j)) (zPt b g c j)) (zMt b d c j)
def zVx (a:MSt) (b:NxI):Prop:=(zHo a b)/\∃(c:eZ),sb c.i.p.code=sb b.s.p.code/\iE c.i.p.months=iE a.p.months/\c.i.p.tick=b.s.p.tick/\c.i.p.low=b.s.p.low/\c.i.p.high=b.s.p.high/\c.i.p.wide=b.s.p.wide/\c.i.p.rule=b.s.p.rule/\c.i.p.top=b.s.p.top/\c.i.p.least=b.s.p.least/\c.i.p.part=b.s.p.part/\iE c.i.p.settle=iE a.p.settle/\aa z7 c.i.tops=aa z7 a.tops/\c.i.inst=b.inst/\zD c.s=zD b.sd/\(qV c)/\∀(d:Unit),True->zMo c b a
def u7 (a:MSt):Prop:=a.books.length<=1000000/\∀(b:Book),b∈a.books->∀(c:cY),c∈b.a.queues->(-9223372036854775808)<=c.count/\c.count<=9223372036854775807
def ySe (i:NxI):Prop:=
 (∃(a:MSt),sb a.p.code=sb i.s.p.code/\a.p.tick=i.s.p.tick/\a.p.low=i.s.p.low/\a.p.high=i.s.p.high/\a.p.wide=i.s.p.wide/\a.p.rule=i.s.p.rule/\a.p.top=i.s.p.top/\a.p.least=i.s.p.least/\a.p.part=i.s.p.part/\af 197 Book 6 zQ a.books au=af 197 Book 6 zQ i.s.books au/\yR a.wh=yR i.s.wh/\ae 1 (iE a.p.months)=ae 1 (iE i.s.p.months)/\ae 1 (iE a.p.settle)=ae 1 (iE i.s.p.settle)/\(u7 a)/\∀(b:Unit),True->(zHo a i)/\(∃(c:eZ),sb c.i.p.code=sb i.s.p.code/\iE c.i.p.months=iE a.p.months/\c.i.p.tick=i.s.p.tick/\c.i.p.low=i.s.p.low/\c.i.p.high=i.s.p.high/\c.i.p.wide=i.s.p.wide/\c.i.p.rule=i.s.p.rule/\c.i.p.top=i.s.p.top/\c.i.p.least=i.s.p.least/\c.i.p.part=i.s.p.part/\iE c.i.p.settle=iE a.p.settle/\aa z7 c.i.tops=aa z7 a.tops/\c.i.inst=i.inst/\zD c.s=zD i.sd/\(qV c)/\∀(d:Unit),True->(zMo c i a)/\zMo c i a)/\zVx a i)/\(dh (sb i.s.p.code)/\True/\dh i.s.p.tick/\dh i.s.p.low/\dh i.s.p.high/\dh i.s.p.wide/\dh i.s.p.rule/\dh i.s.p.top/\dh i.s.p.least/\dh i.s.p.part/\True/\True)/\∃(a:MSt),sb a.p.code=sb i.s.p.code/\a.p.tick=i.s.p.tick/\a.p.low=i.s.p.low/\a.p.high=i.s.p.high/\a.p.wide=i.s.p.wide/\a.p.rule=i.s.p.rule/\a.p.top=i.s.p.top/\a.p.least=i.s.p.least/\a.p.part=i.s.p.part/\af 197 Book 6 zQ a.books au=af 197 Book 6 zQ i.s.books au/\yR a.wh=yR i.s.wh/\ae 1 (iE a.p.months)=ae 1 (iE i.s.p.months)/\ae 1 (iE a.p.settle)=ae 1 (iE i.s.p.settle)/\(u7 a)/\∀(b:Unit),True->zVx a i
def aM (a:AtI):=(aa vJ (atL a.L (zD a.s) a.price))
def zIk (a:Nat×MSt->Prop) (b:Nat×MSt) (c:Nat×MSt->Nat) (d:Nat×MSt) (e:AlI) (f:AtI) (g:BkS) (h:TrI):Prop:=a b/\c b<c d/\dh (ak 2 1 (iE (kQ e)))/\dh (ae 5 (aM f))/\dh (aj [V.d (dI (cI g)),V.d (dI (uQ g)),V.d (dI ((z5 g).fst.count))] 127)/\dh (aj [V.d (dI h.inst),V.d (dI (zD h.sd))] 169)/\dh (ae 1 (iE h.s.p.months))/\dh (ae 1 (iE h.s.p.settle))
def gY (a:TrI):=(kC a.p a.B a.inst (zD a.sd) a.q)
def cN (a:TrI):=(jF a.B (gY a))
def yKu (i:TrI):Prop:=
 (0<=i.inst/\i.inst<(↑i.s.books.length:Int))/\i.inst.toNat<i.s.books.length/\∃(a:Book),i.s.books[i.inst.toNat]?=ar a/\∃(b:BkS),zD b.side=zD i.sd/\yB b.b=yB a/\(vQ b)/\∀(c:Unit),True->∃(d:Book),yB b.b=yB d/\dh i.inst.toNat/\i.inst.toNat<i.s.books.length/\∃(e:Book),(i.s.books.set i.inst.toNat d)[i.inst.toNat]?=ar e/\∃(f:AtI),zD f.s=zD i.sd/\f.price=(z5 b).fst.price/\yB f.b=yB e/\f.b.Rep f.L/\∀(g:Unit),True->∃(h:Book),yB f.b=yB h/\dh i.inst.toNat/\i.inst.toNat<(i.s.books.set i.inst.toNat d).length/\∃(j:AlI),sb j.p.code=sb i.s.p.code/\iE j.p.months=iE i.s.p.months/\j.p.tick=i.s.p.tick/\j.p.low=i.s.p.low/\j.p.high=i.s.p.high/\j.p.wide=i.s.p.wide/\j.p.rule=i.s.p.rule/\j.p.top=i.s.p.top/\j.p.least=i.s.p.least/\j.p.part=i.s.p.part/\iE j.p.settle=iE i.s.p.settle/\aa vJ j.l=aa vJ (atL f.L (zD f.s) f.price)/\j.q=i.q/\(j.l.length<=1000/\((-9223372036854775808)<=j.q/\j.q<=9223372036854775807)/\((-9223372036854775808)<=j.p.least/\j.p.least<=9223372036854775807)/\((-9223372036854775808)<=j.p.top/\j.p.top<=9223372036854775807)/\(-9223372036854775808)<=j.p.part/\j.p.part<=9223372036854775807)/\∀(k:Unit),True->∃(l:Nat×MSt),(↑l.fst:Int)=0/\sb l.snd.p.code=sb i.s.p.code/\l.snd.p.tick=i.s.p.tick/\l.snd.p.low=i.s.p.low/\l.snd.p.high=i.s.p.high/\l.snd.p.wide=i.s.p.wide/\l.snd.p.rule=i.s.p.rule/\l.snd.p.top=i.s.p.top/\l.snd.p.least=i.s.p.least/\l.snd.p.part=i.s.p.part/\af 197 Book 6 zQ l.snd.books au=af 197 Book 6 zQ ((i.s.books.set i.inst.toNat d).set i.inst.toNat h) au/\yR l.snd.wh=yR i.s.wh/\ae 1 (iE l.snd.p.months)=ae 1 (iE i.s.p.months)/\ae 1 (iE l.snd.p.settle)=ae 1 (iE i.s.p.settle)/\aa yW (i.fs l.fst)=[]/\∃(m:Nat×MSt->Prop),∃(n:Nat×MSt->Nat),m l/\∀(p:Nat×MSt),m p->cnd (decide ((↑p.fst:Int)<(↑(iE (kQ j)).length:Int))) ((0<=(↑p.fst:Int)/\(↑p.fst:Int)<(↑(iE (kQ j)).length:Int))/\∃(q:Int),zE (iE (kQ j)) (↑p.fst:Int).toNat 0 1=ar [dI q]/\cnd (decide (q>0)) ((0<=(↑p.fst:Int)/\(↑p.fst:Int)<(↑(aM f).length:Int))/\∃(r:Int),∃(s:Int),∃(t:Int),∃(u:Int),∃(v:Bool),zE (aM f) (↑p.fst:Int).toNat 0 5=ar [dI r,dI s,dI t,dI u,D.v (.bool v)]/\∃(w:StI),w.id=r/\w.q=q/\zC w.s=zC p.snd/\(w.s.Rep w.p w.B/\w.B.length<=1000)/\∀(x:MSt),x.Rep w.p (kU w.B w.id w.q).fst->((aa yW (i.fs p.fst)).length+1)*(48:Nat)<=(140737488355328:Nat)/\∃(y:Nat×MSt),(↑y.fst:Int)=aq.wrap ((↑p.fst:Int)+1)/\zC y.snd=zC x/\aa yW (i.fs y.fst)=aa yW (i.fs p.fst)++[[dI r,dI i.inst,dI (zD i.sd),dI t,dI q,dI (aq.wrap (u-q))]]/\zIk m y n p j f b i) (∃(r:Nat×MSt),(↑r.fst:Int)=aq.wrap ((↑p.fst:Int)+1)/\zC r.snd=zC p.snd/\aa yW (i.fs r.fst)=aa yW (i.fs p.fst)/\zIk m r n p j f b i)) (∃(q:MSt),zC q=zC p.snd/\aa yW (gY i)=aa yW (i.fs p.fst)/\q.Rep i.p (cN i))
def lY {p:Prd} (hc:p.check=0) {k v:Int} (h:p.price k v=0): -2000000<=v/\v<=2000000:=by
 have ok:=kK hc;have:=ok.b1;have:=ok.b2;have:=ok.b3;have:=ok.b4;have:=ok.b5;rw[Prd.price]at h;by_cases c1:p.count=0
 ·rw[y8c c1]at h;cases h
 by_cases c2:k<0\/(p.count:Int)<=k
 ·rw[y7z c1,y8c c2]at h;cases h
 cases c3:qU p.tick v with
 |true=>rw[y7z c1,y7z c2,y8c c3]at h;cases h
 |false=>
  rw[y7z c1,y7z c2,y7z (by rw[c3];decide)]at h;by_cases c4:(p.months.length:Int)<=k
  ·simp only[y8c c4]at h;by_cases c5:v< -p.wide\/p.wide<v
   ·rw[y8c c5]at h;cases h
   ·omega
  ·simp only[y7z c4]at h;by_cases c5:v<p.low\/p.high<v
   ·rw[y8c c5]at h;cases h
   ·omega
def zAp {t:Int} (k:Int):qU t (t*k)=ao:=by
 simp[qU,Int.mul_tmod_right]
def zLd (x:Prd):(kprod x).small:=by
 have:=yFs x;refine⟨by simp[kprod],?_,?_⟩
 ·show(qO _).length<=_;rw[lE];omega
 ·show(kR _ _).length<=_;rw[mZ];omega
def m4 (x:Prd):(kprod x).check=0:=by
 have ht:=zGe x;have hn:=yFs x;have hw:=yV (n:=x.wide) (lo:=0) (hi:=60) oM;have hr:=yV (n:=x.rule) (lo:=0) (hi:=2) oM;have ho:=yV (n:=x.top) (lo:=0) (hi:=9) oM;have hl:=yV (n:=x.least) (lo:=0) (hi:=4) oM;have hp:=yV (n:=x.part) (lo:=0) (hi:=100) oM;have h1:wO (kprod x).code=ap:=by show wO [206,169]=ap;decide+kernel
 obtain⟨k,hk,hk1⟩:∃k:Nat,(kN x).toNat=k/\(2<=k/\k<=5):=⟨_,rfl,oM⟩
 have h2:xG (kprod x).months=ap:=by
  show xG (qO (kN x).toNat)=ap;rw[hk];have:k=2\/k=3\/k=4\/k=5:=by omega
  rcases this with rfl|rfl|rfl|rfl<;>decide
 have h3:qQ (kprod x)=ap:=by
  have a:qU (zV x) (-20*zV x)=ao:=by rw[xCk];exact zAp _
  have b:qU (zV x) (100*zV x)=ao:=by rw[xCk];exact zAp _
  have c:(kR (zV x) (kN x).toNat).any (qU (zV x))=ao:=by
   rw[xEg];intro y hy;obtain⟨j,_,rfl⟩:=y9m.1 hy;rw[zAp];decide
  simp only[qQ,kprod,a,b,c,zAp,xDd,Bool.and_true,y8o];exact⟨y8r oM,y8r oM⟩
 have mw:=lQ (a:=zV x) (b:=5+zG x.wide 0 60) (m:=zV x) (n:=65) oM oM;have h4:qS (kprod x)=ao:=by
  simp only[qS,kprod,xCf];exact⟨⟨⟨⟨y8n oM,y8n oM⟩,y8n oM⟩,y8n oM⟩,y8n oM⟩
 have h5:xM (kprod x)=ao:=by
  have e:(kR (zV x) (kN x).toNat).length=(qO (kN x).toNat).length:=by rw[mZ,lE]
  have ne:kR (zV x) (kN x).toNat≠[]:=by
   intro hc;have:=mZ (zV x) (kN x).toNat;rw[hc]at this;simp at this;omega
  have bd:∀y∈kR (zV x) (kN x).toNat,0<=y/\y<=zV x*15:=by
   intro y hy;obtain⟨j,hj,rfl⟩:=y9m.1 hy;have:=xBf.1 hj;exact lQ oM oM
  have m1:=bd _ (z0z ne);have m2:=bd _ (z2t ne);simp only[xM,kprod,e,ne_eq,not_true_eq_false,decide_false,xDy,xCf];exact⟨y8n oM,y8n oM⟩
 have h6:kL (kprod x)=ao:=by
  simp only[kL,kprod,xCf];exact⟨y8n oM,y8n oM⟩
 have h7:qA (kprod x)=ao:=by
  simp only[qA,kprod,xCf];exact⟨⟨⟨⟨⟨y8n oM,y8n oM⟩,y8n oM⟩,y8n oM⟩,y8n oM⟩,y8n oM⟩
 rw[Prd.check,h1,h2,h3,h4,h5,h6,h7];rfl
structure zWg (qs sh:List Int) (q:Int):Prop where
 len:sh.length=qs.length
 bd:∀n,0<=sh.getD n 0/\sh.getD n 0<=qs.getD n 0
 sum:sh.sum=q
def yFo:∀{l:List Int},(∀x∈l,0<=x)->0<=l.sum
 |[],_=>xBo 0
 |a::l,h=>by
  have:=yFo (l:=l) λx hx=>h x (y8i _ hx)
  have:=h a y8h;rw[y9p];omega
def z8f:∀{z:List (Int×Int)},(∀y∈z,0<=y.2/\y.2<=y.1)->(z.map (·.2)).sum<=(z.map (·.1)).sum
 |[],_=>xBo 0
 |a::l,h=>by
  have:=z8f (z:=l) λx hx=>h x (y8i _ hx)
  have:=h a y8h;rw[y8p,y8p,y9p,y9p];omega
def lH:∀(l:List Int) (q:Int),(∀x∈l,0<=x)->0<=q->q<=l.sum->zWg l (hY l q) q
 |[],q,_,h0,h1=>⟨rfl,λn=>by simp[hY],by simp at h1;simp[hY];omega⟩
 |n::l,q,h,h0,h1=>by
  have hn:=h n y8h;rw[y9p]at h1;have:=yFo λx hx=>h x (y8i _ hx)
  have ih:=lH l (q-min n q) (λx hx=>h x (y8i _ hx)) oM oM;refine⟨by rw[hY,y8f,y8f,ih.len],λk=> ?_,by rw[hY,y9p,ih.sum];omega⟩;cases k with
  |zero=>exact⟨by show 0<=min n q;omega,by show min n q<=n;omega⟩
  |succ k=>exact ih.bd k
def zCc:∀(z:List (Int×Int)) (q:Int),(∀y∈z,0<=y.2/\y.2<=y.1)->0<=q->q<=(z.map (·.1)).sum-(z.map (·.2)).sum->(wJ z q).length=z.length/\(∀n,0<=(wJ z q).getD n 0/\(wJ z q).getD n 0<=(z.map (·.1)).getD n 0)/\(wJ z q).sum=(z.map (·.2)).sum+q
 |[],q,_,h0,h1=>⟨rfl,λn=>by simp[wJ],by simp at h1;simp[wJ];omega⟩
 |(n,x)::r,q,h,h0,h1=>by
  have hn:=h (n,x) y8h;simp only[y8p,y9p]at h1;have:=z8f λy hy=>h y (y8i _ hy)
  have ih:=zCc r (q-min (n-x) q) (λy hy=>h y (y8i _ hy)) oM oM;refine⟨by rw[wJ,y8f,y8f,ih.1],λk=> ?_,by rw[wJ,y9p,ih.2.2,y8p,y9p];omega⟩;cases k with
  |zero=>exact⟨by show 0<=x+min (n-x) q;have:=hn.1;have:=hn.2;dsimp only at*;omega,by show x+min (n-x) q<=n;have:=hn.2;dsimp only at*;omega⟩
  |succ k=>exact ih.2.1 k
def yFm {l:List Int} {q:Int} (h1:l.length<=250) (h2:0<=q) (h3:∀x∈l,1<=x/\x<=1000000) (h4:q<=l.sum):yX l q=ap:=by
 rw[yX,y8r h1,y8r h2,y8r h4];simp only[xAy,Bool.and_true,xBh,y8o,y9o];exact h3
def zXp {i:PlI} (h:yX i.l i.q=ap) (hl:1<=i.least):zWg i.l (jK i) i.q:=by
 obtain⟨r1,r2,r3,r4⟩:=jP h;rw[jK,y8c ⟨h,hl⟩];by_cases hne:i.l.length=0
 ·have e:i.l=[]:=y9a hne;have hq:i.q=0:=by rw[e]at r4;simp at r4;omega
  have e0:i.p1=[]:=by rw[PlI.p1,e];rfl
  rw[e0,e,hq];exact⟨rfl,λn=>by simp,rfl⟩
 ·obtain⟨_,_,f1,f2⟩:=zGm h oM;have hpl:=z5o i;have m1:(i.l.zip i.p0).map (·.1)=i.l:=List.map_fst_zip oM
  have m2:(i.l.zip i.p0).map (·.2)=i.p0:=List.map_snd_zip oM
  have hp:=zCc (i.l.zip i.p0) (i.q-i.p0.sum) (λy hy=>by
   obtain⟨j,hj⟩:=xAr.1 hy;rw[xCs]at hj;exact f1 j _ _ hj.1 hj.2) oM (by rw[m1,m2];omega)
  rw[m1,m2]at hp;refine⟨?_,hp.2.1,?_⟩
  ·rw[PlI.p1,hp.1,List.length_zip,hpl,Nat.min_self]
  ·rw[PlI.p1,hp.2.2];omega
def zXh:∀{l:List Int} {k:Nat} {x:Int},k<l.length->(l.set k x).sum=l.sum+(x-l.getD k 0)
 |[],k,x,h=>absurd h (by simp)
 |a::l,0,x,_=>by
  show x+l.sum=a+l.sum+(x-a);omega
 |a::l,k+1,x,h=>by
  have:=zXh (l:=l) (k:=k) (x:=x) (by simpa using h);show a+(l.set k x).sum=a+l.sum+(x-l.getD k 0);omega
def zQk {l:List Int} {k n:Nat} {x:Int} (h:k<l.length):(l.set k x).getD n 0=if n=k then x else l.getD n 0:=by
 rw[y8j,xBr];by_cases e:k=n
 ·subst e;rw[y8c rfl,y8c h,y8c rfl];rfl
 ·rw[y7z e,y7z (λe2=>e e2.symm),y8j]
def z0k {l:List Int}:∀(z:List (Nat×Int)) (o:List Int),(z.map (·.1)).Nodup->(∀y∈z,y.1<o.length/\0<=y.2/\o.getD y.1 0+y.2<=l.getD y.1 0)->(∀n,0<=o.getD n 0/\o.getD n 0<=l.getD n 0/\l.getD n 0<=1000000)->
 (z.foldl (λo y=>o.set y.1 (aq.wrap (o.getD y.1 0+y.2))) o).length=o.length/\(z.foldl (λo y=>o.set y.1 (aq.wrap (o.getD y.1 0+y.2))) o).sum=o.sum+(z.map (·.2)).sum/\∀n,0<=(z.foldl (λo y=>o.set y.1 (aq.wrap (o.getD y.1 0+y.2))) o).getD n 0/\(z.foldl (λo y=>o.set y.1 (aq.wrap (o.getD y.1 0+y.2))) o).getD n 0<=l.getD n 0
 |[],o,_,_,h=>⟨rfl,by simp,λn=>⟨(h n).1,(h n).2.1⟩⟩
 |y::z,o,hn,hz,h=>by
  obtain⟨h1,h2,h3⟩:=hz y y8h;rw[y8p,xAq]at hn;have hw:aq.wrap (o.getD y.1 0+y.2)=o.getD y.1 0+y.2:=by
   have:=h y.1;exact w64 oM
  rw[xBt,hw];have ih:=z0k (l:=l) z (o.set y.1 (o.getD y.1 0+y.2)) hn.2 (λx hx=>by
   obtain⟨g1,g2,g3⟩:=hz x (y8i _ hx);have hne:x.1≠y.1:=λe=>hn.1 (e▸y9e (f:=(·.1)) hx)
   rw[y9j,zQk h1,y7z hne];exact⟨g1,g2,g3⟩) (λn=>by
   rw[zQk h1];split
   ·rename_i e;rw[e];exact⟨by have:=h y.1;omega,h3,(h y.1).2.2⟩
   ·exact h n)
  refine⟨by rw[ih.1,y9j],?_,ih.2.2⟩;rw[ih.2.1,zXh h1,y8p,y9p];omega
def zOf (l:List Int):(List.range l.length).map (λn=>l.getD n 0)=l:=by
 apply xBx;intro n;rw[y9r];by_cases h:n<l.length
 ·rw[xCi h,y9b h,xAd,y8j,y9b h];rfl
 ·rw[y9h (by simpa using h),y9h (by omega)];rfl
def z7c {f g:Nat->Int}:∀l:List Nat,(l.map λn=>f n-g n).sum=(l.map f).sum-(l.map g).sum
 |[]=>rfl
 |a::l=>by rw[y8p,y8p,y8p,y9p,y9p,y9p,z7c l];omega
def zPe {f:Nat->Int} {p:Nat->Bool}:∀{l:List Nat},(∀n∈l,p n=ao->f n=0)->((l.filter p).map f).sum=(l.map f).sum
 |[],_=>rfl
 |a::l,h=>by
  have ih:=zPe (l:=l) λn hn=>h n (y8i _ hn)
  rw[y8p,y9p];by_cases e:p a=ap
  ·rw[xCz e,y8p,y9p,ih]
  ·rw[xDa e,ih,h a y8h (by simpa using e)];omega
def lF {i:RsI} (hl:i.l.length<=250) (ho:i.out.length=i.l.length) (hn:∀n,0<=i.out.getD n 0/\i.out.getD n 0<=i.l.getD n 0/\i.l.getD n 0<=1000000) (hq:0<=i.q/\i.q<=i.l.sum-i.out.sum) (hle:1<=i.least):
 zWg i.l (pL i) (i.out.sum+i.q):=by
 have hidx:(i.idx i.l.length).length<=250:=xAw (xBn _ _) (by simpa using hl);have hmem:∀n∈i.idx i.l.length,n<i.l.length/\i.out.getD n 0<i.l.getD n 0:=by
  intro n hn;obtain⟨a,b⟩:=xAa.1 hn;exact⟨xBf.1 a,y9i b⟩
 have hls:(i.left i.l.length).sum=i.l.sum-i.out.sum:=by
  rw[RsI.left,RsI.idx,zPe,z7c,zOf]
  ·rw[<- ho,zOf]
  ·intro n _ e;have:=xCp e;have:=hn n;omega
 have hr:yX (i.left i.l.length) i.q=ap:=by
  refine yFm (by rw[RsI.left,y8b];exact hidx) hq.1 (λx hx=> ?_) oM;obtain⟨n,hm,rfl⟩:=y9m.1 hx;have:=hmem n hm;have:=hn n;omega
 have hp:=zXp (i:=⟨i.left i.l.length,i.least,i.q⟩) hr hle;have hpl:i.pl.length=(i.idx i.l.length).length:=by
  have:=hp.len;rw[RsI.pl,this,RsI.left,y8b]
 have hnd:(i.idx i.l.length).Nodup:=List.nodup_range.sublist xDw;have z1:((i.idx i.l.length).zip i.pl).map (·.1)=i.idx i.l.length:=List.map_fst_zip oM
 have z2:((i.idx i.l.length).zip i.pl).map (·.2)=i.pl:=List.map_snd_zip oM
 have hf:=z0k (l:=i.l) ((i.idx i.l.length).zip i.pl) i.out (by rw[z1];exact hnd) (λy hy=>by
  obtain⟨j,hj⟩:=xAr.1 hy;rw[xCs]at hj;have hm:=hmem y.1 (y8m hj.1);have hb:=hp.bd j;have e1:(jK ⟨i.left i.l.length,i.least,i.q⟩).getD j 0=y.2:=by
   rw[y8j];have:(jK ⟨i.left i.l.length,i.least,i.q⟩)[j]? =ar y.2:=hj.2;rw[this];rfl
  have e2:(i.left i.l.length).getD j 0=i.l.getD y.1 0-i.out.getD y.1 0:=by
   rw[y8j,RsI.left,y9r,hj.1];rfl
  dsimp only at hb;rw[e1,e2]at hb;exact⟨oM,hb.1,oM⟩) hn
 have hall:pL i=((i.idx i.l.length).zip i.pl).foldl (λo y=>o.set y.1 (aq.wrap (o.getD y.1 0+y.2))) i.out:=by
  rw[pL,RsI.add,y8l (by rw[List.length_zip];omega)]
 rw[hall];refine⟨by rw[hf.1,ho],hf.2.2,?_⟩;rw[hf.2.1,z2];have:=hp.sum;rw[RsI.pl,this]
def z9m {l:List Int} (h:∀x∈l,1<=x/\x<=1000000) (n:Nat):0<=l.getD n 0/\l.getD n 0<=1000000:=by
 by_cases hn:n<l.length
 ·obtain⟨x,hx⟩:=yC hn;have:=h x (y8m hx);rw[zW hx];omega
 ·rw[y8j,y9h (by omega)];decide
def yXm (n k:Nat):(ab n (0:Int)).getD k 0=0:=by
 rw[y8j,List.getElem?_replicate];split<;>rfl
def zNa (n:Nat):(ab n (0:Int)).sum=0:=by
 induction n with
 |zero=>rfl
 |succ n ih=>rw[xCh,y9p,ih];rfl
def yZd {q part:Int} (hq:0<=q) (h0:0<=part) (h1:part<=100):0<=q*part / 100/\q*part / 100<=q:=by
 have h2:0<=q*part:=xEh hq h0;have h3:q*part<=q*100:=xCy h1 hq;constructor<;>omega
def zVe {p:Prd} (hc:p.check=0) {l:List zH} {q:Int} (hr:yX (l.map (·.qty)) q=ap):zWg (l.map (·.qty)) (kQ ⟨p,l,q⟩) q:=by
 have ok:=kK hc;obtain⟨r1,r2,r3,r4⟩:=jP hr;have q1:=ok.q1;have q3:=ok.q3;have q5:=ok.q5;have q6:=ok.q6;have r5:=ok.r1;have r6:=ok.r2;have gb:=z9m r3;have eqs:(AlI.qs ⟨p,l,q⟩)=l.map (·.qty):=rfl
 rw[kQ];simp only[eqs];generalize l.map (·.qty)=qs at*
 by_cases c1:p.rule=1
 ·rw[y8c c1,gI,y8c hr];exact lH _ _ (λx hx=>by have:=r3 x hx;omega) r2 r4
 by_cases c2:p.rule=2
 ·rw[y7z c1,y8c c2,zGt,y8c ⟨hr,q3,q1⟩];rw[PsI.rs];dsimp only;split
  ·rename_i ht;have hk:(topI l).toNat<(ab qs.length (0:Int)).length:=by simp;omega
   have hf:0<=PsI.first ⟨qs,topI l,p.top,p.least,q⟩/\PsI.first ⟨qs,topI l,p.top,p.least,q⟩<=qs.getD (topI l).toNat 0/\PsI.first ⟨qs,topI l,p.top,p.least,q⟩<=q:=by
    have:=gb (topI l).toNat;simp only[PsI.first];omega
   have hs:((ab qs.length (0:Int)).set (topI l).toNat (PsI.first ⟨qs,topI l,p.top,p.least,q⟩)).sum=PsI.first ⟨qs,topI l,p.top,p.least,q⟩:=by
    rw[zXh hk,zNa,yXm];omega
   have:=lF (i:=⟨qs,(ab qs.length 0).set (topI l).toNat (PsI.first ⟨qs,topI l,p.top,p.least,q⟩),p.least,q-PsI.first ⟨qs,topI l,p.top,p.least,q⟩⟩) r1 (by simp) (λn=>by
    dsimp only;rw[zQk hk,yXm];have:=gb n;split
    ·rename_i e;rw[e];exact⟨hf.1,hf.2.1,(gb _).2⟩
    ·omega) (by dsimp only;rw[hs];omega) q3
   dsimp only at this;rw[hs]at this;have e:PsI.first ⟨qs,topI l,p.top,p.least,q⟩+(q-PsI.first ⟨qs,topI l,p.top,p.least,q⟩)=q:=by omega
   rw[e]at this;exact this
  ·have:=lF (i:=⟨qs,ab qs.length 0,p.least,q⟩) r1 (by simp) (λn=>by
    dsimp only;rw[yXm];have:=gb n;omega) (by dsimp only;rw[zNa];omega) q3
   dsimp only at this;rw[zNa,Int.zero_add]at this;exact this
 ·have c3:p.rule=3:=by omega
  rw[y7z c1,y7z c2,y8c c3,zDo,y8c ⟨hr,q5,q6,q3⟩];rw[SpI.rs];dsimp only;obtain⟨d1,d2⟩:=yZd r2 q5 q6;have hr2:yX qs (q*p.part / 100)=ap:=yFm r1 d1 r3 oM;have hfs:=lH qs (q*p.part / 100) (λx hx=>by have:=r3 x hx;omega) d1 oM;have e0:gI qs (q*p.part / 100)=hY qs (q*p.part / 100):=by rw[gI,y8c hr2]
  have:=lF (i:=⟨qs,gI qs (q*p.part / 100),p.least,q-q*p.part / 100⟩) r1 (by dsimp only;rw[e0];exact hfs.len) (λn=>by
   dsimp only;rw[e0];exact⟨(hfs.bd n).1,(hfs.bd n).2,(gb n).2⟩) (by dsimp only;rw[e0,hfs.sum];omega) q3
  dsimp only at this;rw[e0,hfs.sum]at this;rw[e0];have e:q*p.part / 100+(q-q*p.part / 100)=q:=by omega
  rw[e]at this;exact this
def z5r {p:Prd} {l:List zH} {q:Int} (hr:yX (l.map (·.qty)) q=ao):kQ ⟨p,l,q⟩=[]:=by
 have eqs:(AlI.qs ⟨p,l,q⟩)=l.map (·.qty):=rfl
 rw[kQ];simp only[eqs,gI,zGt,zDo,hr];simp
def zTa:motherC.ok Tryz.prog 183:=okw (V:=yAe) mixed gok0 0 (λ_=>[]) (λ_=>[]) [] Tryz.func183 λ(b:Bool) _=>by
 unfold yAe;cases b<;>exact⟨(),Z8,trivial⟩
def zYk:mgoodC.ok Tryz.prog 184:=okw (V:=yKm) mixed gok0 0 (λ_=>[]) (λ_=>[]) [] Tryz.func184 λ(i:GoI) _=>by
 obtain⟨s,p,x⟩:=i;unfold yKm;cases s
 ·refine Cv.cnd.mk (λ_=>zI (λc=>⟨(),?_,trivial⟩) (λc=>Cv.cnd.mk (λe=>by simp[zD]at e) (λ_=>⟨(),?_,trivial⟩))) (λe=>by simp[zD]at e)
  ·exact y8r c
  ·exact y8n c
 ·exact Cv.cnd.mk (λe=>by simp[zD]at e) (λ_=>Cv.cnd.mk (λ_=>⟨(),rfl,trivial⟩) (λe=>by simp[zD]at e))
def z1b {L:List zH} {s:Int}:((bestL L s).2=ap/\∃o∈L,o.side=s/\o.price=(bestL L s).1.price)\/(bestL L s=(⟨0,0,0⟩,ao)/\∀o∈L,o.side≠s):=by
 rw[bestL];cases hl:gK L s with
 |nil=>
  refine .inr ⟨rfl,λo ho e=> ?_⟩;rw[gK]at hl;cases hf:L.filter λo=>decide (o.side=s)with
  |nil=>
   rw[List.filter_eq_nil_iff]at hf;have:=hf o ho;simp[e]at this
  |cons x y=>
   rw[hf,grp]at hl;split at hl
   ·cases hl
   ·split at hl<;>cases hl
 |cons v vs=>
  refine .inl ⟨rfl,?_⟩;rw[gK]at hl;obtain⟨o,r,e1,e2⟩:=zPr hl;have:o∈L.filter λo=>decide (o.side=s):=by rw[e1];exact y8h
  rw[xAa]at this;exact⟨o,this.1,by simpa using this.2,e2⟩
def zUy {L:List zH} {s:Int} (h:∀o∈L,-2000000<=o.price/\o.price<=2000000): -2000000<=(bestL L s).1.price/\(bestL L s).1.price<=2000000:=by
 rcases z1b (L:=L) (s:=s)with⟨_,o,ho,_,e⟩|⟨e,_⟩
 ·rw[<- e];exact h o ho
 ·rw[e];constructor<;>decide
def zLw (L:List zH):(qH L).p1=(bestL L 1).1.price/\(qH L).q1=(bestL L 1).1.qty/\(qH L).has1=(bestL L 1).2/\(qH L).p2=(bestL L 2).1.price/\(qH L).q2=(bestL L 2).1.qty/\(qH L).has2=(bestL L 2).2:=by
 have h:∀s,(bestL L s).2=ap\/bestL L s=(⟨0,0,0⟩,ao):=λs=>by
  rcases z1b (L:=L) (s:=s)with⟨h,_⟩|⟨h,_⟩
  ·exact .inl h
  ·exact .inr h
 rw[qH,Top.sell,Top.buy];rcases h 1 with h1|h1<;>rcases h 2 with h2|h2<;>simp[h1,h2,top0]
def BOk.prices {p:Prd} {B:List (List zH)} (h:BOk p B) {k:Nat} {L:List zH} (hL:B[k]? =ar L):∀o∈L,-2000000<=o.price/\o.price<=2000000:=λo ho=>lY h.pc (h.pr k L hL o ho)
def BOk.tops {p:Prd} {B:List (List zH)} (h:BOk p B):vG (B.map qH):=by
 have:=xJ p;refine⟨by rw[y8b,h.bl];omega,λt ht=> ?_⟩;obtain⟨L,hL,rfl⟩:=y9m.1 ht;obtain⟨k,hk⟩:=xAr.1 hL;have b1:=zUy (s:=1) (h.prices hk);have b2:=zUy (s:=2) (h.prices hk);rw[(zLw L).1,(zLw L).2.2.2.1];exact⟨by constructor<;>omega,by constructor<;>omega⟩
def MSt.Rep.tops {s:MSt} {p:Prd} {B:List (List zH)} (h:s.Rep p B):s.tops=B.map qH:=by
 rw[MSt.tops];apply xBx;intro k;rw[y9r,y9r];by_cases hk:k<B.length
 ·obtain⟨L,hL⟩:=yC hk;obtain⟨b,hb⟩:=yC (l:=s.books) (i:=k) (by rw[h.bl];exact hk);rw[hL,hb,xAd,xAd,(h.bk k b L hb hL).top]
 ·rw[y9h (by rw[h.bl];omega),y9h (by omega)];rfl
def MSt.Rep.cnt {s:MSt} {p:Prd} {B:List (List zH)} (h:s.Rep p B) (hB:B.length<=1000000):s.cntOk:=by
 refine⟨by rw[h.bl];exact hB,λb hb=> ?_⟩;obtain⟨k,hk⟩:=xAr.1 hb;have hlt:=(y8e.1 hk).1;rw[h.bl]at hlt;obtain⟨L,hL⟩:=yC hlt;exact(h.bk k b L hk hL).cnt
def zZi {b:Book} {L:List zH} (h:b.Rep L) (sd:Bool):b.best (b.side sd)=bestL L (zD sd):=by
 obtain⟨Q,c,ht,rfl⟩:=h;cases sd
 ·exact c.bestL (.inl rfl)
 ·exact c.bestL (.inr rfl)
def zGd (sd:Bool):zD sd=1\/zD sd=2:=by cases sd;exact .inl rfl;exact .inr rfl
def y4i (i:NxI) (h:nextC.cnd i):ySe i:=by
 obtain⟨hR,hB,h0,h1⟩:i.s.Rep i.p i.B/\BOk i.p i.B/\0<=i.inst/\i.inst<i.B.length:=h;have hcl:=xJ i.p;have hbl:=hB.bl;have hsl:=hR.bl;obtain⟨k,hk⟩:∃k:Nat,i.inst=k:=⟨i.inst.toNat,oM⟩
 obtain⟨L,hL⟩:=yC (l:=i.B) (i:=k) oM;obtain⟨b,hb⟩:=yC (l:=i.s.books) (i:=k) oM;have hbR:=hR.bk k b L hb hL;have hps:i.s.p.small:=by rw[hR.ep];exact hB.ps
 have hto:vG i.s.tops:=by rw[hR.tops];exact hB.tops
 have hnx:yU i.p i.B i.inst (zD i.sd)=if((bestL L (zD i.sd)).2 && !((zY (xL ⟨i.s.p,i.s.tops,i.inst⟩ (zD i.sd)) (zD i.sd)).2 && btr (zD i.sd) (zY (xL ⟨i.s.p,i.s.tops,i.inst⟩ (zD i.sd)) (zD i.sd)).1.price (bestL L (zD i.sd)).1.price))=ap then(⟨(bestL L (zD i.sd)).1.price,(bestL L (zD i.sd)).1.qty,⟨0,0⟩,⟨0,0⟩⟩,ao,ap)else((zY (xL ⟨i.s.p,i.s.tops,i.inst⟩ (zD i.sd)) (zD i.sd)).1,(zY (xL ⟨i.s.p,i.s.tops,i.inst⟩ (zD i.sd)) (zD i.sd)).2,(zY (xL ⟨i.s.p,i.s.tops,i.inst⟩ (zD i.sd)) (zD i.sd)).2):=by
  rw[yU,hR.tops,hR.ep,hk,y8s,zW hL]
 have hbest:=zZi hbR i.sd;unfold ySe u7 zVx qV u6 zMo vQ zPt z5 zMt yA zJc fD zHo;have hcnt:i.s.cntOk:=hR.cnt oM;have hql:(xL ⟨i.s.p,i.s.tops,i.inst⟩ (zD i.sd)).length<=1000000:=by
  have:=xAw (xBn (λq=>decide (i.s.p.price i.inst q.price=0)) _) (zEy ⟨i.s.p,i.s.tops,i.inst⟩ (zD i.sd));exact xAw this Z8
 refine(λhT=>⟨⟨i.s,rF8 (rF4 ⟨rfl,hcnt,λ_ _=>⟨⟨rfl,trivial,rF7 ⟨rfl,trivial,trivial⟩⟩,⟨⟨⟨i.s.p,i.s.tops,i.inst⟩,i.sd⟩,rF8 (rF5 ⟨rfl,⟨hps,hto⟩,λ_ _=>⟨hT,hT⟩⟩)⟩,⟨rfl,trivial,rF7 ⟨rfl,trivial,trivial⟩⟩,⟨⟨⟨i.s.p,i.s.tops,i.inst⟩,i.sd⟩,rF8 (rF5 ⟨rfl,⟨hps,hto⟩,λ_ _=>hT⟩)⟩⟩⟩)⟩,
  ⟨rfl,trivial,rF7 ⟨rfl,trivial,trivial⟩⟩,⟨i.s,rF8 (rF4 ⟨rfl,hcnt,λ_ _=>⟨⟨rfl,trivial,rF7 ⟨rfl,trivial,trivial⟩⟩,⟨⟨⟨i.s.p,i.s.tops,i.inst⟩,i.sd⟩,rF8 (rF5 ⟨rfl,⟨hps,hto⟩,λ_ _=>hT⟩)⟩⟩⟩)⟩⟩) ?_
 refine⟨⟨xL ⟨i.s.p,i.s.tops,i.inst⟩ (zD i.sd),zD i.sd⟩,rfl,rfl,⟨zGd _,hql⟩,λ_ _=>⟨⟨h0,oM⟩,oM,b,by rw[hk];exact hb,⟨i.sd,b⟩,rfl,rfl,hbR.cnt,λ_ _=>⟨b,rfl,rfl,oM,?_⟩⟩⟩;dsimp only;rw[hbest];generalize bestL L (zD i.sd)=l at*;generalize zY (xL ⟨i.s.p,i.s.tops,i.inst⟩ (zD i.sd)) (zD i.sd)=bq at*;have hset:i.s.books.set i.inst.toNat b=i.s.books:=uY (by rw[hk];exact hb);rw[hset];refine Cv.cnd.mk (λc1=>Cv.cnd.mk (λc2=>⟨⟨zD i.sd,bq.1.price,l.1.price⟩,rfl,rfl,rfl,trivial,λ_ _=>Cv.cnd.mk (λc3=> ?_) (λc3=> ?_)⟩) (λc2=> ?_)) (λc1=> ?_)
 ·dsimp only at c3;rw[y8c (by rw[c1,c2];simpa using c3)]at hnx;rw[hnx];exact⟨(),k0q⟩
 ·dsimp only at c3;rw[y7z (by rw[c1,c2];simpa using c3)]at hnx;rw[hnx];exact⟨(),k0q⟩
 ·rw[y8c (by rw[c1,c2];rfl)]at hnx;rw[hnx];exact⟨(),k0q⟩
 ·rw[y7z (by rw[c1];simp)]at hnx;rw[hnx];exact⟨(),k0q⟩
def yOl:nextC.ok Tryz.prog 190:=okw mixed (gokc z1o (gokc zHh (gokc zZn (gokc zLx (gokc mD gok0))))) 0 (λ_=>[]) (λ_=>[]) [0] Tryz.func190 y4i
def z7w (i:RsI) (k:Nat):(i.add k).length=i.out.length:=by
 have:∀(l:List (Nat×Int)) (o:List Int),(l.foldl (λo y=>o.set y.1 (aq.wrap (o.getD y.1 0+y.2))) o).length=o.length:=by
  intro l
  induction l with
  |nil=>intro o;rfl
  |cons x l ih=>intro o;rw[xBt,ih,y9j]
 exact this _ _
def zYn (l:List Int) (q:Int):(gI l q).length<=l.length:=by
 rw[gI];split
 ·rw[lZ];exact y8w _
 ·exact y9c _
def yBt (i:AlI):(kQ i).length<=i.l.length:=by
 have hq:i.qs.length=i.l.length:=by simp[AlI.qs]
 rw[kQ,<- hq]
 repeat' split
 ·exact zYn _ _
 ·rw[zGt];split
  ·rw[pL,z7w,PsI.rs];split
   ·simp
   ·simp
  ·exact y9c _
 ·rw[zDo];split
  ·rw[pL,z7w];exact zYn _ _
  ·exact y9c _
 ·exact y9c _
def zOt {inst s:Int}:∀{os:List zH} {sh:List Int} {j:Nat} {o:zH} {k:Int},os[j]? =ar o->sh[j]? =ar k->x6 inst s (os.take (j+1)) (sh.take (j+1))=x6 inst s (os.take j) (sh.take j)++(if 0<k then[⟨o.id,inst,s,o.price,k,o.qty-k⟩]else[])
 |[],_,_,_,_,h,_=>by simp at h
 |_::_,[],_,_,_,_,h=>by simp at h
 |o::os,k::sh,0,_,_,h,h2=>by
  cases h;cases h2;rw[y9l,y9l,xCo,xCo,xCo,xCo,x6];split<;>rfl
 |o::os,k::sh,j+1,o',k',h,h2=>by
  rw[y9l,y9l,x6,y9l,y9l,x6,zOt (os:=os) (sh:=sh) (j:=j) h h2];split<;>rfl
def zTw {inst s:Int}:∀(os:List zH) (sh:List Int),x6 inst s (os.take sh.length) (sh.take sh.length)=x6 inst s os sh
 |[],sh=>by simp
 |_::_,[]=>by simp[x6]
 |o::os,k::sh=>by
  rw[y8f,y9l,y9l,x6,x6,zTw os sh]
def yBq (B:List (List zH)) (a b:List bF):jF B (a++b)=jF (jF B a) b:=xCx
def nO (B:List (List zH)) (id q:Int):(kU B id q).1.length=B.length:=by
 rw[kU];split
 ·rfl
 ·simp
def uM:∀(fs:List bF) (B:List (List zH)),(jF B fs).length=B.length
 |[],B=>rfl
 |f::fs,B=>by
  show(jF (kU B f.id f.qty).1 fs).length=_;rw[uM fs,nO]
def yWa {p:Prd} (h:p.check=0):i64r p.least/\i64r p.top/\i64r p.part:=by
 have ok:=kK h;have:=ok.q1;have:=ok.q2;have:=ok.q3;have:=ok.q4;have:=ok.q5;have:=ok.q6;exact⟨⟨oM,oM⟩,⟨oM,oM⟩,⟨oM,oM⟩⟩
def yUo (i:TrI) (h:tradeC.cnd i):yKu i:=by
 obtain⟨hR,hB,h0,h1,hq⟩:i.s.Rep i.p i.B/\BOk i.p i.B/\0<=i.inst/\i.inst<i.B.length/\i64r i.q:=h;have hcl:=xJ i.p;have hbl:=hB.bl;have hsl:=hR.bl;have ep:=hR.ep;obtain⟨k,hk⟩:∃k:Nat,i.inst=k:=⟨i.inst.toNat,oM⟩
 obtain⟨L,hL⟩:=yC (l:=i.B) (i:=k) oM;obtain⟨b,hb⟩:=yC (l:=i.s.books) (i:=k) oM;have hbR:=hR.bk k b L hb hL;have hbest:=zZi hbR i.sd;have hos:atL L (zD i.sd) (bestL L (zD i.sd)).1.price=i.os:=by rw[TrI.os,zVw,hk,y8s,zW hL]
 have hset:i.s.books.set i.inst.toNat b=i.s.books:=uY (by rw[hk];exact hb);have hosl:i.os.length<=250:=by
  rw[<- hos];exact xAw (xBn _ _) hbR.ords.2.2
 have hsh:i.sh.length<=i.os.length:=yBt _;obtain⟨k1,k2,k3⟩:=yWa hB.pc;have hsb:∀(j:Nat) (n:Int),i.sh[j]? =ar n->n<=1000000:=by
  intro j n hn;cases hr:yX (i.os.map (·.qty)) i.q with
  |false=>
   have:i.sh=[]:=z5r hr;rw[this]at hn;cases hn
  |true=>
   have:=(zVe hB.pc hr).bd j;have e:(kQ ⟨i.p,i.os,i.q⟩).getD j 0=n:=zW hn;rw[e]at this;have:=(z9m (jP hr).2.2.1 j).2;omega
 unfold yKu zIk uQ cI aM cN gY z5 vQ dI;refine⟨⟨h0,oM⟩,oM,b,by rw[hk];exact hb,⟨i.sd,b⟩,rfl,rfl,hbR.cnt,λ_ _=> ?_⟩;refine⟨b,rfl,rfl,oM,b,by rw[hset,hk];exact hb,⟨b,L,i.sd,(bestL L (zD i.sd)).1.price⟩,rfl,by dsimp only;rw[hbest],rfl,hbR,λ_ _=> ?_⟩;dsimp only
 try rw[hbest]
 rw[hset,hos];refine⟨b,rfl,rfl,oM,⟨i.p,i.os,i.q⟩,by rw[ep],by rw[ep],by rw[ep],by rw[ep],by rw[ep],by rw[ep],by rw[ep],by rw[ep],by rw[ep],by rw[ep],by rw[ep],rfl,rfl,⟨Z9,hq,k1,k2,k3⟩,λ_ _=> ?_⟩;have esh:kQ ⟨i.p,i.os,i.q⟩=i.sh:=rfl;rw[esh,hset,yZ,y8b];refine⟨(0,i.s),rF8 (rF6 ⟨rfl,λj=>j.2.Rep i.p (jF i.B (i.fs j.1))/\j.1<=i.sh.length,λj=>i.sh.length-j.1,⟨hR,y9c _⟩,λj hj=> ?_⟩)⟩;obtain⟨hjR,hjl⟩:=hj;obtain⟨j,sj⟩:=j;dsimp only at hjR hjl ⊢;refine zI (λc=> ?_) (λc=> ?_)
 ·obtain⟨n,hn⟩:=yC (l:=i.sh) (i:=j) oM;obtain⟨o,ho⟩:=yC (l:=i.os) (i:=j) oM;have hst:=zOt (inst:=i.inst) (s:=zD i.sd) ho hn;have hoL:o∈L:=by
   have:=y8m ho;rw[<- hos]at this;exact(xAa.1 this).1
  have hoq:=(hbR.ords.1 o hoL).q;have hnb:=hsb j n hn;refine⟨⟨oM,oM⟩,n,elI hn,zI (λc2=> ?_) (λc2=> ?_)⟩
  ·rw[y8c (show 0<n from c2)]at hst;have hfl:(i.fs j).length<=j:=by
    have:∀(os:List zH) (sh:List Int),(x6 i.inst (zD i.sd) os sh).length<=os.length:=by
     intro os
     induction os with
     |nil=>intro sh;exact y8w 0
     |cons o os ih=>
      intro sh;cases sh with
      |nil=>exact y9c _
      |cons k sh=>
       have:=ih sh;rw[x6];split
       ·simp only[y8f];omega
       ·simp only[y8f];omega
    exact xAw (this _ _) (by rw[y8t];omega)
   refine⟨⟨oM,oM⟩,o.id,o.side,o.price,o.qty,o.top,yUy ho,⟨sj,i.p,jF i.B (i.fs j),o.id,n⟩,rfl,rfl,rfl,⟨hjR,by dsimp only;rw[uM];omega⟩,λs' hs'=>⟨by rw[y8b];omega,(j+1,s'),wjn oM,rfl,?_,⟨?_,Z9⟩,Z9,k0q⟩⟩
   ·show aa yW (x6 i.inst (zD i.sd) (i.os.take (j+1)) (i.sh.take (j+1)))=_;rw[hst,y8k,w64 (by omega)];rfl
   ·show s'.Rep i.p (jF i.B (x6 i.inst (zD i.sd) (i.os.take (j+1)) (i.sh.take (j+1))));rw[hst,yBq];exact hs'
  ·rw[y7z (show ¬0<n from c2),y8x]at hst;refine⟨(j+1,sj),wjn oM,rfl,?_,⟨?_,Z9⟩,Z9,k0q⟩
   ·show aa yW (x6 i.inst (zD i.sd) (i.os.take (j+1)) (i.sh.take (j+1)))=_;rw[hst];rfl
   ·show sj.Rep i.p (jF i.B (x6 i.inst (zD i.sd) (i.os.take (j+1)) (i.sh.take (j+1))));rw[hst];exact hjR
 ·have hje:j=i.sh.length:=by omega
  subst hje;have hfa:i.fs i.sh.length=kC i.p i.B i.inst (zD i.sd) i.q:=zTw _ _;rw[hfa]at hjR ⊢;exact⟨sj,rfl,rfl,hjR⟩
def yId:tradeC.ok Tryz.prog 191:=okw mixed (gokc zLx (gokc y5a (gokc yFj (gokc zGx gok0)))) 0 (λ_=>[]) (λi=>yYr i) [0] Tryz.func191 yUo
structure wA where
 price:Int
 qty:Int
 implied:Bool
 fills:List bF
 deriving DecidableEq
def wP (t:wA):List D:=[.v (.int .i64 t.price),.v (.int .i64 t.qty),.v (.bool t.implied),.ro 6 (t.fills.map yW)]
def mR (p:Prd) (B:List (List zH)) (inst:Int) (sd:Bool) (price qty:Int):Option (wA×List (List zH)):=
 let n:=yU p B inst (zD (!sd))
 if(n.2.2 && (bM sd price n.1.price && decide (1<=n.1.qty)))=ap then
  if n.2.1=ap then
   let f1:=kC p B n.1.a.inst n.1.a.side (min qty n.1.qty)
   let f2:=kC p (jF B f1) n.1.b.inst n.1.b.side (min qty n.1.qty)
   ar (⟨n.1.price,min qty n.1.qty,ap,f1++f2⟩,jF (jF B f1) f2)
  else
   let f:=kC p B inst (zD (!sd)) (min qty n.1.qty)
   ar (⟨n.1.price,min qty n.1.qty,ao,f⟩,jF B f)
 else au
structure yUm where
 steps:List wA
 left:Int
 B:List (List zH)
def zLh (p:Prd) (inst:Int) (sd:Bool) (price:Int):Nat->List (List zH)->Int->yUm
 |0,B,q=>⟨[],q,B⟩
 |n+1,B,q=>if q<=0 then⟨[],q,B⟩else match mR p B inst sd price q with
  |none=>⟨[],q,B⟩
  |some (t,B')=>let r:=zLh p inst sd price n B' (q-t.qty);⟨t::r.steps,r.left,r.B⟩
def wR (p:Prd) (B:List (List zH)) (inst:Int) (sd:Bool) (price q:Int):yUm:=zLh p inst sd price q.toNat B q
structure RunI where
 s:MSt
 p:Prd
 B:List (List zH)
 inst:Int
 sd:Bool
 price:Int
 q:Int
def RunI.r (i:RunI):yUm:=wR i.p i.B i.inst i.sd i.price i.q
def runC:Con where
 ι:=RunI
 pat:=λi=>[.nm 0 0,zA i.inst,zA (zD i.sd),zA i.price,zA i.q]
 pre:=λi=>[zC i.s]
 cnd:=λi=>i.s.Rep i.p i.B/\BOk i.p i.B/\(0<=i.inst/\i.inst<i.B.length)/\1<=i.q/\i.q<=1000000
 alts:=λi=>[{o:=MSt,res:=λ_=> .tup [.own 1,zA i.r.left],post:=λs=>[zC s,.own 290 4 (i.r.steps.map wP)],rel:=λs=>s.Rep i.p i.r.B}]
structure zOg where
 s:MSt
 B:List (List zH)
 steps:List wA
 q:Int
def y7k:List SAnn:=[
 {ι:=zOg,slots:=λj=>[(0,.nm 0 0),(12,.own 1),(4,zA j.q)],rows:=λj=>[zC j.s,.own 290 4 (j.steps.map wP)]},
 {ι:=Unit,slots:=λ_=>[],rows:=λ_=>[],un:=3}]
def zOx (a:zOg->Nat) (b:zOg) (c:zOg) (d:RunI):Prop:=a b<a c/\dh (ae 1 (iE d.s.p.months))/\dh (ae 1 (iE d.s.p.settle))
def zFe (a:TrI):Prop:=a.s.Rep a.p a.B/\BOk a.p a.B/\0<=a.inst/\a.inst<(↑a.B.length:Int)/\(-9223372036854775808)<=a.q/\a.q<=9223372036854775807
def zPb (a:RunI) (b:zOg) (c:NxI):Prop:=∃(d:MSt),a.r.left=b.q/\zC d=zC c.s/\aa wP a.r.steps=aa wP b.steps/\d.Rep a.p a.r.B
def lP (a:TrI):=(aa yW (gY a))
def z4u (a:RunI):Prop:=∃(b:zOg),b.q=a.q/\sb b.s.p.code=sb a.s.p.code/\b.s.p.tick=a.s.p.tick/\b.s.p.low=a.s.p.low/\b.s.p.high=a.s.p.high/\b.s.p.wide=a.s.p.wide/\b.s.p.rule=a.s.p.rule/\b.s.p.top=a.s.p.top/\b.s.p.least=a.s.p.least/\b.s.p.part=a.s.p.part/\af 197 Book 6 zQ b.s.books au=af 197 Book 6 zQ a.s.books au/\yR b.s.wh=yR a.s.wh/\ae 1 (iE b.s.p.months)=ae 1 (iE a.s.p.months)/\ae 1 (iE b.s.p.settle)=ae 1 (iE a.s.p.settle)/\aa wP b.steps=[]/\∃(c:zOg->Prop),∃(d:zOg->Nat),c b/\∀(e:zOg),c e->cnd (decide (e.q>0)) (∃(f:Bool),zD f=zD a.sd/\True/\∀(g:Unit),True->∃(h:NxI),h.inst=a.inst/\zD h.sd=zD !f/\zC h.s=zC e.s/\(h.s.Rep h.p h.B/\BOk h.p h.B/\0<=h.inst/\h.inst<(↑h.B.length:Int))/\∀(j:Unit),True->cnd (!(yA h).snd.snd) (zPb a e h) (∃(k:GoI),zD k.s=zD a.sd/\k.p=a.price/\k.x=(yA h).fst.price/\True/\∀(l:Unit),True->cnd (!bM k.s k.p k.x) (zPb a e h) (cnd (yA h).snd.fst (∃(m:TrI),m.inst=(yA h).fst.a.inst/\zD m.sd=(yA h).fst.a.side/\m.q=min e.q (yA h).fst.qty/\zC m.s=zC h.s/\(zFe m)/\∀(n:MSt),n.Rep m.p (cN m)->True/\(lP m).length*(48:Nat)<=(140737488355328:Nat)/\∃(p:TrI),p.inst=(yA h).fst.b.inst/\zD p.sd=(yA h).fst.b.side/\p.q=min e.q (yA h).fst.qty/\zC p.s=zC n/\(zFe p)/\∀(q:MSt),q.Rep p.p (cN p)->True/\((lP m).length+(lP p).length)*(48:Nat)<=(140737488355328:Nat)/\((aa wP e.steps).length+1)*(48:Nat)<=(140737488355328:Nat)/\∃(r:zOg),r.q=aq.wrap (e.q-min e.q (yA h).fst.qty)/\zC r.s=zC q/\aa wP r.steps=aa wP e.steps++[[dI ((yA h).fst.price),dI (min e.q (yA h).fst.qty),D.v (.bool (yA h).snd.fst),D.ro 6 (aa yW (gY m)++aa yW (gY p))]]/\c r/\zOx d r e a) (∃(m:Bool),zD m=zD a.sd/\True/\∀(n:Unit),True->dh (min e.q (yA h).fst.qty)/\∃(p:TrI),p.inst=a.inst/\zD p.sd=zD !m/\p.q=min e.q (yA h).fst.qty/\zC p.s=zC h.s/\(zFe p)/\∀(q:MSt),q.Rep p.p (cN p)->((aa wP e.steps).length+1)*(48:Nat)<=(140737488355328:Nat)/\∃(r:zOg),r.q=aq.wrap (e.q-min e.q (yA h).fst.qty)/\zC r.s=zC q/\aa wP r.steps=aa wP e.steps++[[dI ((yA h).fst.price),dI (min e.q (yA h).fst.qty),D.v (.bool (yA h).snd.fst),D.ro 6 (lP p)]]/\c r/\zOx d r e a)))) (∃(f:MSt),a.r.left=e.q/\zC f=zC e.s/\aa wP a.r.steps=aa wP e.steps/\f.Rep a.p a.r.B)
def cV (a:RunI):Prop:=∃(b:MSt),a.r.left=a.q/\sb b.p.code=sb a.s.p.code/\b.p.tick=a.s.p.tick/\b.p.low=a.s.p.low/\b.p.high=a.s.p.high/\b.p.wide=a.s.p.wide/\b.p.rule=a.s.p.rule/\b.p.top=a.s.p.top/\b.p.least=a.s.p.least/\b.p.part=a.s.p.part/\af 197 Book 6 zQ b.books au=af 197 Book 6 zQ a.s.books au/\yR b.wh=yR a.s.wh/\ae 1 (iE b.p.months)=ae 1 (iE a.s.p.months)/\ae 1 (iE b.p.settle)=ae 1 (iE a.s.p.settle)/\aa wP a.r.steps=[]/\b.Rep a.p a.r.B
def y0z (i:RunI):Prop:=
 cnd (decide (i.inst>=0)) (cnd (decide (i.inst<(↑i.s.books.length:Int))) (cnd (zD i.sd==1) (cnd (decide (i.q>=1)) (cnd (!decide (i.q<=1000000)) (cV i) (z4u i)) (cV i)) (cnd (zD i.sd==2) (cnd (decide (i.q>=1)) (cnd (!decide (i.q<=1000000)) (cV i) (z4u i)) (cV i)) (cV i))) (cV i)) (cV i)
structure QOk (T:List Top) (q:Quote):Prop where
 a:0<=q.a.inst/\q.a.inst<T.length
 b:0<=q.b.inst/\q.b.inst<T.length
 sa:q.a.side=1\/q.a.side=2
 sb:q.b.side=1\/q.b.side=2
 ne:q.a.inst≠q.b.inst
 ha:(T.getD q.a.inst.toNat top0).has q.a.side=ap
 hb:(T.getD q.b.inst.toNat top0).has q.b.side=ap
 qty:q.qty=min ((T.getD q.a.inst.toNat top0).qty q.a.side) ((T.getD q.b.inst.toNat top0).qty q.b.side)
def z4r {T:List Top} {a b:Leg} {less:Bool} {q:Quote} (h:q∈mkq T a b less) (h1:0<=a.inst/\a.inst<T.length) (h2:0<=b.inst/\b.inst<T.length) (h3:a.side=1\/a.side=2) (h4:b.side=1\/b.side=2) (hne:a.inst≠b.inst):QOk T q/\q.a=a/\q.b=b:=by
 cases less
 all_goals
  simp only[mkq,y8u,↓reduceIte]at h;split at h
  ·rename_i hc;simp only[y8o]at hc;rw[y9u]at h;subst h;exact⟨⟨h1,h2,h3,h4,hne,hc.1.1,hc.1.2,rfl⟩,rfl,rfl⟩
  ·cases h
def yZg:∀n≤6,∀k<n+n*(n-1) / 2,n<=k->(jC n k n 0).1≠(jC n k n 0).2.1:=by decide
def yAl {p:Prd} (hc:p.check=0) {k:Nat} (hk:k<p.count) (hs:(p.legs k).2.2=ap):(p.legs k).1≠(p.legs k).2.1:=by
 have m6:=(kK hc).m6;have hk':=hk;rw[Prd.count,y8c hc]at hk';by_cases h:k<p.months.length
 ·rw[Prd.legs,y7z (by omega),y8c (by omega)]at hs;cases hs
 ·rw[Prd.legs,y7z (by omega),y7z (by omega)];exact yZg p.months.length m6 k hk' oM
def yCf:∀n≤6,∀a<n,∀b<n,a<b->(yM n a:Int)+b-a-1>=n:=by decide
def zSa {p:Prd} (hc:p.check=0) {a b:Nat} (hab:a<b) (hb:b<p.months.length):(p.months.length:Int)<=(p.spread a b).1:=by
 have m6:=(kK hc).m6;have:=yCf p.months.length m6 a oM b hb hab;rw[Prd.spread,y7z (by omega)];simpa using this
def yAr {p:Prd} (hc:p.check=0) {T:List Top} (hT:T.length=p.count) {inst:Int} {s:Int} (hs:s=1\/s=2) {q:Quote} (h:q∈kX ⟨p,T,inst⟩ s):QOk T q/\0<=inst/\inst<p.count/\
 (((p.legs inst).2.2=ap/\q.a=⟨(p.legs inst).1,s⟩/\q.b=⟨(p.legs inst).2.1,3-s⟩)\/(inst<p.months.length/\q.a.inst≠inst/\(p.months.length:Int)<=q.a.inst)):=by
 rw[kX]at h;dsimp only at h;split at h
 ·cases h
 ·rename_i hn;have h0:0<=inst/\inst<p.count:=by omega
  obtain⟨k,rfl⟩:∃k:Nat,inst=k:=⟨inst.toNat,oM⟩
  have hk:k<p.count:=by omega
  have hge:=zEx hc;split at h
  ·rename_i hl;obtain⟨q',hq',rfl⟩:=y9m.1 h;have hle:=fT hc hk;rcases hle with⟨_,l1,l2,l3,l4⟩|⟨e,_⟩
   ·obtain⟨ok,e1,e2⟩:=z4r hq' Z9 Z9 Z9 hs (λe=>yAl hc hk hl e.symm);refine⟨⟨by dsimp only[bL];omega,by dsimp only[bL];omega,hs,by dsimp only[bL];omega,yAl hc hk hl,?_,?_,?_⟩,h0.1,h0.2,.inl ⟨hl,rfl,rfl⟩⟩
    ·have:=ok.hb;rw[e2]at this;exact this
    ·have:=ok.ha;rw[e1]at this;exact this
    ·have:=ok.qty;rw[e1,e2]at this;dsimp only[bL];rw[this];exact Int.min_comm _ _
   ·rw[e]at hl;cases hl
  ·rename_i hl;have hm:k<p.months.length:=by
    rcases fT hc hk with⟨e,_⟩|⟨_,e⟩
    ·exact absurd e hl
    ·exact e
   rcases y9f.1 h with h|h
   ·obtain⟨j,hj,h⟩:=xAt.1 h;have hj:=xBf.1 hj;rw[y8s]at hj;have s1:=aF hc (a:=k) (b:=k+1+j) oM oM;have s2:=zSa hc (a:=k) (b:=k+1+j) oM oM;have ec:((k:Int)+1+j)=((k+1+j:Nat):Int):=by omega
    rw[ec]at h;obtain⟨ok,e1,e2⟩:=z4r h Z9 Z9 hs hs Z9;exact⟨ok,h0.1,h0.2,.inr ⟨oM,by rw[e1];dsimp only;omega,by rw[e1];exact s2⟩⟩
   ·obtain⟨j,hj,h⟩:=xAt.1 h;have hj:=xBf.1 hj;rw[y8s]at hj;have s1:=aF hc (a:=j) (b:=k) oM oM;have s2:=zSa hc (a:=j) (b:=k) oM oM;obtain⟨ok,e1,e2⟩:=z4r h Z9 Z9 Z9 hs Z9;exact⟨ok,h0.1,h0.2,.inr ⟨oM,by rw[e1];dsimp only;omega,by rw[e1];exact s2⟩⟩
def zUe {s:Int}:∀(r:List Quote) (q:Quote),r.foldl (λb q=>if btr s q.price b.price then q else b) q∈q::r
 |[],q=>y8h
 |x::r,q=>by
  rw[xBt];have:=zUe (s:=s) r (if btr s x.price q.price then x else q);rcases y8v.1 this with e|h
  ·rw[e];split
   ·exact y8i _ y8h
   ·exact y8h
  ·exact y8i _ (y8i _ h)
def zHw {l:List Quote} {s:Int} (h:(zY l s).2=ap):(zY l s).1∈l:=by
 cases l with
 |nil=>cases h
 |cons q r=>exact zUe r q
def yQq (B:List (List zH)):Prop:=∀(k:Nat) (L:List zH),B[k]?=ar L->(∀o∈L,zPj o)/\(L.map (·.id)).Nodup/\L.length<=250
def MSt.Rep.ords {s:MSt} {p:Prd} {B:List (List zH)} (h:s.Rep p B):yQq B:=by
 intro k L hL;obtain⟨b,hb⟩:=yC (l:=s.books) (i:=k) (by rw[h.bl];exact(y8e.1 hL).1);exact(h.bk k b L hb hL).ords
def yBj:∀{l:List zH} {v:Lv},(∀o∈l,zPj o)->v∈grp l->1<=v.qty/\v.qty<=1000000*l.length
 |[],v,_,h=>by cases h
 |o::l,v,ho,h=>by
  have h0:=(ho o y8h).q;have ih:∀v∈grp l,1<=v.qty/\v.qty<=1000000*l.length:=λv hv=>yBj (λx hx=>ho x (y8i _ hx)) hv
  rw[grp]at h;rw[y8f];split at h
  ·rw[y9u]at h;subst h;dsimp only;omega
  ·rename_i w ws e;rw[e]at ih;have hw:=ih w y8h;split at h
   ·rcases y8v.1 h with rfl|h
    ·dsimp only;omega
    ·have:=ih v (y8i _ h);omega
   ·rcases y8v.1 h with rfl|h
    ·dsimp only;omega
    ·have:=ih v h;omega
def z6h {L:List zH} {s:Int} (h:∀o∈L,zPj o) (hl:L.length<=250) (hb:(bestL L s).2=ap):1<=(bestL L s).1.qty/\(bestL L s).1.qty<=250000000:=by
 rw[bestL]at hb ⊢;cases hl2:gK L s with
 |nil=>rw[hl2]at hb;cases hb
 |cons v vs=>
  dsimp only;have hm:v∈grp (L.filter λo=>decide (o.side=s)):=by rw[<- gK,hl2];exact y8h
  have:=yBj (λo ho=>h o (xAa.1 ho).1) hm;have:=xBn (λo:zH=>decide (o.side=s)) L;omega
def yFi {B:List (List zH)} {k:Nat} {L:List zH} (hL:B[k]? =ar L):(B.map qH).getD k top0=qH L:=zW (by rw[y9r,hL];rfl)
def zMp (L:List zH) {s:Int} (hs:s=1\/s=2):(qH L).has s=(bestL L s).2/\(qH L).qty s=(bestL L s).1.qty/\(qH L).price s=(bestL L s).1.price:=by
 obtain⟨e1,e2,e3,e4,e5,e6⟩:=zLw L;rcases hs with rfl|rfl
 ·exact⟨e3,e2,e1⟩
 ·exact⟨e6,e5,e4⟩
def z8d {p:Prd} {B:List (List zH)} (h:BOk p B) (ho:yQq B) {inst:Int} (hi:0<=inst/\inst<B.length) {s:Int} (hs:s=1\/s=2) (hn:(yU p B inst s).2.2=ap):
 (1<=(yU p B inst s).1.qty/\(yU p B inst s).1.qty<=250000000)/\((yU p B inst s).2.1=ap->(yU p B inst s).1∈kX ⟨p,B.map qH,inst⟩ s/\QOk (B.map qH) (yU p B inst s).1)/\
 ((yU p B inst s).2.1=ao->(bestL (B.getD inst.toNat []) s).2=ap/\(yU p B inst s).1.price=(bestL (B.getD inst.toNat []) s).1.price/\(yU p B inst s).1.qty=(bestL (B.getD inst.toNat []) s).1.qty):=by
 obtain⟨k,rfl⟩:∃k:Nat,inst=k:=⟨inst.toNat,oM⟩
 obtain⟨L,hL⟩:=yC (l:=B) (i:=k) oM;have hLo:=ho k L hL;rw[yU]at hn ⊢;rw[y8s,zW hL]at hn ⊢;split
 ·rename_i c;simp only[y8o]at c;exact⟨z6h hLo.1 hLo.2.2 c.1,⟨λe=>(by cases e),λ_=>⟨c.1,rfl,rfl⟩⟩⟩
 ·rename_i c;rw[y7z c]at hn;dsimp only at hn ⊢;have hm:=zHw hn;have ha:(zY (xL ⟨p,B.map qH,k⟩ s) s).1∈kX ⟨p,B.map qH,k⟩ s:=(xAa.1 hm).1;obtain⟨ok,_⟩:=yAr h.pc (by rw[y8b];exact h.bl) hs ha;refine⟨?_,λ_=>⟨ha,ok⟩,λe=>by rw[hn]at e;cases e⟩;generalize (zY (xL ⟨p,B.map qH,k⟩ s) s).1=q at ok;have a:=ok.a;have b:=ok.b;rw[y8b]at a b;obtain⟨La,hLa⟩:=yC (l:=B) (i:=q.a.inst.toNat) oM;obtain⟨Lb,hLb⟩:=yC (l:=B) (i:=q.b.inst.toNat) oM;have e1:=ok.ha;have e2:=ok.hb;have e3:=ok.qty;rw[yFi hLa]at e1 e3;rw[yFi hLb]at e2 e3;rw[(zMp La ok.sa).1]at e1;rw[(zMp Lb ok.sb).1]at e2;rw[(zMp La ok.sa).2.1,(zMp Lb ok.sb).2.1]at e3;have:=z6h (ho _ _ hLa).1 (ho _ _ hLa).2.2 e1;have:=z6h (ho _ _ hLb).1 (ho _ _ hLb).2.2 e2;omega
def yIx {L:List zH} {id q:Int} {o:zH} (h:o∈(qC L id q).1):∃o'∈L,o.price=o'.price/\o.side=o'.side/\o.id=o'.id:=by
 rw[qC]at h;split at h
 ·exact⟨o,h,rfl,rfl,rfl⟩
 split at h
 ·exact⟨o,h,rfl,rfl,rfl⟩
 obtain⟨o',ho',e⟩:=xDi.1 h;refine⟨o',ho',?_⟩;split at e
 ·split at e
  ·cases e
  ·cases e;exact⟨rfl,rfl,rfl⟩
 ·cases e;exact⟨rfl,rfl,rfl⟩
def BOk.take {p:Prd} {B:List (List zH)} (h:BOk p B) (id q:Int):BOk p (kU B id q).1:=by
 refine⟨h.pc,h.ps,by rw[nO];exact h.bl,λk L hL o ho=> ?_⟩;rw[kU]at hL;split at hL
 ·exact h.pr k L hL o ho
 ·rename_i j hj;dsimp only at hL;rcases bR hL with⟨rfl,rfl⟩|⟨_,hL⟩
  ·obtain⟨o',ho',e,_⟩:=yIx ho;obtain⟨L',hL',_⟩:=gZ hj;rw[zW hL']at ho';rw[e];exact h.pr k L' hL' o' ho'
  ·exact h.pr k L hL o ho
def BOk.takes {p:Prd}:∀{fs:List bF} {B:List (List zH)},BOk p B->BOk p (jF B fs)
 |[],B,h=>h
 |f::fs,B,h=>BOk.takes (fs:=fs) (h.take f.id f.qty)
def zZz (inst s:Int):∀(os:List zH) (sh:List Int),(x6 inst s os sh).length<=os.length
 |[],sh=>y8w 0
 |o::os,[]=>y9c _
 |o::os,k::sh=>by
  have:=zZz inst s os sh;rw[x6];split
  ·simp only[y8f];omega
  ·simp only[y8f];omega
def nT {p:Prd} {B:List (List zH)} (ho:yQq B) (inst s q:Int):(kC p B inst s q).length<=250:=by
 refine xAw (zZz _ _ _ _) (xAw (xBn _ _) ?_);by_cases h:inst.toNat<B.length
 ·obtain⟨L,hL⟩:=yC h;rw[zW hL];exact(ho _ _ hL).2.2
 ·rw[y8j,y9h (by omega)];exact y9c _
def zPu {p:Prd} {B:List (List zH)} {inst:Int} {sd:Bool} {price q:Int} {t:wA} {B':List (List zH)} (hq:1<=q) (h:mR p B inst sd price q=ar (t,B')):1<=t.qty/\t.qty<=q:=by
 rw[mR]at h;dsimp only at h;split at h
 ·rename_i c;simp only[y8o,y9o]at c;split at h
  ·cases h;dsimp only;omega
  ·cases h;dsimp only;omega
 ·cases h
def z1k {p:Prd} {inst:Int} {sd:Bool} {price:Int}:∀(m n:Nat) (B:List (List zH)) (q:Int),q.toNat<=m->q.toNat<=n->zLh p inst sd price m B q=zLh p inst sd price n B q
 |0,0,B,q,_,_=>rfl
 |0,n+1,B,q,h,_=>by rw[zLh,zLh,y8c (by omega)]
 |m+1,0,B,q,_,h=>by rw[zLh,zLh,y8c (by omega)]
 |m+1,n+1,B,q,h1,h2=>by
  rw[zLh,zLh];split
  ·rfl
  ·rename_i hq;cases hs:mR p B inst sd price q with
   |none=>rfl
   |some x=>
    obtain⟨t,B'⟩:=x;have:=zPu oM hs;dsimp only;rw[z1k m n B' (q-t.qty) (by omega) (by omega)]
def eE {p:Prd} {B:List (List zH)} {inst:Int} {sd:Bool} {price q:Int} (h:q<=0\/mR p B inst sd price q=au):wR p B inst sd price q=⟨[],q,B⟩:=by
 rw[wR];cases hn:q.toNat with
 |zero=>rfl
 |succ n=>
  rw[zLh];rcases h with h|h
  ·rw[y8c h]
  ·rw[y7z (by omega),h]
def zOz {p:Prd} {B:List (List zH)} {inst:Int} {sd:Bool} {price q:Int} {t:wA} {B':List (List zH)} (hq:1<=q) (h:mR p B inst sd price q=ar (t,B')):
 wR p B inst sd price q=⟨t::(wR p B' inst sd price (q-t.qty)).steps,(wR p B' inst sd price (q-t.qty)).left,(wR p B' inst sd price (q-t.qty)).B⟩:=by
 have ht:=zPu hq h;rw[wR];cases hn:q.toNat with
 |zero=>omega
 |succ n=>
  rw[zLh,y7z (by omega),h];dsimp only;rw[z1k n (q-t.qty).toNat B' (q-t.qty) (by omega) (y8w _)];rfl
def g9 {s:Int} (h:s=1\/s=2):zD (decide (s=2))=s:=by
 rcases h with rfl|rfl<;>rfl
def y5s (i:RunI) (h:runC.cnd i):y0z i:=by
 obtain⟨hR,hB,⟨h0,h1⟩,hq1,hq2⟩:i.s.Rep i.p i.B/\BOk i.p i.B/\(0<=i.inst/\i.inst<i.B.length)/\1<=i.q/\i.q<=1000000:=h;have hbl:=hR.bl;have hcl:=xJ i.p;have hbB:=hB.bl;unfold y0z z4u cN lP gY zPb zFe zOx yA cV dI;refine(λhT=>zI (λc=>zI (λc2=>Cv.cnd.mk (λ_=>zI (λ_=>Cv.cnd.mk (λe=>absurd hq2 (by simpa using e)) (λ_=>hT)) (λe=>absurd hq1 e)) (λe1=>Cv.cnd.mk (λ_=>zI (λ_=>Cv.cnd.mk (λe=>absurd hq2 (by simpa using e)) (λ_=>hT)) (λe=>absurd hq1 e)) (λe2=>by
  rcases zGd i.sd with e|e
  ·rw[e]at e1;cases e1
  ·rw[e]at e2;cases e2))) (λc2=>absurd oM c2)) (λc=>absurd h0 c)) ?_
 refine⟨⟨i.s,i.B,[],i.q⟩,rF8 (rF6 ⟨rfl,λj=>j.s.Rep i.p j.B/\BOk i.p j.B/\j.B.length=i.B.length/\(0<=j.q/\j.q<=i.q)/\(j.steps.length:Int)<=i.q-j.q/\i.r=⟨j.steps++(wR i.p j.B i.inst i.sd i.price j.q).steps,(wR i.p j.B i.inst i.sd i.price j.q).left,(wR i.p j.B i.inst i.sd i.price j.q).B⟩,λj=>j.q.toNat,⟨hR,hB,rfl,⟨Z9,xBo _⟩,by dsimp only;simp,rfl⟩,?_⟩)⟩;rintro⟨s,B,st,q⟩ ⟨r1,r2,r3,⟨r4,r4'⟩,r5,r6⟩;dsimp only at r1 r2 r3 r4 r4' r5 r6 ⊢;have hno (hn:q<=0\/mR i.p B i.inst i.sd i.price q=au):∃(o:MSt),i.r.left=q/\ag MSt (5:Nat) xW o=ag MSt (5:Nat) xW s/\aa wP i.r.steps=aa wP st/\o.Rep i.p i.r.B:=by
  rw[eE hn,y8x]at r6;rw[r6];exact⟨s,rF3 r1⟩
 refine zI (λc=> ?_) (λc=>hno (.inl oM));have c:0<q:=c;refine⟨i.sd,rfl,trivial,λ_ _=>⟨⟨s,i.p,B,i.inst,!i.sd⟩,rfl,rfl,rfl,⟨r1,r2,h0,Z9⟩,λ_ _=> ?_⟩⟩;dsimp only;have hni:=z8d r2 r1.ords (inst:=i.inst) ⟨h0,oM⟩ (zGd (!i.sd));have hsb:mR i.p B i.inst i.sd i.price q=(if((yU i.p B i.inst (zD (!i.sd))).2.2 && (bM i.sd i.price (yU i.p B i.inst (zD (!i.sd))).1.price && decide (1<=(yU i.p B i.inst (zD (!i.sd))).1.qty)))=ap then
  if(yU i.p B i.inst (zD (!i.sd))).2.1=ap then
   ar (⟨(yU i.p B i.inst (zD (!i.sd))).1.price,min q (yU i.p B i.inst (zD (!i.sd))).1.qty,ap,kC i.p B (yU i.p B i.inst (zD (!i.sd))).1.a.inst (yU i.p B i.inst (zD (!i.sd))).1.a.side (min q (yU i.p B i.inst (zD (!i.sd))).1.qty)++kC i.p (jF B (kC i.p B (yU i.p B i.inst (zD (!i.sd))).1.a.inst (yU i.p B i.inst (zD (!i.sd))).1.a.side (min q (yU i.p B i.inst (zD (!i.sd))).1.qty))) (yU i.p B i.inst (zD (!i.sd))).1.b.inst (yU i.p B i.inst (zD (!i.sd))).1.b.side (min q (yU i.p B i.inst (zD (!i.sd))).1.qty)⟩,jF (jF B (kC i.p B (yU i.p B i.inst (zD (!i.sd))).1.a.inst (yU i.p B i.inst (zD (!i.sd))).1.a.side (min q (yU i.p B i.inst (zD (!i.sd))).1.qty))) (kC i.p (jF B (kC i.p B (yU i.p B i.inst (zD (!i.sd))).1.a.inst (yU i.p B i.inst (zD (!i.sd))).1.a.side (min q (yU i.p B i.inst (zD (!i.sd))).1.qty))) (yU i.p B i.inst (zD (!i.sd))).1.b.inst (yU i.p B i.inst (zD (!i.sd))).1.b.side (min q (yU i.p B i.inst (zD (!i.sd))).1.qty)))
  else ar (⟨(yU i.p B i.inst (zD (!i.sd))).1.price,min q (yU i.p B i.inst (zD (!i.sd))).1.qty,ao,kC i.p B i.inst (zD (!i.sd)) (min q (yU i.p B i.inst (zD (!i.sd))).1.qty)⟩,jF B (kC i.p B i.inst (zD (!i.sd)) (min q (yU i.p B i.inst (zD (!i.sd))).1.qty)))else au):=rfl
 generalize yU i.p B i.inst (zD (!i.sd))=nb at hni hsb ⊢;refine Cv.cnd.mk (λn1=> ?_) (λn1=>⟨⟨i.sd,i.price,nb.1.price⟩,rfl,rfl,rfl,trivial,λ_ _=>Cv.cnd.mk (λn2=> ?_) (λn2=> ?_)⟩)
 ·have n1:nb.2.2=ao:=by simpa using n1
  rw[n1,y7z (by simp)]at hsb;exact hno (.inr hsb)
 ·have n2:bM i.sd i.price nb.1.price=ao:=by simpa using n2
  rw[n2,y7z (by simp)]at hsb;exact hno (.inr hsb)
 have n1:nb.2.2=ap:=by simpa using n1
 have n2:bM i.sd i.price nb.1.price=ap:=by simpa using n2
 obtain⟨⟨b1,b2⟩,hi,hr⟩:=hni n1;rw[n1,n2,y8r b1,y8c (by rfl)]at hsb;have hk:i64r (min q nb.1.qty):=by constructor<;>omega
 have hsl:(st.length+1)*48<=140737488355328:=by omega
 have beh:∀(t:wA) (B':List (List zH)) (s':MSt),mR i.p B i.inst i.sd i.price q=ar (t,B')->s'.Rep i.p B'->BOk i.p B'->B'.length=B.length->
  (s'.Rep i.p B'/\BOk i.p B'/\B'.length=i.B.length/\(0<=q-t.qty/\q-t.qty<=i.q)/\((st++[t]).length:Int)<=i.q-(q-t.qty)/\i.r=⟨(st++[t])++(wR i.p B' i.inst i.sd i.price (q-t.qty)).steps,(wR i.p B' i.inst i.sd i.price (q-t.qty)).left,(wR i.p B' i.inst i.sd i.price (q-t.qty)).B⟩)/\(q-t.qty).toNat<q.toNat:=by
  intro t B' s' h1 h2 h3 h4;have ht:=zPu oM h1;refine⟨⟨h2,h3,oM,⟨oM,oM⟩,by rw[y8a,xAc];omega,?_⟩,oM⟩;rw[zOz (by omega) h1]at r6;rw[r6,y8g];rfl
 refine Cv.cnd.mk (λn3=> ?_) (λn3=> ?_)
 ·obtain⟨_,ok⟩:=hi n3;rw[n3,y8c rfl]at hsb;have oka:=ok.a;have okb:=ok.b;rw[y8b]at oka okb;have ea:=g9 ok.sa;have eb:=g9 ok.sb;refine⟨⟨s,i.p,B,nb.1.a.inst,decide (nb.1.a.side=2),min q nb.1.qty⟩,rfl,ea,rfl,rfl,⟨r1,r2,oka.1,oka.2,hk⟩,λs1 hs1=> ?_⟩;dsimp only at hs1 ⊢;rw[ea]at hs1 ⊢;have l1:=nT (p:=i.p) r1.ords nb.1.a.inst nb.1.a.side (min q nb.1.qty);have hB1:=r2.takes (fs:=kC i.p B nb.1.a.inst nb.1.a.side (min q nb.1.qty));have l2:=nT (p:=i.p) hs1.ords nb.1.b.inst nb.1.b.side (min q nb.1.qty);refine⟨trivial,by rw[y8b];omega,⟨s1,i.p,jF B (kC i.p B nb.1.a.inst nb.1.a.side (min q nb.1.qty)),nb.1.b.inst,decide (nb.1.b.side=2),min q nb.1.qty⟩,rfl,eb,rfl,rfl,⟨hs1,hB1,okb.1,by dsimp only;rw[uM];exact okb.2,hk⟩,λs2 hs2=> ?_⟩;dsimp only at hs2 ⊢;rw[eb]at hs2 ⊢;obtain⟨g1,g2⟩:=beh _ _ s2 hsb hs2 hB1.takes (by rw[uM,uM]);refine⟨trivial,by rw[y8b,y8b];omega,by rw[y8b];exact hsl,⟨s2,_,st++[_],_⟩,?_,rfl,?_,g1,g2,k0q⟩
  ·dsimp only;rw[w64 (by omega)]
  ·dsimp only;rw[y8k,n3];simp[wP]
 ·rw[n3,y7z (by decide)]at hsb;refine⟨i.sd,rfl,trivial,λ_ _=>⟨rfl,⟨s,i.p,B,i.inst,!i.sd,min q nb.1.qty⟩,rF3 ⟨rfl,⟨r1,r2,h0,Z9,hk⟩,λs1 hs1=> ?_⟩⟩⟩;dsimp only at hs1 ⊢;obtain⟨g1,g2⟩:=beh _ _ s1 hsb hs1 r2.takes (by rw[uM]);refine⟨by rw[y8b];exact hsl,⟨s1,_,st++[_],_⟩,?_,rfl,?_,g1,g2,k0q⟩
  ·dsimp only;rw[w64 (by omega)]
  ·dsimp only;rw[y8k,n3];simp[wP]
def z5c:runC.ok Tryz.prog 182:=okw mixed (gokc yOl (gokc zTa (gokc zYk (gokc yId gok0)))) 2 (λ_=>[]) (λ_=>y7k) [0] Tryz.func182 y5s
def yKs {L:List zH} {s id p q:Int} {o:zH} (h:o∈zWs L s id p q):o.price=p\/∃o'∈L,o.price=o'.price:=by
 have key:∀X:List zH,(o∈X.takeWhile (before s p)++⟨id,s,p,q,g8 L s p⟩::X.dropWhile (before s p))->o.price=p\/o∈X:=by
  intro X hX;rcases y9f.1 hX with hX|hX
  ·exact .inr (List.takeWhile_sublist _|>.subset hX)
  ·rcases y8v.1 hX with rfl|hX
   ·exact .inl rfl
   ·exact .inr (List.dropWhile_sublist _|>.subset hX)
 rw[zWs]at h;split at h
 ·rcases key _ h with h|h
  ·exact .inl h
  ·obtain⟨o',ho',_,_,e,_⟩:=yBg h;exact .inr ⟨o',ho',e⟩
 ·rcases key _ h with h|h
  ·exact .inl h
  ·exact .inr ⟨o,h,rfl⟩
def BOk.add {p:Prd} {B:List (List zH)} (h:BOk p B) (inst id s price q:Int):BOk p (z3z p B inst id s price q).1:=by
 rw[z3z];split
 ·exact h
 split
 ·exact h
 split
 ·exact h
 split
 ·exact h
 rename_i c1 _ _ c4;have c4:p.price inst price=0:=by simpa using c4
 refine⟨h.pc,h.ps,by simpa using h.bl,λk L hL o ho=> ?_⟩;dsimp only at hL;rcases bR hL with⟨rfl,rfl⟩|⟨_,hL⟩
 ·obtain⟨L',hL'⟩:=yC (l:=B) (i:=inst.toNat) oM;rw[zW hL',zLl]at ho;have e:((inst.toNat:Nat):Int)=inst:=by omega
  repeat' split at ho
  ·exact h.pr _ L' hL' o ho
  ·exact h.pr _ L' hL' o ho
  ·exact h.pr _ L' hL' o ho
  ·rcases yKs ho with h1|⟨o',ho',h1⟩
   ·rw[h1,e];exact c4
   ·rw[h1];exact h.pr _ L' hL' o' ho'
 ·exact h.pr k L hL o ho
def BOk.new {p:Prd} (hc:p.check=0) (hp:p.small):BOk p (ab p.count []):=by
 refine⟨hc,hp,by simp,λk L hL o ho=> ?_⟩;rw[xDu (y8m hL)]at ho;cases ho
def MSt.Rep.fit {s:MSt} {p:Prd} {B:List (List zH)} (h:s.Rep p B) (hb:BOk p B):s.fit:=by
 have:=xJ p;refine⟨by rw[h.ep];exact hb.ps,by rw[h.bl,hb.bl];omega,λb hm=> ?_⟩;obtain⟨k,hk⟩:=xAr.1 hm;have hlt:=(y8e.1 hk).1;rw[h.bl]at hlt;obtain⟨L,hL⟩:=yC hlt;exact(h.bk k b L hk hL).fit
def zRk (r:Nat):Bool:=decide (32<=r) && decide (r≠127) && decide (r≠65533)
def dG (s:List UInt8):Bool:=(kZ s).all zRk && decide (1<=(kZ s).length) && decide ((kZ s).length<=12)
def labC:Con:=con1 (List UInt8) (λs=>[sV s]) (λ_=>[]) (λs=>s.length<=140737488355328) (λs=>yK (dG s)) (λ_=>[])
def y7m (s:List UInt8):List SAnn:=[{ι:=Nat×Nat,slots:=λx=>[(3,zA x.2),(7,.nm 0 0)],rows:=λx=>[.iter (sb s) x.1]}]
def vT (n:Int):Bool:=decide (-2000000<=n) && decide (n<=2000000)
def kO (n:Int):Bool:=decide (1<=n) && decide (n<=1000000)
def Cmd.orderE (c:Cmd):Int:=
 if c.side≠1/\c.side≠2 then 21 else if c.time<1\/3<c.time then 27 else if kO c.qty=ao then 24 else if c.least<0\/c.qty<c.least then 28
 else if c.label≠[]/\dG c.label=ao then 29 else if vT c.price=ao then 23 else if c.inst<0\/255<c.inst then 20 else 0
def Cmd.right (c:Cmd):Int:=
 if c.kind<1\/4<c.kind then 31 else if c.id<1\/1099511627776<c.id then 1 else if c.kind=1 then c.orderE
 else if c.kind≠2/\kO c.qty=ao then 24 else if c.kind=4/\vT c.price=ao then 23 else 0
def cmdOrdC:Con:=con1 Cmd (λc=>[zGp c]) (λ_=>[]) (λc=>c.label.length<=140737488355328) (λc=>zA c.orderE) (λ_=>[])
def cmdRtC:Con:=con1 Cmd (λc=>[zGp c]) (λ_=>[]) (λc=>c.label.length<=140737488355328) (λc=>zA c.right) (λ_=>[])
open Classical
def RB.byte (r:RB):Int×RB:=(xI (r.n 1).got,⟨(r.n 1).left,(r.n 1).bad⟩)
def RB.long (r:RB):Int×RB:=(aq.wrap (xI (r.n 8).got),⟨(r.n 8).left,(r.n 8).bad⟩)
def RB.lv (r:RB):Lv×RB:=(⟨r.long.1,r.long.2.long.1,r.long.2.long.2.long.1⟩,r.long.2.long.2.long.2)
def RB.lvs (r:RB):Nat->List Lv×RB
 |0=>([],r)
 |k+1=>((r.lvs k).1++[(r.lvs k).2.lv.1],(r.lvs k).2.lv.2)
def RB.part (r:RB):List Lv×RB:=r.byte.2.lvs r.byte.1.toNat
def RB.side (r:RB):(Sd×Bool)×RB:=
 if r.part.2.byte.1=1 then((⟨r.part.1,r.part.2.byte.2.lv.1,ap⟩,ap),r.part.2.byte.2.lv.2)
 else((⟨r.part.1,⟨0,0,0⟩,ao⟩,decide (r.part.2.byte.1<=1)),r.part.2.byte.2)
def RB.views (r:RB):Nat->(Vw×Bool)×RB
 |0=>(([],ap),r)
 |k+1=>(((r.views k).1.1++[((r.views k).2.side.1.1,(r.views k).2.side.2.side.1.1)],(r.views k).1.2 && (r.views k).2.side.1.2 && (r.views k).2.side.2.side.1.2),(r.views k).2.side.2.side.2)
def RB.head (r:RB):Int×RB:=r.long.2.byte
def RB.all (r:RB):(Vw×Bool)×RB:=r.head.2.views r.head.1.toNat
def RB.endOf (r:RB):Int:=if r.b then 10 else if 0<r.l.length then 15 else 0
@[reducible] def RdB (r:RB):AObj:=Rd r.l r.b
@[reducible] def RB.ok (i:RB):Prop:=i.l.length<=1099511627776
def lgetC:Con:=con1 RB (λi=>[.nm 0 0]) (λi=>[RdB i]) RB.ok (λi=>lvV i.lv.1) (λi=>[RdB i.lv.2])
def sideC:Con:=con1 RB (λi=>[.nm 0 0]) (λi=>[RdB i]) RB.ok (λi=> .tup [sdV i.side.1.1,yK i.side.1.2]) (λi=>[RdB i.side.2])
def y1y (i:RB):List SAnn:=[{ι:=Nat,slots:=λj=>[(0,.nm 0 0),(4,.nm 1 0),(8,zA j)],rows:=λj=>[RdB (i.byte.2.lvs j).2,.cells [.own 2,zA 0,zA 0,zA 0,yK ao] 129,.own 127 3 ((i.byte.2.lvs j).1.map lvE)]}]
def m9 (b:List UInt8):Prop:=4<=b.length/\le (fH (b.take (b.length-4))) 4=b.drop (b.length-4)
def yG (b:List UInt8):RB:=⟨b.take (b.length-4),ao⟩
def cW (b:List UInt8):Prop:=(yG b).all.1.2=ap/\(yG b).all.2.endOf=0/\wC (yG b).all.1.1
noncomputable def nX (b:List UInt8):Vw:=if m9 b/\cW b then(yG b).all.1.1 else[]
noncomputable def zBx (b:List UInt8):Int:=if m9 b/\cW b then(yG b).long.1 else 0
noncomputable def zEd (b:List UInt8):Int:=if m9 b then if cW b then 0 else 12 else 14
noncomputable def decC:Con:=con1 (List UInt8) (λb=>[roV 1 (bE b)]) (λ_=>[]) (λb=>b.length<=1099511627776) (λb=> .tup [vwV (nX b),zA (zBx b),zA (zEd b)]) (λ_=>[])
def y6b (b:List UInt8):List SAnn:=[
 {ι:=Nat,slots:=λj=>[(7,.nm 0 0),(9,.nm 1 0),(10,yK ((yG b).head.2.views j).1.2),(44,zA j)],rows:=λj=>[RdB ((yG b).head.2.views j).2,.cells [.own 2] 71,.own 130 10 (((yG b).head.2.views j).1.1.map zP)]},
 {ι:=Unit,slots:=λ_=>[],rows:=λ_=>[],un:=3}]
def RB.text (r:RB):List UInt8×RB:=((r.byte.2.n r.byte.1.toNat).got,⟨(r.byte.2.n r.byte.1.toNat).left,(r.byte.2.n r.byte.1.toNat).bad⟩)
def lI (s:List UInt8):List UInt8:=lob (s.take 255).length::s.take 255
def Cmd.tail (c:Cmd):List UInt8:=
 if c.kind=1 then lob c.inst::lob c.side::lob c.time::(le c.price 8++(le c.qty 8++(le c.least 8++lI c.label)))
 else if c.kind=3 then le c.qty 8 else if c.kind=4 then le c.price 8++le c.qty 8 else[]
def Cmd.enc (c:Cmd):List UInt8:=if c.right≠0 then[]else lob c.kind::(le c.id 8++c.tail)
def x7 (k id:Int) (r:RB):Cmd×RB:=
 if k=1 then
  let a:=r.byte;let b:=a.2.byte;let t:=b.2.byte;let x:=t.2.long;let y:=x.2.long;let z:=y.2.long;let w:=z.2.text
  (⟨k,id,a.1,b.1,x.1,y.1,z.1,t.1,w.1⟩,w.2)
 else if k=3 then(⟨k,id,0,0,0,r.long.1,0,0,[]⟩,r.long.2)
 else if k=4 then(⟨k,id,0,0,r.long.1,r.long.2.long.1,0,0,[]⟩,r.long.2.long.2)
 else(⟨k,id,0,0,0,0,0,0,[]⟩,r)
def xN (b:List UInt8):Cmd×Int:=
 let k:=(RB.mk b ao).byte
 if k.1<1\/4<k.1 then(zVb,31)else
 let x:=x7 k.1 k.2.long.1 k.2.long.2
 if x.2.endOf≠0 then(zVb,12)else if x.1.right≠0 then(zVb,x.1.right)else(x.1,0)
def Cmd.asks (c:Cmd):Cmd:=if c.kind=1 then c else if c.kind=2 then⟨2,c.id,0,0,0,0,0,0,[]⟩else if c.kind=3 then⟨3,c.id,0,0,0,c.qty,0,0,[]⟩else if c.kind=4 then⟨4,c.id,0,0,c.price,c.qty,0,0,[]⟩else zVb
def yQf (n:Int):((lob n).toNat:Int)=n % 256:=(zLr n).symm
def uN (x:UInt8) (l:List UInt8):RB.byte ⟨x::l,ao⟩=((x.toNat:Int),⟨l,ao⟩):=by
 simp[RB.byte,RB.n,RN.got,RN.left,RN.bad,xI]
def z7e (a l:List UInt8):(RN.mk (a++l) ao a.length).got=a/\(RN.mk (a++l) ao a.length).left=l/\(RN.mk (a++l) ao a.length).bad=ao:=by
 have h:(RN.mk (a++l) ao a.length).bad=ao:=by simp[RN.bad]
 simp[RN.got,RN.left,h]
def yLb (n:Int):xI (le n 8)=n % 18446744073709551616:=by
 simp only[le,xI,yQf];omega
def cT {n:Int} (h:i64r n) (l:List UInt8):RB.long ⟨le n 8++l,ao⟩=(n,⟨l,ao⟩):=by
 have e:(RB.mk (le n 8++l) ao).n 8=RN.mk (le n 8++l) ao (le n 8).length:=by rw[xK];rfl
 obtain⟨h1,h2,h3⟩:=z7e (le n 8) l;rw[RB.long,e,h1,h2,h3,yLb];obtain⟨ha,hb⟩:=h;have:aq.wrap (n % 18446744073709551616)=n:=by
  have e:=Cv.wrap_i64 ha hb;by_cases hn:0<=n
  ·rw[show n % 18446744073709551616=n by omega];exact e
  ·have:n % 18446744073709551616=n+18446744073709551616:=by omega
   rw[this];rw[IntKind.wrap]at e ⊢;simp only[IntKind.wrap,IntKind.bits,IntKind.signed]at e ⊢;simp at e ⊢;omega
 rw[this]
def yMp {s:List UInt8} (h:s.length<=255) (l:List UInt8):RB.text ⟨lI s++l,ao⟩=(s,⟨l,ao⟩):=by
 have ht:s.take 255=s:=y8l h;have e:((lob (s.length:Int)).toNat:Int)=s.length:=by rw[yQf];omega
 rw[lI,ht,y9q,RB.text,uN];dsimp only;rw[e];have e:(RB.mk (s++l) ao).n ((s.length:Int)).toNat=RN.mk (s++l) ao s.length:=rfl;obtain⟨h1,h2,h3⟩:=z7e s l;rw[e,h1,h2,h3]
def zEv {n:Int} (h:0<=n/\n<=255):((lob n).toNat:Int)=n:=by rw[yQf];omega
def yAz (s:List UInt8):∀(k p:Nat),s.length-p<=k->s.length-p<=4*(gB s p).length
 |0,p,h=>by rw[uB (by omega)];simp;omega
 |k+1,p,h=>by
  by_cases hp:p<s.length
  ·have hw:=bC s hp;have h4:(Utf8.decode (sb s) p).2<=4:=by
    unfold Utf8.decode;simp only[zMi,y8o,y9o]
    repeat' split
    all_goals simp
   rw[jW hp,y8f];have:=yAz s k (p+(Utf8.decode (sb s) p).2) oM;omega
  ·rw[uB (by omega)];simp;omega
def yDe {s:List UInt8} (h:s=[]\/dG s=ap):s.length<=48:=by
 obtain rfl|h:=h
 ·simp
 ·simp only[dG,y8o,y9o]at h;have:=yAz s s.length 0 oM;rw[kZ,y8b]at h;omega
def sF {c:Cmd} (h:c.right=0):(1<=c.kind/\c.kind<=4)/\(1<=c.id/\c.id<=1099511627776)/\
 (c.kind≠2->1<=c.qty/\c.qty<=1000000)/\(c.kind=1\/c.kind=4->-2000000<=c.price/\c.price<=2000000)/\
 (c.kind=1->(c.side=1\/c.side=2)/\(1<=c.time/\c.time<=3)/\(0<=c.least/\c.least<=c.qty)/\(0<=c.inst/\c.inst<=255)/\c.label.length<=48):=by
 rw[Cmd.right]at h;split at h;·cases h
 split at h;·cases h
 rename_i h1 h2;refine⟨oM,oM,?_⟩;split at h
 ·rename_i hk;rw[Cmd.orderE]at h
  iterate 7 (split at h;·cases h)
  rename_i a1 a2 a3 a4 a5 a6 a7;simp only[kO,Bool.not_eq_false,y8o,y9o]at a3;simp only[vT,Bool.not_eq_false,y8o,y9o]at a6;refine⟨λ_=>a3,λ_=>a6,λ_=>⟨oM,oM,oM,oM,yDe ?_⟩⟩;by_cases hl:c.label=[]
  ·exact .inl hl
  ·exact .inr (by simpa[hl]using a5)
 ·rename_i hk;split at h;·cases h
  split at h;·cases h
  rename_i a1 a2;refine⟨λh2=> ?_,λh2=> ?_,λh2=>absurd h2 hk⟩
  ·simpa[h2,kO]using a1
  ·simpa[show c.kind=4 by omega,vT]using a2
def yHe {n:Int} (h:i64r n):RB.long ⟨le n 8,ao⟩=(n,⟨[],ao⟩):=by
 have:=cT h [];rwa [y8x]at this
def yGq {s:List UInt8} (h:s.length<=255):RB.text ⟨lI s,ao⟩=(s,⟨[],ao⟩):=by
 have:=yMp h [];rwa [y8x]at this
def yNq {c:Cmd} (h:c.right=0):x7 c.kind c.id ⟨c.tail,ao⟩=(c.asks,⟨[],ao⟩):=by
 obtain⟨hk,hi,hq,hp,ho⟩:=sF h;rw[x7,Cmd.tail,Cmd.asks];by_cases h1:c.kind=1
 ·obtain⟨hs,ht,hl,hn,hb⟩:=ho h1;have hq:=hq oM;have hp:=hp (.inl h1);simp only[y8c h1];rw[uN];dsimp only;rw[uN];dsimp only;rw[uN];dsimp only;rw[cT ⟨by omega,by omega⟩];dsimp only;rw[cT ⟨by omega,by omega⟩];dsimp only;rw[cT ⟨by omega,by omega⟩];dsimp only;rw[yGq (by omega),zEv (by omega),zEv (by omega),zEv (by omega)]
 ·by_cases h3:c.kind=3
  ·have hq:=hq oM;simp only[h3,y8c,y7z,show ¬((3:Int)=1)by decide,show ¬((3:Int)=2)by decide,if_false,if_true];rw[yHe ⟨by omega,by omega⟩]
  ·by_cases h4:c.kind=4
   ·have hq:=hq oM;have hp:=hp (.inr h4);simp only[h4,show ¬((4:Int)=1)by decide,show ¬((4:Int)=2)by decide,show ¬((4:Int)=3)by decide,if_false,if_true];rw[cT ⟨by omega,by omega⟩];dsimp only;rw[yHe ⟨by omega,by omega⟩]
   ·have h2:c.kind=2:=by omega
    simp only[h2,show ¬((2:Int)=1)by decide,show ¬((2:Int)=4)by decide,show ¬((2:Int)=3)by decide,if_false,if_true]
def z3y {c:Cmd} (h:c.right=0):c.asks.right=0:=by
 obtain⟨hk,hi,hq,hp,ho⟩:=sF h;rw[Cmd.asks];split
 ·exact h
 split
 ·rw[Cmd.right];simp only[];repeat (first|rw[y7z (by omega)]|rw[y7z (by decide)]|rw[y7z (by simp)])
 split
 ·have:=hq oM;rw[Cmd.right];simp only[];rw[y7z (by decide),y7z (by omega),y7z (by decide),y7z (by simp[kO];omega),y7z (by simp)]
 split
 ·have:=hq oM;have:=hp (.inr oM);rw[Cmd.right];simp only[];rw[y7z (by decide),y7z (by omega),y7z (by decide),y7z (by simp[kO];omega),y7z (by simp[vT];omega)]
 ·omega
def yQp {c:Cmd} (h:c.right=0):xN c.enc=(c.asks,0):=by
 obtain⟨hk,hi,_⟩:=sF h;have e:c.enc=lob c.kind::(le c.id 8++c.tail):=by rw[Cmd.enc,y7z (by simp[h])]
 rw[xN,e,uN];dsimp only;rw[zEv (by omega),y7z (by omega),cT ⟨by omega,by omega⟩];dsimp only;rw[yNq h];dsimp only;rw[y7z (by simp[RB.endOf]),y7z (by rw[z3y h];simp)]
end Sx
